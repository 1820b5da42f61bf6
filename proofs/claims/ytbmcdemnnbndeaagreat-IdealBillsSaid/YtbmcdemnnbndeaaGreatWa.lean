/-
  Words added; reckoned.
-/
import Derived.Test.YtbmcdemnnbndeaaGreatPqk
import Derived.Sort.Walk13a
import Derived.Test.YtbmcdemnnbndeaaGreatAvW
import Derived.Test.YtbmcdemnnbndeaaGreatPqf
import Derived.MapKept
import Derived.WideKeyMaps
import Derived.Maps.RangeRun
namespace Go.Proofs.YtbmcdemnnbndeaaGreat
set_option linter.unusedSimpArgs false
set_option linter.unusedVariables false
section
open Go.RowKit
open Nat (reduceBEq)
attribute [-go_sem] IntKind.bits
set_option maxRecDepth 20000
set_option maxHeartbeats 4000000
attribute [local simp] Q0o Q0a Q0n
section
variable {P:Program} {σ : St} {Φ : Exit→St→Prop}
theorem AW.seqJ{x y:Code}(J:St)(h1:∀Ψ : Exit→St→Prop,(∀σ',σ'.le J→Ψ .normal σ')→(∀ex σ',ex≠.normal→Φ ex σ'→Ψ ex σ')→evC P x σ Ψ)(h2:AW P y J Φ):AW P (.seq x y) σ Φ:=by
 have h:=Q1x _ _ _ (h1 (fun ex σ'=>match ex with | .normal=>σ'.le J|ex=>Φ ex σ') (fun σ' h=>h) (fun ex σ' hne h=>by cases ex<;>first|exact absurd rfl hne|exact h))
 intro E ι a w hc
 refine wp_seq (wp_mono (h E ι a w hc) fun ex a' w'=>?_)
 rintro ⟨ι',σ',hc',hq⟩
 cases ex with
 |normal=>exact h2 E ι' a' w' (hc'.le hq)
 |_=>exact⟨ι',σ',hc',hq⟩
theorem AW.blk{id:Nat}{x:Code}(h:∀Ψ : Exit→St→Prop,(∀σ',Φ .normal σ'→Ψ (.exit id) σ')→(∀ex σ',(∀j,ex = .exit j→j≠id)→Φ ex σ'→Ψ ex σ')→AW P x σ Ψ):AW P (.block id x) σ Φ:=by
 intro E ι a w hc
 have h:=h (fun ex σ'=>match ex with | .exit j=>if j=id then Φ .normal σ' else Φ (.exit j) σ'|ex=>Φ ex σ') (fun σ' h=>by simp only[↓reduceIte];exact h)
  (fun ex σ' hne h=>by
    cases ex with
    |exit j=>simp only;rw[if_neg (hne j rfl)];exact h
    |_=>exact h)
 refine wp_block (wp_mono (h E ι a w hc) fun ex a' w'=>?_)
 rintro ⟨ι',σ',hc',hΦ⟩
 cases ex with
 |exit j=>
  unfold Exit.inBlock
  simp only at hΦ ⊢
  split at hΦ
  · rename_i e;rw[if_pos e];exact⟨ι',σ',hc',hΦ⟩
  · rename_i e;rw[if_neg e];exact⟨ι',σ',hc',hΦ⟩
 |_=>exact⟨ι',σ',hc',hΦ⟩
theorem AW.loopA{c:Code}{α : Type}(I:α→St)(μ : α→Nat)(x0:α)(h0:σ.le (I x0))
 (round:∀x,∀Ψ : Exit→St→Prop,(∀σ' y,μ y < μ x→σ'.le (I y)→Ψ .normal σ')→(∀ex σ',ex≠.normal→Φ ex σ'→Ψ ex σ')→AW P c (I x) Ψ):AW P (.loop c) σ Φ:=by
 intro E ι a w hc b k cs
 have key:∀n x ι a w,μ x=n→Conc E ι (I x) a w→∃e a' w',(∃ι' σ',Conc E ι' σ' a' w'∧Φ e σ')∧Arrives P (lone (b.at a (.code c :: .inLoop c::k)) cs w) b k cs e a' w':=by
  intro n
  induction n using Nat.strongRecOn with
  |_ n ih=>
   intro x ι a w hn hI
   obtain⟨e,a₁,w₁,⟨ι₁,σ₁,hc₁,hq⟩,harr⟩:=round x (fun ex σ'=>match ex with | .normal=>∃y,μ y < μ x∧σ'.le (I y)|ex=>Φ ex σ') (fun σ' y h1 h2=>⟨y,h1,h2⟩) (fun ex σ' hne h=>by cases ex<;>first|exact absurd rfl hne|exact h) E ι a w hI b (.inLoop c::k) cs
   cases e with
   |normal=>
    obtain⟨y,hlt,hle⟩:=hq
    obtain⟨e₂,a₂,w₂,hq₂,harr₂⟩:=ih (μ y) (hn▸hlt) y ι₁ a₁ w₁ rfl (hc₁.le hle)
    exact⟨e₂,a₂,w₂,hq₂,.of_steps (Steps.trans harr (.one step_inLoop)) harr₂⟩
   |exit id=>exact⟨_,a₁,w₁,⟨ι₁,σ₁,hc₁,hq⟩,.pass (x:=.inLoop c) rfl (fun _ _=>.inl (by simp)) harr⟩
   |goto l=>exact⟨_,a₁,w₁,⟨ι₁,σ₁,hc₁,hq⟩,.pass (x:=.inLoop c) rfl (fun _ _=>.inl (by simp)) harr⟩
   |ret=>exact⟨_,a₁,w₁,⟨ι₁,σ₁,hc₁,hq⟩,.pass (x:=.inLoop c) rfl (fun _ _=>.inl (by simp)) harr⟩
   |panic ch=>exact⟨_,a₁,w₁,⟨ι₁,σ₁,hc₁,hq⟩,.pass (x:=.inLoop c) rfl (fun _ _=>.inl (by simp)) harr⟩
   |outgrown=>exact⟨_,a₁,w₁,⟨ι₁,σ₁,hc₁,hq⟩,.pass (x:=.inLoop c) rfl (fun _ _=>.inl (by simp)) harr⟩
 obtain⟨e,a',w',hq,harr⟩:=key _ x0 ι a w rfl (hc.le h0)
 exact⟨e,a',w',hq,.of_steps (.one step_loop) harr⟩
end
theorem swoI:Sort.SWO ltI:=⟨fun x=>by simp,fun x y z h1 h2=>by simp at h1 h2 ⊢;omega,fun x y z h1 h2=>by simp at h1 h2 ⊢;omega⟩
structure QS where
 a:Nat
 b:Nat
 l:Nat
 w:Bool
 p:Bool
 d:Array Int
abbrev stQ0(n:Nat)(q:QS):St:=⟨[.row 1000 adT 1 n,vi .i64 (q.a:Int),vi .i64 (q.b:Int),vi .i64 (q.l:Int),.any,.any,.any,.any,vb q.w,vb q.p,.any,.any,.any,.any,.any,.any,.any,.any,.any,.any,.any,.any,.any,.any,.any,.any,.any,.any,.any,.any,.any,.any,.any,.any,.any,.any,.any,.any,.any,.any,.any,.any,.any,.any,.any,.any,.any,.any,.any,.any,.any,.any,.any,.any,.any,.any,.any,.any,.any,.any,.any,.any,.any,.any,.any,.any,.any,.any,.any,.any,.any,.any,.any,.any,.any,.any,.any,.any,.any,.any,.any,.any,.any,.any,.any,.any,.any,.any,.any,.any,.any,.any,.any,.any,.any,.any,.any,.any,.any,.any,.any,.any,.any,.any,.any,.any,.any,.any,.any,.any,.any,.any,.any,.any,.any,.any,.any,.any,.any,.any,.any,.any,.any,.any,.any,.any,.any,.any,.any,.any,.any,.any,.any,.any],[(1000,rI q.d)]⟩
abbrev stQ1(n a b l c:Nat)(w p:Bool)(d:Array Int):St:=⟨[.row 1000 adT 1 n,vi .i64 (a:Int),vi .i64 (b:Int),vi .i64 (l:Int),.any,.any,.any,.any,vb w,vb p,vi .i64 (c:Int),.any,.any,.any,.any,.any,.any,.any,.any,.any,.any,.any,.any,.any,.any,.any,.any,.any,.any,.any,.any,.any,.any,.any,.any,.any,.any,.any,.any,.any,.any,.any,.any,.any,.any,.any,.any,.any,.any,.any,.any,.any,.any,.any,.any,.any,.any,.any,.any,.any,.any,.any,.any,.any,.any,.any,.any,.any,.any,.any,.any,.any,.any,.any,.any,.any,.any,.any,.any,.any,.any,.any,.any,.any,.any,.any,.any,.any,.any,.any,.any,.any,.any,.any,.any,.any,.any,.any,.any,.any,.any,.any,.any,.any,.any,.any,.any,.any,.any,.any,.any,.any,.any,.any,.any,.any,.any,.any,.any,.any,.any,.any,.any,.any,.any,.any,.any,.any,.any,.any,.any,.any,.any,.any],[(1000,rI d)]⟩
abbrev stQ2(n a b l c:Nat)(w p:Bool)(d:Array Int)(v:Nat)(h:Int):St:=⟨[.row 1000 adT 1 n,vi .i64 (a:Int),vi .i64 (b:Int),vi .i64 (l:Int),.any,.any,.any,.any,vb w,vb p,vi .i64 (c:Int),vi .i64 (v:Int),vi .i64 h,.any,.any,.any,.any,.any,.any,.any,.any,.any,.any,.any,.any,.any,.any,.any,.any,.any,.any,.any,.any,.any,.any,.any,.any,.any,.any,.any,.any,.any,.any,.any,.any,.any,.any,.any,.any,.any,.any,.any,.any,.any,.any,.any,.any,.any,.any,.any,.any,.any,.any,.any,.any,.any,.any,.any,.any,.any,.any,.any,.any,.any,.any,.any,.any,.any,.any,.any,.any,.any,.any,.any,.any,.any,.any,.any,.any,.any,.any,.any,.any,.any,.any,.any,.any,.any,.any,.any,.any,.any,.any,.any,.any,.any,.any,.any,.any,.any,.any,.any,.any,.any,.any,.any,.any,.any,.any,.any,.any,.any,.any,.any,.any,.any,.any,.any,.any,.any,.any,.any,.any,.any],[(1000,rI d)]⟩
theorem pdq_fn(n:Nat)(hn:n≤1000000):∀(m a b l:Nat) (d:Array Int),b-a≤m→a≤b→b≤n→l≤64→d.size=n→Sort.Below ltI a b d→Fn Tryz.prog 61 [.row 1000 adT 1 n,vi .i64 (a:Int),vi .i64 (b:Int),vi .i64 (l:Int)] [(1000,rI d)] (.tup []) [(1000,rI (Sort.pdq ltI d a b l true true))]:=by
 intro m
 induction m with
 |zero=>
  intro a b l d h1 h2 h3 h4 h5 h6
  have g:=ins_fn n a b h2 h3 hn d h5
  rw[Sort.pdq_small (by omega)]
  have k1:decide (((b-a:Nat):Int)≤12)=true:=decide_eq_true (by omega)
  have w1:(b:Int)-(a:Int)=((b-a:Nat):Int):=by omega
  (refine Q1c Tryz.func61 rfl (by rfl) ?_;simp only[Tryz.ntmps61,List.length_cons,List.length_nil,Nat.reduceAdd,Nat.reduceSub,List.replicate,List.cons_append,List.nil_append])
  refine Q0e ?_;intro Ψ hΨ hΨ'
  (repeat(any_goals(first|((with_reducible refine Q0d ?_ ?_);rfl;intro K hK;simp(disch:=omega) only[go_sem];((repeat(refine ndI (by first|assumption|rfl) ?_));refine hK _ ?_;clear hK K))|(with_reducible first|(refine Q0c ?_;refine hR _ ?_;clear hR R)|((first|refine Q0e ?_|refine Q0g ?_);intro Ψ hΨ hΨ')|(refine Q0b ?_;intro R hR)|(refine hΨ _ ?_;clear hΨ hΨ' Ψ)))))
  refine Q2n (α:=Unit) (fun _=>stQ0 n ⟨a,b,l,true,true,d⟩) (fun _=>0) () (St.le_of (by simp[leT]) (by simp[leH,hget])) ?_
  rintro ⟨⟩ Ψ hΨ hΨ'
  (have W:=ndI k1 (ndI w1 @wrI);(repeat(any_goals(first|((with_reducible refine Q0p ?_ ?_ ?_);rfl;rfl;intro K hK;(apply Q1b (g) (fun r=>r);rfl;rfl;rfl;rfl;exact Tryz.func74;kernel_rfl;rfl;rfl;(intro r hr q hq h;simp(disch:=omega) only[List.map_cons,List.map_nil,List.cons_append,List.nil_append,List.mem_cons,List.not_mem_nil,or_false] at hr hq;(try dsimp only at h);first|omega);(simp(disch:=omega) only[Q1f,Q1y,AV.ren,AV.renL,Q0q,List.mem_cons,List.not_mem_nil,forall_eq_or_imp,forall_eq,Q1t,List.contains_cons,List.contains_nil,AV.refsL,AV.refs,Q0m,AV.inN,AV.inNL,inH,Q1a,go_sem,W,Q0o,Q0n,Q0a,Nat.mul_one]));(simp(disch:=omega) only[Q0x,Q2c,renH,AV.ren,AV.renL,Q0q,go_sem,W,Q0o,Q0n,Q0a,Nat.mul_one];refine hK _ ?_;clear hK K))|((with_reducible refine Q0d ?_ ?_);rfl;intro K hK;simp(disch:=omega) only[go_sem,W,Q0o,Q0n,Q0a,Nat.mul_one];((repeat(refine ndI (by first|assumption|rfl) ?_));refine hK _ ?_;clear hK K))|(with_reducible first|(refine Q0c ?_;refine hR _ ?_;clear hR R)|((first|refine Q0e ?_|refine Q0g ?_);intro Ψ hΨ hΨ')|(refine Q0b ?_;intro R hR)|(refine hΨ _ ?_;clear hΨ hΨ' Ψ)|refine Q0l ?_)|((with_reducible refine hΨ' _ _ ?_ ?_);(focus(simp;done));clear hΨ hΨ' Ψ)|((with_reducible apply Q0f);rfl;rfl;all_goals(intro hc;first|(cases hc;done)|(try simp only at hc)))))))
  all_goals(refine⟨by simp,⟨_,?_,AV.le_refl _⟩,Q0i (by simp[leH,hget])⟩;simp only[Tryz.results61,resL,ldA,Q0z,go_sem])
 |succ m ih=>
 intro a0 b0 l0 d0 h1 h2 h3 h4 h5 h6
 obtain⟨res,hres⟩:∃q,Sort.pdq ltI d0 a0 b0 l0 true true=q:=⟨_,rfl⟩
 rw[hres]
 (refine Q1c Tryz.func61 rfl (by rfl) ?_;simp only[Tryz.ntmps61,List.length_cons,List.length_nil,Nat.reduceAdd,Nat.reduceSub,List.replicate,List.cons_append,List.nil_append])
 (repeat(any_goals(first|((with_reducible refine Q0d ?_ ?_);rfl;intro K hK;simp(disch:=omega) only[go_sem];((repeat(refine ndI (by first|assumption|rfl) ?_));refine hK _ ?_;clear hK K))|(with_reducible first|(refine Q0c ?_;refine hR _ ?_;clear hR R)|((first|refine Q0e ?_|refine Q0g ?_);intro Ψ hΨ hΨ')|(refine Q0b ?_;intro R hR)|(refine hΨ _ ?_;clear hΨ hΨ' Ψ)))))
 unfold evC
 refine AW.loopA (α:={q:QS // q.a≤q.b∧q.b≤n∧q.b-q.a≤m+1∧q.l≤64∧q.d.size=n∧Sort.Below ltI q.a q.b q.d∧Sort.pdq ltI q.d q.a q.b q.l q.w q.p=res}) (fun q=>stQ0 n q.1) (fun q=>q.1.b-q.1.a) ⟨⟨a0,b0,l0,true,true,d0⟩,h2,h3,h1,h4,h5,h6,hres⟩ (St.le_of (by simp[leT]) (by simp[leH,hget])) ?_
 rintro ⟨⟨a,b,l,wb,wp,d⟩,g1,g2,g3,g4,hs,hB,hq⟩ Ψ hN hΨ'
 (try dsimp only at g1 g2 g3 g4 hs hB hq hN ⊢)
 have hΨ:=trivial
 clear hres h1 h2 h3 h4 h5 h6
 have w1:(b:Int)-(a:Int)=((b-a:Nat):Int):=by omega
 by_cases h12:b-a≤12
 · have g:=ins_fn n a b g1 g2 hn d hs
   rw[Sort.pdq_small h12] at hq
   rw[hq] at g
   clear hq hN
   have k1:decide (((b-a:Nat):Int)≤12)=true:=decide_eq_true (by omega)
   refine Q1x _ _ _ ?_
   (have W:=ndI k1 (ndI w1 @wrI);(repeat(any_goals(first|((with_reducible refine Q0p ?_ ?_ ?_);rfl;rfl;intro K hK;(apply Q1b (g) (fun r=>r);rfl;rfl;rfl;rfl;exact Tryz.func74;kernel_rfl;rfl;rfl;(intro r hr q hq h;simp(disch:=omega) only[List.map_cons,List.map_nil,List.cons_append,List.nil_append,List.mem_cons,List.not_mem_nil,or_false] at hr hq;(try dsimp only at h);first|omega);(simp(disch:=omega) only[Q1f,Q1y,AV.ren,AV.renL,Q0q,List.mem_cons,List.not_mem_nil,forall_eq_or_imp,forall_eq,Q1t,List.contains_cons,List.contains_nil,AV.refsL,AV.refs,Q0m,AV.inN,AV.inNL,inH,Q1a,go_sem,W,Q0o,Q0n,Q0a,Nat.mul_one]));(simp(disch:=omega) only[Q0x,Q2c,renH,AV.ren,AV.renL,Q0q,go_sem,W,Q0o,Q0n,Q0a,Nat.mul_one];refine hK _ ?_;clear hK K))|((with_reducible refine Q0d ?_ ?_);rfl;intro K hK;simp(disch:=omega) only[go_sem,W,Q0o,Q0n,Q0a,Nat.mul_one];((repeat(refine ndI (by first|assumption|rfl) ?_));refine hK _ ?_;clear hK K))|(with_reducible first|(refine Q0c ?_;refine hR _ ?_;clear hR R)|((first|refine Q0e ?_|refine Q0g ?_);intro Ψ hΨ hΨ')|(refine Q0b ?_;intro R hR)|(refine hΨ _ ?_;clear hΨ hΨ' Ψ)|refine Q0l ?_)|((with_reducible refine hΨ' _ _ ?_ ?_);(focus(simp;done));clear hΨ hΨ' Ψ)|((with_reducible apply Q0f);rfl;rfl;all_goals(intro hc;first|(cases hc;done)|(try simp only at hc)))))))
   all_goals(refine⟨by simp,⟨_,?_,AV.le_refl _⟩,Q0i (by simp[leH,hget])⟩;simp only[Tryz.results61,resL,ldA,Q0z,go_sem])
 have k1:decide (((b-a:Nat):Int)≤12)=false:=decide_eq_false (by omega)
 by_cases hl0:l=0
 · have g:=heap_fn n a b g1 g2 hn d hs
   rw[Sort.pdq_heap h12 hl0] at hq
   rw[hq] at g
   clear hq hN
   have k2:((l:Int)==0)=true:=by simp[hl0]
   refine Q1x _ _ _ ?_
   (have W:=ndI k1 (ndI k2 (ndI w1 @wrI));(repeat(any_goals(first|((with_reducible refine Q0p ?_ ?_ ?_);rfl;rfl;intro K hK;(apply Q1b (g) (fun r=>r);rfl;rfl;rfl;rfl;exact Tryz.func75;kernel_rfl;rfl;rfl;(intro r hr q hq h;simp(disch:=omega) only[List.map_cons,List.map_nil,List.cons_append,List.nil_append,List.mem_cons,List.not_mem_nil,or_false] at hr hq;(try dsimp only at h);first|omega);(simp(disch:=omega) only[Q1f,Q1y,AV.ren,AV.renL,Q0q,List.mem_cons,List.not_mem_nil,forall_eq_or_imp,forall_eq,Q1t,List.contains_cons,List.contains_nil,AV.refsL,AV.refs,Q0m,AV.inN,AV.inNL,inH,Q1a,go_sem,W,Q0o,Q0n,Q0a,Nat.mul_one]));(simp(disch:=omega) only[Q0x,Q2c,renH,AV.ren,AV.renL,Q0q,go_sem,W,Q0o,Q0n,Q0a,Nat.mul_one];refine hK _ ?_;clear hK K))|((with_reducible refine Q0d ?_ ?_);rfl;intro K hK;simp(disch:=omega) only[go_sem,W,Q0o,Q0n,Q0a,Nat.mul_one];((repeat(refine ndI (by first|assumption|rfl) ?_));refine hK _ ?_;clear hK K))|(with_reducible first|(refine Q0c ?_;refine hR _ ?_;clear hR R)|((first|refine Q0e ?_|refine Q0g ?_);intro Ψ hΨ hΨ')|(refine Q0b ?_;intro R hR)|(refine hΨ _ ?_;clear hΨ hΨ' Ψ)|refine Q0h ?_|refine Q0l ?_)|((with_reducible refine hΨ' _ _ ?_ ?_);(focus(simp;done));clear hΨ hΨ' Ψ)|((with_reducible apply Q0f);rfl;rfl;all_goals(intro hc;first|(cases hc;done)|(try simp only at hc)))))))
   all_goals(refine⟨by simp,⟨_,?_,AV.le_refl _⟩,Q0i (by simp[leH,hget])⟩;simp only[Tryz.results61,resL,ldA,Q0z,go_sem])
 have k2:((l:Int)==0)=false:=by simp;omega
 obtain⟨r,hr⟩:∃r,Sort.rd ltI d a b l wb wp=r:=⟨_,rfl⟩
 obtain⟨s1,B1,hc1,s2,B2,hpv,s3,B3⟩:=Sort.rd_facts (limit:=l) (wb:=wb) (wp:=wp) swoI Sort.partialInsertionSort_holds Sort.reverseRange_holds (show a<b by omega) (show b≤d.size by omega) hB
 have q1:=Sort.pdq_done (lt:=ltI) (d:=d) (wb:=wb) (wp:=wp) h12 hl0
 have q2:=Sort.pdq_eq (lt:=ltI) (d:=d) (wb:=wb) (wp:=wp) h12 hl0
 have q3:=Sort.pdq_left (lt:=ltI) (d:=d) (wb:=wb) (wp:=wp) h12 hl0
 have q4:=Sort.pdq_right (lt:=ltI) (d:=d) (wb:=wb) (wp:=wp) h12 hl0
 have rc:=Sort.rd_c (lt:=ltI) (d:=d) (a:=a) (b:=b) (limit:=l) (wb:=wb) (wp:=wp)
 have rl:=Sort.rd_lim_le (lt:=ltI) (d:=d) (a:=a) (b:=b) (limit:=l) (wb:=wb) (wp:=wp)
 have rdec:=Sort.rd_dec (lt:=ltI) (d:=d) (a:=a) (b:=b) (limit:=l) (wb:=wb) (wp:=wp)
 have rnot:=Sort.rd_not (lt:=ltI) (d:=d) (a:=a) (b:=b) (limit:=l) (wb:=wb) (wp:=wp)
 have rpy:=Sort.rd_pi_yes (lt:=ltI) (d:=d) (a:=a) (b:=b) (limit:=l) (wb:=wb) (wp:=wp)
 have rpn:=Sort.rd_pi_no (lt:=ltI) (d:=d) (a:=a) (b:=b) (limit:=l) (wb:=wb) (wp:=wp)
 rw[hq] at q1 q2 q3 q4
 rw[hr] at s1 B1 hc1 s2 B2 hpv s3 B3 q1 q2 q3 q4 rc rl rdec rnot rpy rpn
 rw[hs] at s1 s2 s3
 clear hq
 have Hc:=fun (_:1=1)=>rc
 clear rc
 obtain⟨c0,hc0⟩:∃c,b-a=c:=⟨_,rfl⟩
 rw[hc0] at k1 w1
 have w2:((l:Int))-1=((l-1:Nat):Int):=by omega
 refine AW.blk ?_
 intro Ψ hΨ hΨ'
 refine AW.seqJ (stQ1 n a b l c0 wb wp d) ?_ ?_
 · intro Ψ hΨ hΨ'
   (repeat(any_goals(first|((with_reducible refine Q0d ?_ ?_);rfl;intro K hK;simp(disch:=omega) only[go_sem,w1,Q0o,Q0n,Q0a,Nat.mul_one,wrI];((repeat(refine ndI (by first|assumption|rfl) ?_));refine hK _ ?_;clear hK K))|(with_reducible first|(refine Q0c ?_;refine hR _ ?_;clear hR R)|(refine Q0b ?_;intro R hR)|(refine hΨ _ ?_;clear hΨ hΨ' Ψ)))))
   all_goals exact(St.le_of (by simp[leT]) (by simp[leH,hget]))
 refine AW.seqJ (stQ1 n a b l c0 wb wp d) ?_ ?_
 · intro Ψ hΨ hΨ'
   (repeat(any_goals(first|((with_reducible refine Q0d ?_ ?_);rfl;intro K hK;simp(disch:=omega) only[go_sem,k1,Q0o,Q0n,Q0a,Nat.mul_one,wrI];((repeat(refine ndI (by first|assumption|rfl) ?_));refine hK _ ?_;clear hK K))|(with_reducible first|(refine Q0c ?_;refine hR _ ?_;clear hR R)|((first|refine Q0e ?_);intro Ψ hΨ hΨ')|(refine Q0b ?_;intro R hR)|(refine hΨ _ ?_;clear hΨ hΨ' Ψ)|refine Q0h ?_)|((with_reducible apply Q0f);rfl;rfl;all_goals(intro hc;first|(cases hc;done)|(try simp only at hc))))))
   all_goals exact(St.le_of (by simp[leT]) (by simp[leH,hget]))
 refine AW.seqJ (stQ1 n a b l c0 wb wp d) ?_ ?_
 · intro Ψ hΨ hΨ'
   (repeat(any_goals(first|((with_reducible refine Q0d ?_ ?_);rfl;intro K hK;simp(disch:=omega) only[go_sem,k2,Q0o,Q0n,Q0a,Nat.mul_one,wrI];((repeat(refine ndI (by first|assumption|rfl) ?_));refine hK _ ?_;clear hK K))|(with_reducible first|(refine Q0c ?_;refine hR _ ?_;clear hR R)|((first|refine Q0e ?_);intro Ψ hΨ hΨ')|(refine Q0b ?_;intro R hR)|(refine hΨ _ ?_;clear hΨ hΨ' Ψ)|refine Q0h ?_)|((with_reducible apply Q0f);rfl;rfl;all_goals(intro hc;first|(cases hc;done)|(try simp only at hc))))))
   all_goals exact(St.le_of (by simp[leT]) (by simp[leH,hget]))
 refine AW.seqJ (stQ1 n a b r.lim c0 wb wp r.d1) ?_ ?_
 · intro Ψ hΨ hΨ'
   cases wb with
   |true=>
    have e1:d=r.d1:=by rw[←hr];rfl
    have e2:l=r.lim:=by rw[←hr];rfl
    rw[←e1,←e2] at hΨ
    clear q1 q2 q3 q4 rdec rnot rpy rpn
    (repeat(any_goals(first|((with_reducible refine Q0d ?_ ?_);rfl;intro K hK;simp(disch:=omega) only[go_sem,Q0o,Q0n,Q0a,Nat.mul_one,wrI];((repeat(refine ndI (by first|assumption|rfl) ?_));refine hK _ ?_;clear hK K))|(with_reducible first|(refine Q0c ?_;refine hR _ ?_;clear hR R)|((first|refine Q0e ?_);intro Ψ hΨ hΨ')|(refine Q0b ?_;intro R hR)|(refine hΨ _ ?_;clear hΨ hΨ' Ψ)|refine Q0h ?_)|((with_reducible apply Q0f);rfl;rfl;all_goals(intro hc;first|(cases hc;done)|(try simp only at hc))))))
    all_goals exact(St.le_of (by simp[leT]) (by simp[leH,hget]))
   |false=>
    have e1:Sort.breakPatterns d a b=r.d1:=by rw[←hr];rfl
    have e2:l-1=r.lim:=by rw[←hr];rfl
    have g:=brk_fn n a b g1 g2 hn d hs
    rw[e1] at g
    rw[e2] at w2
    clear e1 e2 q1 q2 q3 q4 rdec rnot rpy rpn
    (repeat(any_goals(first|((with_reducible refine Q0p ?_ ?_ ?_);rfl;rfl;intro K hK;(apply Q1b (g) (fun r=>r);rfl;rfl;rfl;rfl;exact Tryz.func76;kernel_rfl;rfl;rfl;(intro r hr q hq h;simp(disch:=omega) only[List.map_cons,List.map_nil,List.cons_append,List.nil_append,List.mem_cons,List.not_mem_nil,or_false] at hr hq;(try dsimp only at h);first|omega);(simp(disch:=omega) only[Q1f,Q1y,AV.ren,AV.renL,Q0q,List.mem_cons,List.not_mem_nil,forall_eq_or_imp,forall_eq,Q1t,List.contains_cons,List.contains_nil,AV.refsL,AV.refs,Q0m,AV.inN,AV.inNL,inH,Q1a,go_sem,w2,Q0o,Q0n,Q0a,Nat.mul_one,wrI]));(simp(disch:=omega) only[Q0x,Q2c,renH,AV.ren,AV.renL,Q0q,go_sem,w2,Q0o,Q0n,Q0a,Nat.mul_one,wrI];refine hK _ ?_;clear hK K))|((with_reducible refine Q0d ?_ ?_);rfl;intro K hK;simp(disch:=omega) only[go_sem,w2,Q0o,Q0n,Q0a,Nat.mul_one,wrI];((repeat(refine ndI (by first|assumption|rfl) ?_));refine hK _ ?_;clear hK K))|(with_reducible first|(refine Q0c ?_;refine hR _ ?_;clear hR R)|((first|refine Q0e ?_);intro Ψ hΨ hΨ')|(refine Q0b ?_;intro R hR)|(refine hΨ _ ?_;clear hΨ hΨ' Ψ))|((with_reducible apply Q0f);rfl;rfl;all_goals(intro hc;first|(cases hc;done)|(try simp only at hc))))))
    all_goals exact(St.le_of (by simp[leT]) (by simp[leH,hget]))
 have gl:r.lim≤64:=Nat.le_trans rl g4
 clear w2 rl
 refine AW.seqJ (stQ2 n a b r.lim c0 wb wp r.d1 r.c.1 (Q6v r.c.2)) ?_ ?_
 · intro Ψ hΨ hΨ'
   have g:=choose_fn n a b (by omega) g2 hn r.d1 s1
   rw[←Hc rfl] at g
   clear q1 q2 q3 q4 rdec rnot rpy rpn
   (repeat(any_goals(first|((with_reducible refine Q0p ?_ ?_ ?_);rfl;rfl;intro K hK;(apply Q1b (g) (fun r=>r);rfl;rfl;rfl;rfl;exact Tryz.func77;kernel_rfl;rfl;rfl;(intro r hr q hq h;simp(disch:=omega) only[List.map_cons,List.map_nil,List.cons_append,List.nil_append,List.mem_cons,List.not_mem_nil,or_false] at hr hq;(try dsimp only at h);first|omega);(simp(disch:=omega) only[Q1f,Q1y,AV.ren,AV.renL,Q0q,List.mem_cons,List.not_mem_nil,forall_eq_or_imp,forall_eq,Q1t,List.contains_cons,List.contains_nil,AV.refsL,AV.refs,Q0m,AV.inN,AV.inNL,inH,Q1a,go_sem,Q0o,Q0n,Q0a,Nat.mul_one,wrI]));(simp(disch:=omega) only[Q0x,Q2c,renH,AV.ren,AV.renL,Q0q,go_sem,Q0o,Q0n,Q0a,Nat.mul_one,wrI];refine hK _ ?_;clear hK K))|((with_reducible refine Q0d ?_ ?_);rfl;intro K hK;simp(disch:=omega) only[go_sem,Q0o,Q0n,Q0a,Nat.mul_one,wrI];((repeat(refine ndI (by first|assumption|rfl) ?_));refine hK _ ?_;clear hK K))|(with_reducible first|(refine Q0c ?_;refine hR _ ?_;clear hR R)|(refine Q0b ?_;intro R hR)|(refine hΨ _ ?_;clear hΨ hΨ' Ψ)))))
   all_goals exact(St.le_of (by simp[leT]) (by simp[leH,hget]))
 refine AW.seqJ (stQ2 n a b r.lim c0 wb wp r.d2 r.pivot (Q6v r.hint)) ?_ ?_
 · intro Ψ hΨ hΨ'
   by_cases hh:r.c.2 = .decreasing
   · obtain⟨e1,e2,e3⟩:=rdec hh
     have k3:(Q6v r.c.2==2)=true:=by rw[hh];rfl
     have g:=rev_fn n a b (by omega) g2 hn r.d1 s1
     rw[←e1] at g
     have w3:(b:Int)-1=((b-1:Nat):Int):=by omega
     have w4:(r.c.1:Int)-(a:Int)=((r.c.1-a:Nat):Int):=by omega
     have w5:((b-1:Nat):Int)-((r.c.1-a:Nat):Int)=((b-1-(r.c.1-a):Nat):Int):=by omega
     rw[e3,e2,show Q6v Sort.Hint.increasing=1 from rfl] at hΨ
     clear e1 e2 e3 hh q1 q2 q3 q4 rdec rnot rpy rpn
     (have W:=ndI k3 (ndI w3 (ndI w4 (ndI w5 @wrI)));(repeat(any_goals(first|((with_reducible refine Q0p ?_ ?_ ?_);rfl;rfl;intro K hK;(apply Q1b (g) (fun r=>r);rfl;rfl;rfl;rfl;exact Tryz.func78;kernel_rfl;rfl;rfl;(intro r hr q hq h;simp(disch:=omega) only[List.map_cons,List.map_nil,List.cons_append,List.nil_append,List.mem_cons,List.not_mem_nil,or_false] at hr hq;(try dsimp only at h);first|omega);(simp(disch:=omega) only[Q1f,Q1y,AV.ren,AV.renL,Q0q,List.mem_cons,List.not_mem_nil,forall_eq_or_imp,forall_eq,Q1t,List.contains_cons,List.contains_nil,AV.refsL,AV.refs,Q0m,AV.inN,AV.inNL,inH,Q1a,go_sem,W,Q0o,Q0n,Q0a,Nat.mul_one]));(simp(disch:=omega) only[Q0x,Q2c,renH,AV.ren,AV.renL,Q0q,go_sem,W,Q0o,Q0n,Q0a,Nat.mul_one];refine hK _ ?_;clear hK K))|((with_reducible refine Q0d ?_ ?_);rfl;intro K hK;simp(disch:=omega) only[go_sem,W,Q0o,Q0n,Q0a,Nat.mul_one];((repeat(refine ndI (by first|assumption|rfl) ?_));refine hK _ ?_;clear hK K))|(with_reducible first|(refine Q0c ?_;refine hR _ ?_;clear hR R)|((first|refine Q0e ?_);intro Ψ hΨ hΨ')|(refine Q0b ?_;intro R hR)|(refine hΨ _ ?_;clear hΨ hΨ' Ψ))|((with_reducible apply Q0f);rfl;rfl;all_goals(intro hc;first|(cases hc;done)|(try simp only at hc)))))))
     all_goals exact(St.le_of (by simp[leT]) (by simp[leH,hget]))
   · obtain⟨e1,e2,e3⟩:=rnot hh
     have k3:(Q6v r.c.2==2)=false:=by cases h:r.c.2<;>first|rfl|exact absurd h hh
     rw[e1,e2,e3] at hΨ
     clear e1 e2 e3 hh q1 q2 q3 q4 rdec rnot rpy rpn
     (repeat(any_goals(first|((with_reducible refine Q0d ?_ ?_);rfl;intro K hK;simp(disch:=omega) only[go_sem,k3,Q0o,Q0n,Q0a,Nat.mul_one,wrI];((repeat(refine ndI (by first|assumption|rfl) ?_));refine hK _ ?_;clear hK K))|(with_reducible first|(refine Q0c ?_;refine hR _ ?_;clear hR R)|((first|refine Q0e ?_);intro Ψ hΨ hΨ')|(refine Q0b ?_;intro R hR)|(refine hΨ _ ?_;clear hΨ hΨ' Ψ)|refine Q0h ?_)|((with_reducible apply Q0f);rfl;rfl;all_goals(intro hc;first|(cases hc;done)|(try simp only at hc))))))
     all_goals exact(St.le_of (by simp[leT]) (by simp[leH,hget]))
 obtain⟨hI,hhI⟩:∃v,decide (r.hint=Sort.Hint.increasing)=v:=⟨_,rfl⟩
 have k4:(Q6v r.hint==1)=hI:=by rw[←hhI];cases h:r.hint<;>rfl
 rw[hhI] at rpy rpn
 clear rdec rnot hhI
 obtain⟨h0,hh0⟩:∃h,Q6v r.hint=h:=⟨_,rfl⟩
 rw[hh0] at k4 ⊢
 clear hh0
 cases hp:r.pi.2 with
 |true=>
  have hb3:(wb&&wp&&hI)=true:=by
   cases h:(wb&&wp&&hI) with
   |true=>rfl
   |false=>rw[rpn h] at hp;cases hp
  have e1:=rpy hb3
  have g:=pins_fn n a b (by omega) g2 hn r.d2 s2
  rw[←e1] at g
  simp only[Bool.and_eq_true] at hb3
  obtain⟨⟨hb1,hb2⟩,hb3⟩:=hb3
  have e2:=(q1 hp).symm
  rw[hp,e2] at g
  subst hb1 hb2 hb3
  clear q1 q2 q3 q4 rpy rpn e1 hp e2 hN
  refine Q1x _ _ _ ?_
  (repeat(any_goals(first|((with_reducible refine Q0p ?_ ?_ ?_);rfl;rfl;intro K hK;(apply Q1b (g) (fun r=>r);rfl;rfl;rfl;rfl;exact Tryz.func79;kernel_rfl;rfl;rfl;(intro r hr q hq h;simp(disch:=omega) only[List.map_cons,List.map_nil,List.cons_append,List.nil_append,List.mem_cons,List.not_mem_nil,or_false] at hr hq;(try dsimp only at h);first|omega);(simp(disch:=omega) only[Q1f,Q1y,AV.ren,AV.renL,Q0q,List.mem_cons,List.not_mem_nil,forall_eq_or_imp,forall_eq,Q1t,List.contains_cons,List.contains_nil,AV.refsL,AV.refs,Q0m,AV.inN,AV.inNL,inH,Q1a,go_sem,k4,Q0o,Q0n,Q0a,Nat.mul_one,wrI]));(simp(disch:=omega) only[Q0x,Q2c,renH,AV.ren,AV.renL,Q0q,go_sem,k4,Q0o,Q0n,Q0a,Nat.mul_one,wrI];refine hK _ ?_;clear hK K))|((with_reducible refine Q0d ?_ ?_);rfl;intro K hK;simp(disch:=omega) only[go_sem,k4,Q0o,Q0n,Q0a,Nat.mul_one,wrI];((repeat(refine ndI (by first|assumption|rfl) ?_));refine hK _ ?_;clear hK K))|(with_reducible first|(refine Q0c ?_;refine hR _ ?_;clear hR R)|((first|refine Q0e ?_);intro Ψ hΨ hΨ')|(refine Q0b ?_;intro R hR)|(refine hΨ _ ?_;clear hΨ hΨ' Ψ)|refine Q0l ?_)|((with_reducible refine hΨ' _ _ ?_ ?_);(focus(simp;done));clear hΨ hΨ' Ψ)|((with_reducible apply Q1i);rfl;rfl;rfl;all_goals(intro hb;first|(cases hb;done)|((try simp only[Bool.not_true,Bool.not_false] at hb);(first|((with_reducible intro K hK);simp(disch:=omega) only[go_sem,k4,Q0o,Q0n,Q0a,Nat.mul_one,wrI];((repeat(refine ndI (by first|assumption|rfl) ?_));refine hK _ ?_;clear hK K))))))|((with_reducible apply Q0f);rfl;rfl;all_goals(intro hc;first|(cases hc;done)|(try simp only at hc))))))
  all_goals(refine⟨by simp,⟨_,?_,AV.le_refl _⟩,Q0i (by simp[leH,hget])⟩;simp only[Tryz.results61,resL,ldA,Q0z,go_sem])
 |false=>
 clear q1
 refine AW.seqJ (stQ2 n a b r.lim c0 wb wp r.pi.1 r.pivot h0) ?_ ?_
 · intro Ψ hΨ hΨ'
   cases hb3:(wb&&wp&&hI) with
   |false=>
    have e1:=rpn hb3
    rw[e1] at hΨ
    clear q2 q3 q4 rpy rpn e1
    cases wb
    · (repeat(any_goals(first|((with_reducible refine Q0d ?_ ?_);rfl;intro K hK;simp(disch:=omega) only[go_sem,Q0o,Q0n,Q0a,Nat.mul_one,wrI];((repeat(refine ndI (by first|assumption|rfl) ?_));refine hK _ ?_;clear hK K))|(with_reducible first|(refine Q0c ?_;refine hR _ ?_;clear hR R)|((first|refine Q0e ?_);intro Ψ hΨ hΨ')|(refine Q0b ?_;intro R hR)|(refine hΨ _ ?_;clear hΨ hΨ' Ψ)|refine Q0h ?_)|((with_reducible apply Q1i);rfl;rfl;rfl;all_goals(intro hb;first|(cases hb;done)|((try simp only[Bool.not_true,Bool.not_false] at hb);(first|((fail_if_success (with_reducible intro _));simp(disch:=omega) only[go_sem,Q0o,Q0n,Q0a,Nat.mul_one,wrI])))))|((with_reducible apply Q0f);rfl;rfl;all_goals(intro hc;first|(cases hc;done)|(try simp only at hc))))))
      all_goals exact(St.le_of (by simp[leT]) (by simp[leH,hget]))
    cases wp
    · (repeat(any_goals(first|((with_reducible refine Q0d ?_ ?_);rfl;intro K hK;simp(disch:=omega) only[go_sem,Q0o,Q0n,Q0a,Nat.mul_one,wrI];((repeat(refine ndI (by first|assumption|rfl) ?_));refine hK _ ?_;clear hK K))|(with_reducible first|(refine Q0c ?_;refine hR _ ?_;clear hR R)|((first|refine Q0e ?_);intro Ψ hΨ hΨ')|(refine Q0b ?_;intro R hR)|(refine hΨ _ ?_;clear hΨ hΨ' Ψ)|refine Q0h ?_)|((with_reducible apply Q1i);rfl;rfl;rfl;all_goals(intro hb;first|(cases hb;done)|((try simp only[Bool.not_true,Bool.not_false] at hb);(first|((with_reducible intro K hK);simp(disch:=omega) only[go_sem,Q0o,Q0n,Q0a,Nat.mul_one,wrI];((repeat(refine ndI (by first|assumption|rfl) ?_));refine hK _ ?_;clear hK K))|((fail_if_success (with_reducible intro _));simp(disch:=omega) only[go_sem,Q0o,Q0n,Q0a,Nat.mul_one,wrI])))))|((with_reducible apply Q0f);rfl;rfl;all_goals(intro hc;first|(cases hc;done)|(try simp only at hc))))))
      all_goals exact(St.le_of (by simp[leT]) (by simp[leH,hget]))
    cases hI
    · (repeat(any_goals(first|((with_reducible refine Q0d ?_ ?_);rfl;intro K hK;simp(disch:=omega) only[go_sem,k4,Q0o,Q0n,Q0a,Nat.mul_one,wrI];((repeat(refine ndI (by first|assumption|rfl) ?_));refine hK _ ?_;clear hK K))|(with_reducible first|(refine Q0c ?_;refine hR _ ?_;clear hR R)|((first|refine Q0e ?_);intro Ψ hΨ hΨ')|(refine Q0b ?_;intro R hR)|(refine hΨ _ ?_;clear hΨ hΨ' Ψ)|refine Q0h ?_)|((with_reducible apply Q1i);rfl;rfl;rfl;all_goals(intro hb;first|(cases hb;done)|((try simp only[Bool.not_true,Bool.not_false] at hb);(first|((with_reducible intro K hK);simp(disch:=omega) only[go_sem,k4,Q0o,Q0n,Q0a,Nat.mul_one,wrI];((repeat(refine ndI (by first|assumption|rfl) ?_));refine hK _ ?_;clear hK K))))))|((with_reducible apply Q0f);rfl;rfl;all_goals(intro hc;first|(cases hc;done)|(try simp only at hc))))))
      all_goals exact(St.le_of (by simp[leT]) (by simp[leH,hget]))
    · cases hb3
   |true=>
    have e1:=rpy hb3
    have g:=pins_fn n a b (by omega) g2 hn r.d2 s2
    rw[←e1] at g
    simp only[Bool.and_eq_true] at hb3
    obtain⟨⟨hb1,hb2⟩,hb3⟩:=hb3
    rw[hp] at g
    subst hb1 hb2 hb3
    clear q2 q3 q4 rpy rpn e1 hp
    (repeat(any_goals(first|((with_reducible refine Q0p ?_ ?_ ?_);rfl;rfl;intro K hK;(apply Q1b (g) (fun r=>r);rfl;rfl;rfl;rfl;exact Tryz.func79;kernel_rfl;rfl;rfl;(intro r hr q hq h;simp(disch:=omega) only[List.map_cons,List.map_nil,List.cons_append,List.nil_append,List.mem_cons,List.not_mem_nil,or_false] at hr hq;(try dsimp only at h);first|omega);(simp(disch:=omega) only[Q1f,Q1y,AV.ren,AV.renL,Q0q,List.mem_cons,List.not_mem_nil,forall_eq_or_imp,forall_eq,Q1t,List.contains_cons,List.contains_nil,AV.refsL,AV.refs,Q0m,AV.inN,AV.inNL,inH,Q1a,go_sem,k4,Q0o,Q0n,Q0a,Nat.mul_one,wrI]));(simp(disch:=omega) only[Q0x,Q2c,renH,AV.ren,AV.renL,Q0q,go_sem,k4,Q0o,Q0n,Q0a,Nat.mul_one,wrI];refine hK _ ?_;clear hK K))|((with_reducible refine Q0d ?_ ?_);rfl;intro K hK;simp(disch:=omega) only[go_sem,k4,Q0o,Q0n,Q0a,Nat.mul_one,wrI];((repeat(refine ndI (by first|assumption|rfl) ?_));refine hK _ ?_;clear hK K))|(with_reducible first|(refine Q0c ?_;refine hR _ ?_;clear hR R)|((first|refine Q0e ?_);intro Ψ hΨ hΨ')|(refine Q0b ?_;intro R hR)|(refine hΨ _ ?_;clear hΨ hΨ' Ψ)|refine Q0h ?_)|((with_reducible apply Q1i);rfl;rfl;rfl;all_goals(intro hb;first|(cases hb;done)|((try simp only[Bool.not_true,Bool.not_false] at hb);(first|((with_reducible intro K hK);simp(disch:=omega) only[go_sem,k4,Q0o,Q0n,Q0a,Nat.mul_one,wrI];((repeat(refine ndI (by first|assumption|rfl) ?_));refine hK _ ?_;clear hK K))))))|((with_reducible apply Q0f);rfl;rfl;all_goals(intro hc;first|(cases hc;done)|(try simp only at hc))))))
    all_goals exact(St.le_of (by simp[leT]) (by simp[leH,hget]))
 replace q2:=q2 hp
 replace q3:=q3 hp
 replace q4:=q4 hp
 clear rpy rpn hp k4 B1 B2 hc1 s1 s2 Hc
 generalize r.pi.1=d3 at *
 generalize r.pivot=pv at *
 generalize r.lim=lm at *
 have y0:=Q1p d3
 rw[s3] at y0
 have y2:=Q2e d3 (j:=pv) (by omega)
 cases h87:(decide (a>0) && !ltI d3[a-1]! d3[pv]!) with
 |true=>
  clear q3 q4
  obtain⟨⟨mid,d4⟩,hx⟩:∃q,Sort.partitionEqual ltI d3 a b pv=q:=⟨_,rfl⟩
  have ha0:a>0∧ltI d3[a-1]! d3[pv]! = false:=by simpa using h87
  obtain⟨r1,r2,r3,r4,_⟩:=Sort.round_eq swoI (Sort.partitionEqual_holds ltI) ha0.1 hpv.1 hpv.2 (by omega) B3 ha0.2 hx
  have q5:=q2 h87 (by rw[hx];exact⟨r1,r2⟩)
  have g:=parteq_fn n a b pv hpv.1 hpv.2 g2 hn d3 s3
  rw[hx] at g q5
  dsimp only at g q5
  have hΨ1:=fun (σ':St) (h:σ'.le (stQ0 n ⟨mid,b,lm,wb,wp,d4⟩))=>hN σ' ⟨⟨mid,b,lm,wb,wp,d4⟩,r2,g2,by dsimp only;omega,gl,by rw[←s3];exact r3,r4,q5.symm⟩ (by dsimp only;omega) h
  have y1:=Q2e d3 (j:=a-1) (by omega)
  have k5:decide ((a:Int)>0)=true:=decide_eq_true (by omega)
  have w3:(a:Int)-1=((a-1:Nat):Int):=by omega
  have lf:=Q2v d3[a-1]! d3[pv]!
  rw[show decide (d3[a-1]! < d3[pv]!)=false from ha0.2] at lf
  clear q2 q5 hx ha0 h87 r3 r4 hN
  generalize d3[a-1]! = zx at *
  generalize d3[pv]! = zy at *
  refine Q1x _ _ _ ?_
  (have W:=ndI k5 (ndI w3 (ndI y0 (ndI y1 (ndI y2 @wrI))));(repeat(any_goals(first|((with_reducible refine Q0p ?_ ?_ ?_);rfl;rfl;intro K hK;(apply Q1b (g) (fun r=>r);rfl;rfl;rfl;rfl;exact Tryz.func81;kernel_rfl;rfl;rfl;(intro r hr q hq h;simp(disch:=omega) only[List.map_cons,List.map_nil,List.cons_append,List.nil_append,List.mem_cons,List.not_mem_nil,or_false] at hr hq;(try dsimp only at h);first|omega);(simp(disch:=omega) only[Q1f,Q1y,AV.ren,AV.renL,Q0q,List.mem_cons,List.not_mem_nil,forall_eq_or_imp,forall_eq,Q1t,List.contains_cons,List.contains_nil,AV.refsL,AV.refs,Q0m,AV.inN,AV.inNL,inH,Q1a,go_sem,W,Q0o,Q0n,Q0a,Nat.mul_one]));(simp(disch:=omega) only[Q0x,Q2c,renH,AV.ren,AV.renL,Q0q,go_sem,W,Q0o,Q0n,Q0a,Nat.mul_one];refine hK _ ?_;clear hK K))|((with_reducible refine Q0d ?_ ?_);rfl;intro K hK;simp(disch:=omega) only[go_sem,W,Q0o,Q0n,Q0a,Nat.mul_one];((repeat(refine ndI (by first|assumption|rfl) ?_));refine hK _ ?_;clear hK K))|(with_reducible first|(refine Q0c ?_;refine hR _ ?_;clear hR R)|((first|refine Q0e ?_);intro Ψ hΨ hΨ')|(refine Q0b ?_;intro R hR)|(refine hΨ _ ?_;clear hΨ hΨ' Ψ)|refine Q0v ?_)|((with_reducible refine hΨ' _ _ ?_ ?_);(focus(simp;done));clear hΨ hΨ' Ψ)|((with_reducible apply Q0f);rfl;rfl;all_goals(intro hc;first|(cases hc;done)|(try simp only at hc)))|((with_reducible refine Q0w ?_ ?_);(apply Q0t);(focus(repeat(first|exact Sims.nil|((apply Sims.cons);(focus(first|exact Ef.sim_refl _))))));kernel_rfl;(with_reducible refine hR _ ?_);clear hR R)|((first|((first|((with_reducible apply Q1k);rfl;rfl;rfl;rfl;rfl));((apply Q0s (lf);rfl;rfl;rfl;rfl;exact Tryz.func80);kernel_rfl;rfl;(focus((simp(disch:=omega) only[go_sem,W,Q0o,Q0n,Q0a,Nat.mul_one]);(try rfl);done));(first|rfl)))|((first|((with_reducible apply Q0u);rfl;rfl)|((with_reducible apply Q1l);rfl;rfl;rfl;rfl;rfl));(simp(disch:=omega) only[rdE,rdOf,go_sem,W,Q0o,Q0n,Q0a,Nat.mul_one];rfl);(intro τ hA hQ hN;((try simp only[Q1g,Op.operands,Call.operands,go_sem,W,Q0o,Q0n,Q0a,Nat.mul_one,go_sem,List.mem_cons,List.not_mem_nil,forall_eq_or_imp,forall_eq,List.append_toArray,Option.toArray] at hA);(try simp only[go_sem,W,Q0o,Q0n,Q0a,Nat.mul_one,List.mem_cons,List.not_mem_nil,forall_eq_or_imp,forall_eq] at hQ hN);(first|(revert hA;intro hA));(first|(revert hQ;intro hQ));(first|(revert hN;intro hN));simp(disch:=omega) only[go_sem,W,Q0o,Q0n,Q0a,Nat.mul_one,go_sem,hA,hQ,hN];(repeat(refine ndI (by first|assumption|omega|rfl) ?_));(first|apply Q1d)))));(simp(disch:=omega) only[St.eff,setO,Q0x,go_sem,W,Q0o,Q0n,Q0a,Nat.mul_one]))|((with_reducible refine Q0r ?_ ?_ ?_ ?_);kernel_rfl;kernel_rfl;(simp[Q0y,Q1z,St.free,Q1j,AV.refsL,AV.refs,Q0a]);intro R hR)))))
  all_goals exact hΨ1 _ (St.le_of (by simp[leT]) (by simp[leH,hget]))
 |false=>
 clear q2
 replace q3:=q3 h87
 replace q4:=q4 h87
 refine AW.seqJ (stQ2 n a b lm c0 wb wp d3 pv h0) ?_ ?_
 · intro Ψ hΨ hΨ'
   clear q3 q4
   rcases Nat.eq_zero_or_pos a with ha0|ha0
   · have k5:decide ((a:Int)>0)=false:=decide_eq_false (by omega)
     (have W:=ndI k5 (ndI y0 (ndI y2 @wrI));(repeat(any_goals(first|(with_reducible first|((first|refine Q0e ?_);intro Ψ hΨ hΨ')|(refine hΨ _ ?_;clear hΨ hΨ' Ψ)|refine Q0h ?_)|((with_reducible apply Q0f);rfl;rfl;all_goals(intro hc;first|(cases hc;done)|(try simp only at hc)))|((with_reducible refine Q0w ?_ ?_);(apply Q0t);(focus(repeat(first|exact Sims.nil|((apply Sims.cons);(focus(first|exact Ef.sim_refl _))))));kernel_rfl;(with_reducible refine hR _ ?_);clear hR R)|((first|((with_reducible apply Q1w);rfl;rfl;rfl;rfl)|((first|((with_reducible apply Q0u);rfl;rfl));(simp(disch:=omega) only[rdE,rdOf,go_sem,W,Q0a,Nat.mul_one];rfl);(intro τ hA hQ hN;((try simp only[Q1g,Op.operands,Call.operands,go_sem,W,Q0a,Nat.mul_one,go_sem,List.mem_cons,List.not_mem_nil,forall_eq_or_imp,forall_eq,List.append_toArray,Option.toArray] at hA);(try simp only[go_sem,W,Q0a,Nat.mul_one,List.mem_cons,List.not_mem_nil,forall_eq_or_imp,forall_eq] at hQ hN);(first|(revert hA;intro hA));(first|(revert hQ;intro hQ));(first|(revert hN;intro hN));simp(disch:=omega) only[go_sem,W,Q0a,Nat.mul_one,go_sem,hA,hQ,hN];(repeat(refine ndI (by first|assumption|rfl) ?_));(first|apply Q1d)))));(simp(disch:=omega) only[St.eff,setO,Q0x,go_sem,W,Q0a,Nat.mul_one]))|((with_reducible refine Q0r ?_ ?_ ?_ ?_);kernel_rfl;kernel_rfl;(simp[Q0y,Q1z,St.free,Q1j,AV.refsL,AV.refs,Q0a]);intro R hR)))))
     all_goals exact(St.le_of (by simp[leT]) (by simp[leH,hget]))
   · have k5:decide ((a:Int)>0)=true:=decide_eq_true (by omega)
     have y1:=Q2e d3 (j:=a-1) (by omega)
     have w3:(a:Int)-1=((a-1:Nat):Int):=by omega
     have lf:=Q2v d3[a-1]! d3[pv]!
     have hl:d3[a-1]! < d3[pv]!:=by
      rw[decide_eq_true ha0] at h87
      simpa using h87
     rw[show decide (d3[a-1]! < d3[pv]!)=true from decide_eq_true hl] at lf
     clear hl h87
     generalize d3[a-1]! = zx at *
     generalize d3[pv]! = zy at *
     (have W:=ndI k5 (ndI w3 (ndI y0 (ndI y1 (ndI y2 @wrI))));(repeat(any_goals(first|(with_reducible first|((first|refine Q0e ?_);intro Ψ hΨ hΨ')|(refine hΨ _ ?_;clear hΨ hΨ' Ψ)|refine Q0h ?_)|((with_reducible apply Q0f);rfl;rfl;all_goals(intro hc;first|(cases hc;done)|(try simp only at hc)))|((with_reducible refine Q0w ?_ ?_);(apply Q0t);(focus(repeat(first|exact Sims.nil|((apply Sims.cons);(focus(first|exact Ef.sim_refl _))))));kernel_rfl;(with_reducible refine hR _ ?_);clear hR R)|((first|((first|((with_reducible apply Q1k);rfl;rfl;rfl;rfl;rfl));((apply Q0s (lf);rfl;rfl;rfl;rfl;exact Tryz.func80);kernel_rfl;rfl;(focus((simp(disch:=omega) only[go_sem,W,Q0a,Nat.mul_one]);(try rfl);done));(first|rfl)))|((first|((with_reducible apply Q0u);rfl;rfl)|((with_reducible apply Q1l);rfl;rfl;rfl;rfl;rfl));(simp(disch:=omega) only[rdE,rdOf,go_sem,W,Q0a,Nat.mul_one];rfl);(intro τ hA hQ hN;((try simp only[Q1g,Op.operands,Call.operands,go_sem,W,Q0a,Nat.mul_one,go_sem,List.mem_cons,List.not_mem_nil,forall_eq_or_imp,forall_eq,List.append_toArray,Option.toArray] at hA);(try simp only[go_sem,W,Q0a,Nat.mul_one,List.mem_cons,List.not_mem_nil,forall_eq_or_imp,forall_eq] at hQ hN);(first|(revert hA;intro hA));(first|(revert hQ;intro hQ));(first|(revert hN;intro hN));simp(disch:=omega) only[go_sem,W,Q0a,Nat.mul_one,go_sem,hA,hQ,hN];(repeat(refine ndI (by first|assumption|omega|rfl) ?_));(first|apply Q1d)))));(simp(disch:=omega) only[St.eff,setO,Q0x,go_sem,W,Q0a,Nat.mul_one]))|((with_reducible refine Q0r ?_ ?_ ?_ ?_);kernel_rfl;kernel_rfl;(simp[Q0y,Q1z,St.free,Q1j,AV.refsL,AV.refs,Q0a]);intro R hR)))))
     all_goals exact(St.le_of (by simp[leT]) (by simp[leH,hget]))
 clear y0 y2 h87
 obtain⟨⟨mid,ap,d4⟩,hx⟩:∃q,Sort.partition ltI d3 a b pv=q:=⟨_,rfl⟩
 obtain⟨r1,r2,r3,r4,r5,r6,r7⟩:=Sort.round_part swoI (Sort.partition_holds ltI) hpv.1 hpv.2 (by omega) B3 hx
 replace q3:=q3 (by rw[hx];exact⟨r1,r2⟩)
 replace q4:=q4 (by rw[hx];exact⟨r1,r2⟩)
 have g:=part_fn n a b pv hpv.1 hpv.2 g2 hn d3 s3
 rw[hx] at g q3 q4
 dsimp only at g q3 q4
 rw[s3] at r3
 have w3:(mid:Int)-(a:Int)=((mid-a:Nat):Int):=by omega
 have w4:(b:Int)-(mid:Int)=((b-mid:Nat):Int):=by omega
 have w5:(c0:Int).tdiv 8=(((b-a)/8:Nat):Int):=by rw[Int.tdiv_eq_ediv_of_nonneg (by omega)];omega
 have w6:(mid:Int)+1=((mid+1:Nat):Int):=by omega
 clear hx B3
 by_cases h4:mid-a<b-mid
 · have k6:decide (((mid-a:Nat):Int)<((b-mid:Nat):Int))=true:=decide_eq_true (by omega)
   have q5:=q3 h4
   have gp:=ih a mid lm d4 (by omega) r1 (by omega) gl r3 r4
   obtain⟨pL,sL⟩:=Sort.pdq_sorts ltI swoI d4 a mid lm true true r1 (by omega) r4
   obtain⟨bal,hbal⟩:∃v,decide (mid-a≥(b-a)/8)=v:=⟨_,rfl⟩
   have k7:decide (((mid-a:Nat):Int)≥(((b-a)/8:Nat):Int))=bal:=by rw[←hbal];exact decide_eq_decide.2 ⟨fun h=>by omega,fun h=>by omega⟩
   rw[hbal] at q5
   have hΨ1:=fun (σ':St) (h:σ'.le (stQ0 n ⟨mid+1,b,lm,bal,ap,Sort.pdq ltI d4 a mid lm true true⟩))=>hN σ' ⟨⟨mid+1,b,lm,bal,ap,Sort.pdq ltI d4 a mid lm true true⟩,by dsimp only;omega,g2,by dsimp only;omega,gl,by dsimp only;rw[←r3];exact pL.1,(r6 _ pL sL).1,q5.symm⟩ (by dsimp only;omega) h
   clear q3 q4 q5 hbal r4 r5 r6 r7 pL sL hN
   generalize Sort.pdq ltI d4 a mid lm true true=d5 at *
   refine Q1x _ _ _ ?_
   (have W:=ndI w3 (ndI w4 (ndI w5 (ndI w6 (ndI k6 (ndI k7 @wrI)))));(repeat(any_goals(first|((with_reducible refine Q0p ?_ ?_ ?_);rfl;rfl;intro K hK;(first|(apply Q1b (g) (fun r=>r);rfl;rfl;rfl;rfl;exact Tryz.func82;kernel_rfl;rfl;rfl;(intro r hr q hq h;simp(disch:=omega) only[List.map_cons,List.map_nil,List.cons_append,List.nil_append,List.mem_cons,List.not_mem_nil,or_false] at hr hq;(try dsimp only at h);first|omega);(simp(disch:=omega) only[Q1f,Q1y,AV.ren,AV.renL,Q0q,List.mem_cons,List.not_mem_nil,forall_eq_or_imp,forall_eq,Q1t,List.contains_cons,List.contains_nil,AV.refsL,AV.refs,Q0m,AV.inN,AV.inNL,inH,Q1a,go_sem,W,Q0o,Q0n,Q0a,Nat.mul_one]))|(apply Q1b (gp) (fun r=>r);rfl;rfl;rfl;rfl;exact Tryz.func61;kernel_rfl;rfl;rfl;(intro r hr q hq h;simp(disch:=omega) only[List.map_cons,List.map_nil,List.cons_append,List.nil_append,List.mem_cons,List.not_mem_nil,or_false] at hr hq;(try dsimp only at h);first|omega);(simp(disch:=omega) only[Q1f,Q1y,AV.ren,AV.renL,Q0q,List.mem_cons,List.not_mem_nil,forall_eq_or_imp,forall_eq,Q1t,List.contains_cons,List.contains_nil,AV.refsL,AV.refs,Q0m,AV.inN,AV.inNL,inH,Q1a,go_sem,W,Q0o,Q0n,Q0a,Nat.mul_one])));(simp(disch:=omega) only[Q0x,Q2c,renH,AV.ren,AV.renL,Q0q,go_sem,W,Q0o,Q0n,Q0a,Nat.mul_one];refine hK _ ?_;clear hK K))|((with_reducible refine Q0d ?_ ?_);rfl;intro K hK;simp(disch:=omega) only[go_sem,W,Q0o,Q0n,Q0a,Nat.mul_one];((repeat(refine ndI (by first|assumption|rfl) ?_));refine hK _ ?_;clear hK K))|(with_reducible first|(refine Q0c ?_;refine hR _ ?_;clear hR R)|((first|refine Q0e ?_);intro Ψ hΨ hΨ')|(refine Q0b ?_;intro R hR)|(refine hΨ _ ?_;clear hΨ hΨ' Ψ))|((with_reducible refine hΨ' _ _ ?_ ?_);(focus(simp;done));clear hΨ hΨ' Ψ)|((with_reducible apply Q0f);rfl;rfl;all_goals(intro hc;first|(cases hc;done)|(try simp only at hc)))))))
   all_goals exact hΨ1 _ (St.le_of (by simp[leT]) (by simp[leH,hget]))
 · have k6:decide (((mid-a:Nat):Int)<((b-mid:Nat):Int))=false:=decide_eq_false (by omega)
   have q5:=q4 h4
   have gp:=ih (mid+1) b lm d4 (by omega) (by omega) g2 gl r3 r5
   obtain⟨pL,sL⟩:=Sort.pdq_sorts ltI swoI d4 (mid+1) b lm true true (by omega) (by omega) r5
   obtain⟨bal,hbal⟩:∃v,decide (b-mid≥(b-a)/8)=v:=⟨_,rfl⟩
   have k7:decide (((b-mid:Nat):Int)≥(((b-a)/8:Nat):Int))=bal:=by rw[←hbal];exact decide_eq_decide.2 ⟨fun h=>by omega,fun h=>by omega⟩
   rw[hbal] at q5
   have hΨ1:=fun (σ':St) (h:σ'.le (stQ0 n ⟨a,mid,lm,bal,ap,Sort.pdq ltI d4 (mid+1) b lm true true⟩))=>hN σ' ⟨⟨a,mid,lm,bal,ap,Sort.pdq ltI d4 (mid+1) b lm true true⟩,r1,by dsimp only;omega,by dsimp only;omega,gl,by dsimp only;rw[←r3];exact pL.1,(r7 _ pL sL).1,q5.symm⟩ (by dsimp only;omega) h
   clear q3 q4 q5 hbal r4 r5 r6 r7 pL sL hN
   generalize Sort.pdq ltI d4 (mid+1) b lm true true=d5 at *
   refine Q1x _ _ _ ?_
   (have W:=ndI w3 (ndI w4 (ndI w5 (ndI w6 (ndI k6 (ndI k7 @wrI)))));(repeat(any_goals(first|((with_reducible refine Q0p ?_ ?_ ?_);rfl;rfl;intro K hK;(first|(apply Q1b (g) (fun r=>r);rfl;rfl;rfl;rfl;exact Tryz.func82;kernel_rfl;rfl;rfl;(intro r hr q hq h;simp(disch:=omega) only[List.map_cons,List.map_nil,List.cons_append,List.nil_append,List.mem_cons,List.not_mem_nil,or_false] at hr hq;(try dsimp only at h);first|omega);(simp(disch:=omega) only[Q1f,Q1y,AV.ren,AV.renL,Q0q,List.mem_cons,List.not_mem_nil,forall_eq_or_imp,forall_eq,Q1t,List.contains_cons,List.contains_nil,AV.refsL,AV.refs,Q0m,AV.inN,AV.inNL,inH,Q1a,go_sem,W,Q0o,Q0n,Q0a,Nat.mul_one]))|(apply Q1b (gp) (fun r=>r);rfl;rfl;rfl;rfl;exact Tryz.func61;kernel_rfl;rfl;rfl;(intro r hr q hq h;simp(disch:=omega) only[List.map_cons,List.map_nil,List.cons_append,List.nil_append,List.mem_cons,List.not_mem_nil,or_false] at hr hq;(try dsimp only at h);first|omega);(simp(disch:=omega) only[Q1f,Q1y,AV.ren,AV.renL,Q0q,List.mem_cons,List.not_mem_nil,forall_eq_or_imp,forall_eq,Q1t,List.contains_cons,List.contains_nil,AV.refsL,AV.refs,Q0m,AV.inN,AV.inNL,inH,Q1a,go_sem,W,Q0o,Q0n,Q0a,Nat.mul_one])));(simp(disch:=omega) only[Q0x,Q2c,renH,AV.ren,AV.renL,Q0q,go_sem,W,Q0o,Q0n,Q0a,Nat.mul_one];refine hK _ ?_;clear hK K))|((with_reducible refine Q0d ?_ ?_);rfl;intro K hK;simp(disch:=omega) only[go_sem,W,Q0o,Q0n,Q0a,Nat.mul_one];((repeat(refine ndI (by first|assumption|rfl) ?_));refine hK _ ?_;clear hK K))|(with_reducible first|(refine Q0c ?_;refine hR _ ?_;clear hR R)|((first|refine Q0e ?_);intro Ψ hΨ hΨ')|(refine Q0b ?_;intro R hR)|(refine hΨ _ ?_;clear hΨ hΨ' Ψ))|((with_reducible refine hΨ' _ _ ?_ ?_);(focus(simp;done));clear hΨ hΨ' Ψ)|((with_reducible apply Q0f);rfl;rfl;all_goals(intro hc;first|(cases hc;done)|(try simp only at hc)))))))
   all_goals exact hΨ1 _ (St.le_of (by simp[leT]) (by simp[leH,hget]))
end
section
open Go.RowKit
def forced(l:List Oper)(k:Nat):Bool:=(List.range l.length).all fun i=>decide (i<k)||(List.range i).all fun j=>pre l i j
def Q4u(l:List Oper):Bool:=l.all fun o=>o.guard.isNone
theorem Q6o{l:List Oper}{listed:Array Bool}{i:Nat}(hsz:listed.size=l.length)(hi:i∈Region.ready .any l.toArray listed):∃o,l[i]? = some o∧listed.getD i false=false∧∀e∈o.after,Region.binds .any e=true→listed.getD e.on false=true:=by
 unfold Region.ready at hi
 rw[List.mem_filter] at hi
 obtain⟨h1,h2⟩:=hi
 have hin:i<l.length:=by simpa using h1
 have ho:l[i]? = some l[i]:=List.getElem?_eq_getElem hin
 simp only[Bool.and_eq_true,Bool.not_eq_true',List.getElem?_toArray,ho,Option.map_some,Option.getD_some,Array.all_eq_true_iff_forall_mem] at h2
 refine⟨_,ho,?_,fun e he hb=>?_⟩
 · have:=h2.1
   simp only[Array.getD,hsz,hin,dif_pos] at this ⊢
   exact this
 · have:=h2.2 e he
   simpa [hb] using this
theorem X4v{l:List Oper}{listed:Array Bool}{j:Nat}(hback:Q3m l=true)(hsz:listed.size=l.length)(hjl:j<l.length)(hju:listed.getD j false=false)(hlow:∀k,k<j→listed.getD k false=true):j∈Region.ready .any l.toArray listed:=by
 have ho:l[j]? = some l[j]:=List.getElem?_eq_getElem hjl
 have hb:=List.all_eq_true.1 hback j (by simpa using hjl)
 simp only[ho,Array.all_eq_true_iff_forall_mem,Bool.or_eq_true,Bool.not_eq_true',decide_eq_true_eq] at hb
 unfold Region.ready
 rw[List.mem_filter]
 refine⟨by simpa using hjl,?_⟩
 simp only[Bool.and_eq_true,Bool.not_eq_true',List.getElem?_toArray,ho,Option.map_some,Option.getD_some,Array.all_eq_true_iff_forall_mem]
 refine⟨?_,fun e he=>?_⟩
 · simp only[Array.getD,hsz,hjl,dif_pos] at hju ⊢
   exact hju
 · rcases hb e he with h|h
   · simp[h]
   · simp[hlow e.on h]
theorem X2s{L:Nat→Bool}:∀{n:Nat},(∃j,j<n∧L j=false)→∃j,j<n∧L j=false∧∀k,k<j→L k=true
 |0,⟨j,hj,_⟩=>absurd hj (Nat.not_lt_zero _)
 |n+1,⟨j,hj,hL⟩=>by
  by_cases hlow:∃k,k<n∧L k=false
  · obtain⟨i,h1,h2,h3⟩:=X2s hlow
    exact⟨i,by omega,h2,h3⟩
  · refine⟨j,hj,hL,fun k hk=>Classical.byContradiction fun hn=>hlow ⟨k,by omega,by simpa using hn⟩⟩
theorem Q9s{l:List Oper}{k i j:Nat}(h:forced l k=true)(hk:k≤i)(hi:i<l.length)(hj:j<i):pre l i j=true:=by
 have h1:=List.all_eq_true.1 h i (by simpa using hi)
 rw[Bool.or_eq_true] at h1
 rcases h1 with h1|h1
 · have:=of_decide_eq_true h1;omega
 · exact List.all_eq_true.1 h1 j (by simpa using hj)
theorem Q7o{l:List Oper}{i:Nat}{o:Oper}(h:Q4u l=true)(ho:l[i]? = some o):o.guard=none:=by
 have:=List.all_eq_true.1 h o (List.mem_of_getElem? ho)
 simpa using this
theorem Q9z{P:Program}{E:Env}{Φ : Exit→St→Prop}{l:List Oper}{k:Nat}(hback:Q3m l=true)(hf:forced l k=true)(hg:Q4u l=true):∀(r n:Nat),r+n=l.length→k≤n→∀(fuel:Nat) (listed:Array Bool) (a:Act) (w:World) (ι : Nat→Nat×Nat×Nat) (σ : St),listed.size=l.length→Q3n l (fun j=>listed.getD j false)→cntL (fun j=>listed.getD j false) l.length≤fuel →
 (∀j,j<l.length→listed.getD j false=decide (j<n))→Conc E ι σ a w→evL P l.toArray (l.drop n) σ (Φ .normal)→wpAny P .any l.toArray (fun ex a' w'=>∃ι' σ',Conc E ι' σ' a' w'∧Φ ex σ') fuel listed a w
 |0,n,hr,hk,fuel,listed,a,w,ι,σ,hsz,hcl,hcnt,hL,hc,h=>by
  have hall:∀j,j<l.length→listed.getD j false=true:=fun j hj=>by rw[hL j hj];simp;omega
  rw[List.drop_of_length_le (by omega)] at h
  have hnil:Region.ready .any l.toArray listed=[]:=List.eq_nil_iff_forall_not_mem.2 fun i hi=>by
   obtain⟨o,ho,hu,_⟩:=Q6o hsz hi
   have:=hall i (List.getElem?_eq_some_iff.1 ho).1
   rw[hu] at this;cases this
  cases fuel with
  |zero=>exact⟨hnil,ι,σ,hc,h⟩
  |succ fuel=>exact⟨fun _=>⟨ι,σ,hc,h⟩,fun i hi=>by rw[hnil] at hi;cases hi⟩
 |r+1,n,hr,hk,fuel,listed,a,w,ι,σ,hsz,hcl,hcnt,hL,hc,h=>by
  have hnl:n<l.length:=by omega
  have ho:l[n]? = some l[n]:=List.getElem?_eq_getElem hnl
  have hun:listed.getD n false=false:=by rw[hL n hnl];simp
  have hlow:∀j,j<n→listed.getD j false=true:=fun j hj=>by rw[hL j (by omega)];simp[hj]
  have hrd:=X4v hback hsz hnl hun hlow
  have honly:∀i,i∈Region.ready .any l.toArray listed→i=n:=fun i hi=>by
   obtain⟨o,ho',hu,hpre⟩:=Q6o hsz hi
   have hil:=(List.getElem?_eq_some_iff.1 ho').1
   rcases Nat.lt_trichotomy i n with h1|h1|h1
   · rw[hlow i h1] at hu;cases hu
   · exact h1
   · have:=Q2k hcl i (fun o2 ho2=>by rw[ho'] at ho2;cases ho2;exact hpre) n (Q9s hf (by omega) hil h1)
     rw[hun] at this;cases this
  cases fuel with
  |zero=>
   have:=Q5x (L:=fun j=>listed.getD j false) l.length (by omega) n hnl
   rw[hun] at this;cases this
  |succ fuel=>
   refine⟨fun hnil=>(by rw[hnil] at hrd;cases hrd),fun i hi=>?_⟩
   obtain rfl:=honly i hi
   have hgo:=Q7o hg ho
   rw[List.drop_eq_getElem_cons hnl] at h
   unfold evL at h
   rw[hgo] at h
   unfold wpOp
   simp only[List.getElem?_toArray,ho]
   have hw:Region.wanted l[i] (yielded l.toArray a.tmps)=true:=by simp[Region.wanted,hgo]
   rw[if_pos hw]
   refine .inl (h E ι a w hc _ _ fun ι' σ' a' w' hk' hc'=>?_)
   have hset:∀j,j≠i→(listed.setIfInBounds i true).getD j false=listed.getD j false:=fun j hj=>by
    simp[Array.getD_eq_getD_getElem?,Array.getElem?_setIfInBounds_ne (Ne.symm hj)]
   have hset':(listed.setIfInBounds i true).getD i false=true:=by
    simp[Array.getD,hsz,hnl]
   refine Q9z hback hf hg r (i+1) (by omega) (by omega) fuel _ a' w' ι' σ' (by simpa using hsz) (fun j x hx hLj ed hed hb=>?_) ?_ (fun j hj=>?_) hc' hk'
   · by_cases hji:j=i
     · subst hji
       obtain⟨o2,ho2,_,hpre⟩:=Q6o hsz hi
       rw[ho2] at hx;cases hx
       have:=hpre ed hed hb
       show(listed.setIfInBounds j true).getD ed.on false=true
       by_cases h2:ed.on=j
       · rw[h2];exact hset'
       · rw[hset _ h2];exact this
     · have hLj':listed.getD j false=true:=by rw[←hset j hji];exact hLj
       have:=hcl j x hx hLj' ed hed hb
       show(listed.setIfInBounds i true).getD ed.on false=true
       by_cases h2:ed.on=i
       · rw[h2];exact hset'
       · rw[hset _ h2];exact this
   · have:=(Q7a (L:=fun j=>listed.getD j false) (L':=fun j=>(listed.setIfInBounds i true).getD j false) hun hset' hset l.length).1 hnl
     omega
   · by_cases hji:j=i
     · subst hji;rw[hset'];simp
     · rw[hset j hji,hL j hj]
       exact decide_eq_decide.2 (by omega)
theorem Q8g{P:Program}{id:Nat}{l m:List Oper}{es:List Ef}{σ0:St}{Φ : Exit→St→Prop}(hm:P.follows .mixedOrders=true)(hlen:es.length=l.length)(hok:Q4v l es=true)(hback:Q3m (l++m)=true)(hf:forced (l++m) l.length=true)(hgl:Q4u (l++m)=true)(hnew:∀d∈Q0y l,σ0.free d=true)
 (steps:∀i o e,l[i]? = some o→es[i]? = some e→StepD P l (stL l es (fun _=>true) i σ0) o e) (hrest:evL P (l++m).toArray m (stL l es (fun _=>true) l.length σ0) (Φ .normal)):AW P (.region id (l++m).toArray true) σ0 Φ:=by
 intro E ι a w hc
 refine wp_region_any hm ?_
 have hd0:=hc.drawn (w.drawn+1)
 generalize ({w with drawn:=w.drawn+1}:World)=w0 at hd0
 have pair:∀i j x y ex ey,j<i→l[i]? = some x→l[j]? = some y→es[i]? = some ex→es[j]? = some ey→pre l i j=true∨Q5e l.toArray x y ex ey=true:=fun i j x y ex ey hji hx hy hex hey=>by
  have hi:=(List.getElem?_eq_some_iff.1 hx).1
  have hok2:=hok
  unfold Q4v at hok2
  rw[Bool.and_eq_true] at hok2
  have h1:=List.all_eq_true.1 hok2.2 i (by simpa using hi)
  have h2:=List.all_eq_true.1 h1 j (by simpa using hji)
  simp only[hx,hy,hex,hey,Bool.or_eq_true] at h2
  exact h2
 have ef:∀i x,l[i]? = some x→∃e,es[i]? = some e:=fun i x hx=>⟨es[i]'(by rw[hlen];exact(List.getElem?_eq_some_iff.1 hx).1),List.getElem?_eq_getElem _⟩
 have key:∀(fuel:Nat) (listed:Array Bool) (a:Act) (w:World) (ι : Nat→Nat×Nat×Nat),listed.size=(l++m).length→Q3n (l++m) (fun j=>listed.getD j false)→cntL (fun j=>listed.getD j false) (l++m).length≤fuel→(∀j,l.length≤j→listed.getD j false=false) →
  Conc E ι (stL l es (fun j=>listed.getD j false) l.length σ0) a w→wpAny P .any (l++m).toArray (fun ex a' w'=>∃ι' σ',Conc E ι' σ' a' w'∧Φ ex σ') fuel listed a w:=by
  intro fuel
  induction fuel with
  |zero=>
   intro listed a w ι hsz hclF hcnt hout hc
   have hall:=Q5x (L:=fun j=>listed.getD j false) (l++m).length (by omega)
   refine Q9z hback hf hgl m.length l.length (by rw[List.length_append];omega) (Nat.le_refl _) 0 listed a w ι (stL l es (fun _=>true) l.length σ0) hsz hclF hcnt (fun j hj=>?_) (hc.le ⟨by rw[Q1n,Q1n],fun t=>AV.le_of ?_,fun r cs hr=>?_⟩) (by rw[List.drop_left];exact hrest)
   · rcases Nat.lt_or_ge j l.length with h|h
     · have:=hall j hj
       rw[this];simp[h]
     · rw[hout j h];simp;omega
   · exact X1m _ fun j o hj hne _=>absurd (hall j (by rw[List.length_append];omega)) (by simpa using hne)
   · rw[←hr];exact X1n _ fun j e hj hne _=>absurd (hall j (by rw[List.length_append];omega)) (by simpa using hne)
  |succ fuel ih=>
   intro listed a w ι hsz hclF hcnt hout hc
   by_cases hhead:∃j,j<l.length∧listed.getD j false=false
   · obtain⟨j0,hj0,hu0,hlow0⟩:=X2s (L:=fun j=>listed.getD j false) hhead
     have hrd:=X4v hback hsz (by rw[List.length_append];omega) hu0 hlow0
     refine⟨fun hnil=>(by rw[hnil] at hrd;cases hrd),fun i hi=>?_⟩
     obtain⟨o,hoF,hu,hpre⟩:=Q6o hsz hi
     have hiF:=(List.getElem?_eq_some_iff.1 hoF).1
     have hil:i<l.length:=by
      rcases Nat.lt_or_ge i l.length with h|h
      · exact h
      · have:=Q2k hclF i (fun o2 ho2=>by rw[hoF] at ho2;cases ho2;exact hpre) j0 (Q9s hf h hiF (by omega))
        rw[hu0] at this;cases this
     have ho:l[i]? = some o:=by rw[←hoF,List.getElem?_append_left hil]
     obtain⟨e,he⟩:=ef i o ho
     have hcl:Q3n l (fun j=>listed.getD j false):=fun j x hx=>hclF j x (by rw[List.getElem?_append_left (List.getElem?_eq_some_iff.1 hx).1];exact hx)
     have hdiff:∀j x ex,j<l.length→l[j]? = some x→es[j]? = some ex→(listed.getD j false)≠decide (j<i)→x.dst.toList.all (fun d=>!(o.looksAt l.toArray).contains d)=true∧(∀r∈e.rd,r∉ex.wn):=fun j x ex hj hx hex hne=>by
      rcases Nat.lt_trichotomy j i with hji|hji|hji
      · have hun:listed.getD j false=false:=by
         cases h:listed.getD j false with
         |false=>rfl
         |true=>rw[h] at hne;simp[hji] at hne
        rcases pair i j o x e ex hji ho hx he hex with hr|hr
        · have:=Q2k hcl i (fun o' ho'=>by rw[ho] at ho';cases ho';exact hpre) j hr
          rw[hun] at this;cases this
        · unfold Q5e at hr
          simp only[Bool.and_eq_true] at hr
          obtain⟨_,_,h3⟩:=Oper.apart_spec hr.1.1
          refine⟨?_,fun r hr' hrw=>?_⟩
          · cases hd:x.dst with
            |none=>rfl
            |some d=>simpa using h3 d hd
          · have:=List.all_eq_true.1 hr.1.2 r hrw
            simp at this
            exact this.1 hr'
      · subst hji
        rw[hu] at hne;simp at hne
      · have hli:listed.getD j false=true:=by
         cases h:listed.getD j false with
         |true=>rfl
         |false=>rw[h] at hne;simp at hne;omega
        rcases pair j i x o ex e hji hx ho hex he with hr|hr
        · have:=Q2k hcl j (fun o' ho'=>hcl j o' ho' hli) i hr
          rw[hu] at this;cases this
        · unfold Q5e at hr
          simp only[Bool.and_eq_true] at hr
          obtain⟨h1,_,_⟩:=Oper.apart_spec hr.1.1
          refine⟨?_,fun r hr' hrw=>?_⟩
          · cases hd:x.dst with
            |none=>rfl
            |some d=>simpa using h1 d hd
          · have:=List.all_eq_true.1 hr.2 r hrw
            simp at this
            exact this hr'
     have htext:=stL_all (l:=l) (es:=es) (σ:=σ0) i l.length (by omega)
     have hT:∀t∈o.looksAt l.toArray,(stL l es (fun j=>listed.getD j false) l.length σ0).T.getD t .any=(stL l es (fun _=>true) i σ0).T.getD t .any:=fun t ht=>by
      rw[←htext]
      refine X1m _ fun j x hj hne hx hd=>?_
      obtain⟨ex,hex⟩:=ef j x hx
      have:=(hdiff j x ex hj hx hex hne).1
      rw[hd] at this
      simp at this
      exact this ht
     have hH:∀r∈e.rd,hget (stL l es (fun j=>listed.getD j false) l.length σ0).H r=hget (stL l es (fun _=>true) i σ0).H r:=fun r hr=>by
      rw[←htext]
      refine X1n _ fun j ex hj hne hex hrw=>?_
      have hx:l[j]? = some l[j]:=List.getElem?_eq_getElem hj
      exact(hdiff j _ ex hj hx hex hne).2 r hr hrw
     have hN:∀d∈e.nw,(stL l es (fun j=>listed.getD j false) l.length σ0).free d=true:=fun d hd=>by
      have hf:=hok
      unfold Q4v at hf
      rw[Bool.and_eq_true] at hf
      have h1:=List.all_eq_true.1 hf.1 i (by simpa using hil)
      simp only[he] at h1
      have h2:=List.all_eq_true.1 h1 d hd
      rw[Bool.and_eq_true] at h2
      refine X0a (hnew d (by simpa using h2.1)) _ fun j ej hj hLj hej=>?_
      have h3:=List.all_eq_true.1 h2.2 j (by simpa using hj)
      simp only[hej,Bool.or_eq_true,Bool.not_eq_true'] at h3
      rcases h3 with(h3|h3)|h3
      · have:j=i:=by simpa using h3
        subst this
        rw[hu] at hLj;cases hLj
      · have hjo:l[j]? = some l[j]:=List.getElem?_eq_getElem hj
        have:=Q2k hcl j (fun o' ho'=>hcl j o' ho' hLj) i h3
        rw[hu] at this;cases this
      · exact h3
     generalize hτ : stL l es (fun j=>listed.getD j false) l.length σ0 = τ at *
     have hag:Q1g o (stL l es (fun _=>true) i σ0).ev τ.ev:=fun x hx=>by
      cases x with
      |tmp t=>exact hT t (List.mem_append_left _ (List.mem_filterMap.2 ⟨.tmp t,hx,rfl⟩))
      |_=>rfl
     have hset:∀j,j≠i→(listed.setIfInBounds i true).getD j false=listed.getD j false:=fun j hj=>by
      simp[Array.getD_eq_getD_getElem?,Array.getElem?_setIfInBounds_ne (Ne.symm hj)]
     have hset':(listed.setIfInBounds i true).getD i false=true:=by
      have:i<listed.size:=by rw[hsz,List.length_append];omega
      simp[Array.getD,this]
     have hclF':Q3n (l++m) (fun j=>(listed.setIfInBounds i true).getD j false):=fun j x hx hLj ed hed hb=>by
      by_cases hj:j=i
      · subst hj
        rw[hoF] at hx;cases hx
        have:=hpre ed hed hb
        show(listed.setIfInBounds j true).getD ed.on false=true
        by_cases h:ed.on=j
        · rw[h];exact hset'
        · rw[hset _ h];exact this
      · have hLj':listed.getD j false=true:=by rw[←hset j hj];exact hLj
        have:=hclF j x hx hLj' ed hed hb
        show(listed.setIfInBounds i true).getD ed.on false=true
        by_cases h:ed.on=i
        · rw[h];exact hset'
        · rw[hset _ h];exact this
     have hcl':Q3n l (fun j=>(listed.setIfInBounds i true).getD j false):=fun j x hx hLj ed hed hb=>by
      by_cases hj:j=i
      · subst hj
        rw[ho] at hx;cases hx
        have:=hpre ed hed hb
        show(listed.setIfInBounds j true).getD ed.on false=true
        by_cases h:ed.on=j
        · rw[h];exact hset'
        · rw[hset _ h];exact this
      · have hLj':listed.getD j false=true:=by rw[←hset j hj];exact hLj
        have:=hcl j x hx hLj' ed hed hb
        show(listed.setIfInBounds i true).getD ed.on false=true
        by_cases h:ed.on=i
        · rw[h];exact hset'
        · rw[hset _ h];exact this
     have hcnt':cntL (fun j=>(listed.setIfInBounds i true).getD j false) (l++m).length≤fuel:=by
      have:=(Q7a (L:=fun j=>listed.getD j false) (L':=fun j=>(listed.setIfInBounds i true).getD j false) hu hset' hset (l++m).length).1 (by rw[List.length_append];omega)
      omega
     have hlater:∀j x ex,i<j→l[j]? = some x→es[j]? = some ex→(listed.setIfInBounds i true).getD j false=true→x.dst≠o.dst∨x.dst=none:=fun j x ex hij hx hex hLj=>by
      rw[hset j (by omega)] at hLj
      rcases pair j i x o ex e hij hx ho hex he with hr|hr
      · have:=Q2k hcl j (fun o' ho'=>hcl j o' ho' hLj) i hr
        rw[hu] at this;cases this
      · unfold Q5e at hr
        simp only[Bool.and_eq_true] at hr
        obtain⟨_,h2,_⟩:=Oper.apart_spec hr.1.1
        cases hd:x.dst with
        |none=>exact .inr rfl
        |some d=>exact .inl fun e=>h2 d hd e.symm
     have hlaterH:∀j x ex,i<j→l[j]? = some x→es[j]? = some ex→(listed.setIfInBounds i true).getD j false=true→∀r∈e.wn,r∉ex.wn:=fun j x ex hij hx hex hLj r hr hrw=>by
      rw[hset j (by omega)] at hLj
      rcases pair j i x o ex e hij hx ho hex he with hr'|hr'
      · have:=Q2k hcl j (fun o' ho'=>hcl j o' ho' hLj) i hr'
        rw[hu] at this;cases this
      · unfold Q5e at hr'
        simp only[Bool.and_eq_true] at hr'
        have:=List.all_eq_true.1 hr'.1.2 r hr
        simp at this
        exact this.2 hrw
     have hle:(τ.eff o.dst e.v e.wr).le (stL l es (fun j=>(listed.setIfInBounds i true).getD j false) l.length σ0):=by
      have hstep:stL l es (fun j=>(listed.setIfInBounds i true).getD j false) (i+1) σ0=(stL l es (fun j=>(listed.setIfInBounds i true).getD j false) i σ0).eff o.dst e.v e.wr:=by
       conv=>lhs;unfold stL
       simp only[hset',if_true,ho,he]
      refine⟨by show(setO τ.T o.dst e.v).length=_;rw[Q6j,←hτ,Q1n,Q1n],fun t=>AV.le_of ?_,fun r cs hr=>?_⟩
      · by_cases hd:o.dst=some t
        · have h1:∀k,i+1≤k→k≤l.length→(stL l es (fun j=>(listed.setIfInBounds i true).getD j false) k σ0).T.getD t .any=(stL l es (fun j=>(listed.setIfInBounds i true).getD j false) (i+1) σ0).T.getD t .any:=by
           intro k
           induction k with
           |zero=>intro h;omega
           |succ k ihk=>
            intro h1 h2
            by_cases hk:k=i
            · subst hk;rfl
            · rw[←ihk (by omega) (by omega)]
              conv=>lhs;unfold stL
              simp only
              split
              · rename_i hLk
                split
                · rename_i x ex hx hex
                  refine Q5i ?_
                  rcases hlater k x ex (by omega) hx hex hLk with h|h
                  · rwa [hd] at h
                  · rw[h];simp
                · rfl
              · rfl
          rw[h1 l.length (by omega) (Nat.le_refl _),hstep]
          show(setO τ.T o.dst e.v).getD t .any=(setO _ o.dst e.v).getD t .any
          rw[hd]
          exact Q8d (by rw[←hτ,Q1n,Q1n])
        · show(setO τ.T o.dst e.v).getD t .any=_
          rw[Q5i hd,←hτ]
          refine X1m _ fun j x hj hne hx hdx=>?_
          by_cases hji:j=i
          · subst hji;rw[ho] at hx;cases hx;exact hd hdx
          · exact hne (hset j hji).symm
      · show hget (Q0x τ.H e.wr) r=some cs
        rw[←hr]
        by_cases hrw:r∈e.wn
        · have h1:∀k,i+1≤k→k≤l.length→hget (stL l es (fun j=>(listed.setIfInBounds i true).getD j false) k σ0).H r=hget (stL l es (fun j=>(listed.setIfInBounds i true).getD j false) (i+1) σ0).H r:=by
           intro k
           induction k with
           |zero=>intro h;omega
           |succ k ihk=>
            intro h1 h2
            by_cases hk:k=i
            · subst hk;rfl
            · rw[←ihk (by omega) (by omega)]
              conv=>lhs;unfold stL
              simp only
              split
              · rename_i hLk
                split
                · rename_i x ex hx hex
                  show hget (Q0x _ ex.wr) r=_
                  rw[Q2m,Q7f (hlaterH k x ex (by omega) hx hex hLk r hrw)]
                · rfl
              · rfl
          rw[h1 l.length (by omega) (Nat.le_refl _),hstep]
          show hget (Q0x τ.H e.wr) r=hget (Q0x _ e.wr) r
          rw[Q2m,Q2m]
          obtain⟨ds,hds⟩:=Q1h hrw
          rw[hds]
        · rw[Q2m,Q7f hrw,←hτ]
          refine X1n _ fun j ex hj hne hex hrx=>?_
          by_cases hji:j=i
          · subst hji;rw[he] at hex;cases hex;exact hrw hrx
          · exact hne (hset j hji).symm
     have hnext:∀ι' a' w',Conc E ι' (τ.eff o.dst e.v e.wr) a' w'→wpAny P .any (l++m).toArray (fun ex a' w'=>∃ι' σ',Conc E ι' σ' a' w'∧Φ ex σ') fuel (listed.setIfInBounds i true) a' w':=fun ι' a' w' hc'=>
      ih _ a' w' ι' (by simpa using hsz) hclF' hcnt' (fun j hj=>by rw[hset j (by omega)];exact hout j hj) (hc'.le hle)
     have hgo:=Q7o hgl hoF
     unfold wpOp
     simp only[List.getElem?_toArray,hoF]
     have run:OpN P o (stL l es (fun _=>true) i σ0).ev (hget (stL l es (fun _=>true) i σ0).H) e→o.wp P a w (wpAny P .any (l++m).toArray (fun ex a' w'=>∃ι' σ',Conc E ι' σ' a' w'∧Φ ex σ') fuel (listed.setIfInBounds i true)) (fun ex a' w'=>∃ι' σ',Conc E ι' σ' a' w'∧Φ ex σ'):=fun hF=>
      hF τ hag hH hN E ι a w hc _ _ fun ι' σ' a' w' hk hc'=>hnext ι' a' w' (by rw[←hk];exact hc')
     have hw:Region.wanted o (yielded (l++m).toArray a.tmps)=true:=by simp[Region.wanted,hgo]
     rw[if_pos hw]
     rcases steps i o e ho he with⟨hg,hF⟩|⟨j,want,d,b,hg,hd,_⟩
     · exact .inl (run hF)
     · rw[hgo] at hg;cases hg
   · have hall:∀j,j<l.length→listed.getD j false=true:=fun j hj=>by
      cases h:listed.getD j false with
      |true=>rfl
      |false=>exact absurd ⟨j,hj,h⟩ hhead
     refine Q9z hback hf hgl m.length l.length (by rw[List.length_append];omega) (Nat.le_refl _) (fuel+1) listed a w ι (stL l es (fun _=>true) l.length σ0) hsz hclF hcnt (fun j hj=>?_) (hc.le ⟨by rw[Q1n,Q1n],fun t=>AV.le_of ?_,fun r cs hr=>?_⟩) (by rw[List.drop_left];exact hrest)
     · rcases Nat.lt_or_ge j l.length with h|h
       · rw[hall j h];simp[h]
       · rw[hout j h];simp;omega
     · exact X1m _ fun j o hj hne _=>absurd (hall j hj) (by simpa using hne)
     · rw[←hr];exact X1n _ fun j e hj hne _=>absurd (hall j hj) (by simpa using hne)
 have hrep:∀j,(Array.replicate (l++m).length false).getD j false=false:=fun j=>by
  simp[Array.getD_eq_getD_getElem?,Array.getElem?_replicate]
  split<;>rfl
 have hempty:∀k,stL l es (fun j=>(Array.replicate (l++m).length false).getD j false) k σ0 = σ0:=by
  intro k
  induction k with
  |zero=>rfl
  |succ k ih=>
   unfold stL
   simp only[hrep k,Bool.false_eq_true,if_false,ih]
 have hsz:(l++m).toArray.size=(l++m).length:=by simp
 rw[hsz]
 refine key (l++m).length _ a w0 ι (by simp) (fun j o ho hL=>?_) ?_ (fun j _=>hrep j) (by rw[hempty];exact hd0)
 · simp only[hrep j] at hL;cases hL
 · have:∀k,cntL (fun j=>(Array.replicate (l++m).length false).getD j false) k≤k:=by
    intro k
    induction k with
    |zero=>exact Nat.le_refl _
    |succ k ih=>unfold cntL;split<;>omega
   exact this _
theorem X2v{P:Program}{σ : St}{Φ : Exit→St→Prop}{id:Nat}(l m:List Oper)(hm:P.follows .mixedOrders=true)(hback:Q3m (l++m)=true)(hf:forced (l++m) l.length=true)(hgl:Q4u (l++m)=true)(hnew:(Q0y l).all (fun d=>σ.free d)=true)(h:∀R:St→Prop,(∀σ',evL P (l++m).toArray m σ' (Φ .normal)→R σ')→evD P l l σ [] R):evC P (.region id (l++m).toArray true) σ Φ:=by
 obtain⟨es,h1,_,h3,h4,h5⟩:=X0u (P:=P) (l0:=l) (σ0:=σ) l σ [] 0 rfl rfl (Nat.zero_le _) (fun _ _=>rfl) (h _ fun _ h=>h)
 exact Q8g hm h1 h3 hback hf hgl (fun d hd=>List.all_eq_true.1 hnew d hd) (fun i o e ho he=>h4 i o e (Nat.zero_le _) ho he) h5
theorem X4b{P:Program}{σ : St}{Φ : Exit→St→Prop}{id:Nat}{ops:List Oper}(k:Nat)(hk:k≤ops.length)(hm:P.follows .mixedOrders=true)(hback:Q3m ops=true)(hf:forced ops k=true)(hgl:Q4u ops=true)(hnew:(Q0y (ops.take k)).all (fun d=>σ.free d)=true)(h:∀R:St→Prop,(∀σ',evL P ops.toArray (ops.drop k) σ' (Φ .normal)→R σ')→evD P (ops.take k) (ops.take k) σ [] R):evC P (.region id ops.toArray true) σ Φ:=by
 have e:=List.take_append_drop k ops
 have hl:(ops.take k).length=k:=by rw[List.length_take];omega
 have:=X2v (P:=P) (σ:=σ) (Φ:=Φ) (id:=id) (ops.take k) (ops.drop k) hm (by rw[e];exact hback) (by rw[e,hl];exact hf) (by rw[e];exact hgl) hnew (by rw[e];exact h)
 rwa [e] at this
section
variable {P:Program} {o:Oper} {σ : St}
theorem X1x{f:FuncId}{fn:Func}{cargs:List AV}{d r e sz n:Nat}{pcs:List PV}{fo:Operand}{cas:Array Operand}{ts:Array TypeId}{caps:List AV}(hF:Fn P f cargs [] (.row r e sz n) [(r,pcs.map .c)])(ho:o.op = .call {callee:=.value fo,args:=cas,argTypes:=ts})(hfo:Q0j fo=true)(has:cas.toList.all Q0j=true)(hf:σ.ev fo = .fn f caps)
 (hfn:P.funcs[f]? = some fn) (hname:(fn.name == "runtime.NumGoroutine")=false) (hbody:fn.body.isNone=false) (hargs:Q1f (fun _=>d) cargs (cas.toList.map σ.ev++caps)) (hd:o.dst=some d) (hd2:d<1000) :
 OpN P o σ.ev (hget σ.H) ⟨.row d e sz n,[],[(d,pcs.map .c)],[d]⟩:=fun τ hA _ hN=>by
 have h1:τ.ev fo = σ.ev fo:=hA fo (by rw[ho];simp[Op.operands,Call.operands])
 have h2:cas.toList.map τ.ev=cas.toList.map σ.ev:=List.map_congr_left fun x hx=>hA x (by rw[ho];simp[Op.operands,Call.operands];first|exact .inr (by simpa using hx))
 have hrn:AV.renL (fun _=>d) (pcs.map .c)=pcs.map .c:=by simp
 refine X0o hF (fun _=>d) ho hfo has (by rw[h1];exact hf) hfn hname hbody rfl (by rw[h2];exact hargs) (fun r hr=>by cases hr) (fun a ha b hb _=>?_) ⟨.inr ⟨hN d (by simp),hd2⟩,trivial⟩ (by simp[AV.inN]) (by simp[inH]) ?_
 · simp at ha hb
   rw[ha,hb]
 · rw[hd]
   simp only[renH,Q2c,Q0x,hrn,AV.ren]
   rfl
theorem Q7p{f:FuncId}{fn:Func}{cargs:List AV}{d r e sz n:Nat}{pcs:List PV}{fo:Operand}{cas:Array Operand}{ts:Array TypeId}{caps:List AV}{l0 rest:List Oper}{acc:List Ef}{K:St→Prop}(hF:Fn P f cargs [] (.row r e sz n) [(r,pcs.map .c)])(hg:o.guard=none)(ho:o.op = .call {callee:=.value fo,args:=cas,argTypes:=ts})(hfo:Q0j fo=true)(has:cas.toList.all Q0j=true)(hf:σ.ev fo = .fn f caps)
 (hfn:P.funcs[f]? = some fn) (hname:(fn.name == "runtime.NumGoroutine")=false) (hbody:fn.body.isNone=false) (hargs:Q1f (fun _=>d) cargs (cas.toList.map σ.ev++caps)) (hd:o.dst=some d) (hd2:d<1000)
 (h:evD P l0 rest (σ.eff o.dst (.row d e sz n) [(d,pcs.map .c)]) (⟨.row d e sz n,[],[(d,pcs.map .c)],[d]⟩::acc) K):evD P l0 (o::rest) σ acc K:=
 ⟨_,.inl ⟨hg,X1x hF ho hfo has hf hfn hname hbody hargs hd hd2⟩,h⟩
end
end
section
open Go.RowKit Go.MapKept
mutual
def PV.hasMp:PV→Bool
 |.v _=>false
 |.sl _ _ _ cs=>PV.hasMpL cs
 |.mp _ _=>true
def PV.hasMpL:List PV→Bool
 |[]=>false
 |x::l=>PV.hasMp x||PV.hasMpL l
end
theorem Q7h:∀{l:List PV},PV.hasMpL l=false→∀(j:Nat) (x:PV),l[j]? = some x→PV.hasMp x=false
 |[],_,j,x,hx=>by simp at hx
 |y::l,h,j,x,hx=>by
  unfold PV.hasMpL at h
  rw[Bool.or_eq_false_iff] at h
  cases j with
  |zero=>simp at hx;subst hx;exact h.1
  |succ j=>exact Q7h h.2 j x (by simpa using hx)
theorem X6a(l r:List PV):PV.hasMpL (l++r)=(PV.hasMpL l||PV.hasMpL r):=by
 induction l with
 |nil=>simp[PV.hasMpL]
 |cons x l ih=>simp[PV.hasMpL,ih,Bool.or_assoc]
theorem X3y{α : Type}(f:α→List PV)(h:∀x,PV.hasMpL (f x)=false)(l:List α):PV.hasMpL (l.flatMap f)=false:=by
 induction l with
 |nil=>rfl
 |cons x l ih=>rw[List.flatMap_cons,X6a,h,ih];rfl
mutual
def AV.hasMp:AV→Bool
 |.any=>false
 |.c p=>PV.hasMp p
 |.agg cs=>AV.hasMpA cs
 |.tup cs=>AV.hasMpA cs
 |.ptr _ _=>false
 |.row _ _ _ _=>false
 |.cut _ _ _ _ _ _ _=>false
 |.ep cs=>PV.hasMpL cs
 |.fn _ cs=>AV.hasMpA cs
 |.fnb _ cs=>AV.hasMpA cs
 |.amp _ _ _=>true
def AV.hasMpA:List AV→Bool
 |[]=>false
 |x::l=>AV.hasMp x||AV.hasMpA l
end
theorem Q4g:∀{l:List AV},AV.hasMpA l=false→∀(j:Nat) (x:AV),l[j]? = some x→AV.hasMp x=false
 |[],_,j,x,hx=>by simp at hx
 |y::l,h,j,x,hx=>by
  unfold AV.hasMpA at h
  rw[Bool.or_eq_false_iff] at h
  cases j with
  |zero=>simp at hx;subst hx;exact h.1
  |succ j=>exact Q4g h.2 j x (by simpa using hx)
theorem Q9q(l:List PV):AV.hasMpA (l.map .c)=PV.hasMpL l:=by
 induction l with
 |nil=>rfl
 |cons x l ih=>simp[AV.hasMpA,AV.hasMp,PV.hasMpL,ih]
def Q6w(H:List (Nat×List AV)):Bool:=
 match H with
 |[]=>false
 |(_,cs)::H=>AV.hasMpA cs||Q6w H
theorem Q9p:∀{H:List (Nat×List AV)},Q6w H=false→∀(r:Nat) (cs:List AV),hget H r=some cs→AV.hasMpA cs=false
 |[],_,r,cs,h=>by cases h
 |(k,ds)::H,hm,r,cs,h=>by
  unfold Q6w at hm
  rw[Bool.or_eq_false_iff] at hm
  unfold hget at h
  split at h
  · cases h;exact hm.1
  · exact Q9p hm.2 r cs h
section
variable {S S':Nat→Prop} {ι : Nat→Nat×Nat×Nat} {w w':World}
theorem RVp.nmono(hS:∀b cur e z,S b→w.heap[b]? = some (Obj.cells cur e z)→S' b∧w'.heap[b]? = w.heap[b]?){v:Value}{p:PV}(h:RVp S w v p):PV.hasMp p=false→RVp S' w' v p:=by
 induction h with
 |v x h=>exact fun _=>.v x h
 |sl ex sz A n c us cs h1 h2 h3 hx hl hn h4 _ ih=>
  intro hm
  refine .sl ex sz A n c us cs h1 h2 h3 hx hl hn (fun hne=>?_) fun j u x hu hx'=>ih j u x hu hx' (Q7h (by unfold PV.hasMp at hm;exact hm) j x hx')
  obtain⟨b,o,hA,hb,hc⟩:=h4 hne
  obtain⟨u,rest,hu⟩:=List.exists_cons_of_ne_nil hne
  obtain⟨cur,e,z,hh0⟩:=Q4e (hc 0 u (by rw[hu];rfl))
  obtain⟨hS',hh⟩:=hS b cur e z hb hh0
  exact⟨b,o,hA,hS',fun j u hu=>(World.cell?_of_block (w:=w) (a:=⟨b,o+j,none⟩) hh).trans (hc j u hu)⟩
 |mp=>intro hm;cases hm
theorem RV.nmono(hS:∀b cur e z,S b→w.heap[b]? = some (Obj.cells cur e z)→S' b∧w'.heap[b]? = w.heap[b]?){v:Value}{x:AV}(h:RV S ι w v x):AV.hasMp x=false→RV S' ι w' v x:=by
 induction h with
 |any x=>exact fun _=>.any x
 |c x p h=>exact fun hm=>.c x p (h.nmono hS (by unfold AV.hasMp at hm;exact hm))
 |agg us cs hl h1 _ ih=>exact fun hm=>.agg us cs hl h1 fun j u x hu hx=>ih j u x hu hx (Q4g (by unfold AV.hasMp at hm;exact hm) j x hx)
 |tup us cs hl _ ih=>exact fun hm=>.tup us cs hl fun j u x hu hx=>ih j u x hu hx (Q4g (by unfold AV.hasMp at hm;exact hm) j x hx)
 |ptr r off=>exact fun _=>.ptr r off
 |row r e sz n c h1 h2 h3 h4 h0=>exact fun _=>.row r e sz n c h1 h2 h3 h4 h0
 |rnil A r e sz h=>exact fun _=>.rnil A r e sz h
 |cut r e sz lo n c ex h1 h2 h3 hx h4 h0=>exact fun _=>.cut r e sz lo n c ex h1 h2 h3 hx h4 h0
 |cnil A r e sz lo ex h=>exact fun _=>.cnil A r e sz lo ex h
 |ep b o us cs hl hne hb h4 h5=>
  intro hm
  obtain⟨u0,rest,hu0⟩:=List.exists_cons_of_ne_nil hne
  obtain⟨cur,e,z,hh0⟩:=Q4e (h4 0 u0 (by rw[hu0];rfl))
  obtain⟨hS',hh⟩:=hS b cur e z hb hh0
  exact .ep b o _ cs hl hne hS' (fun j u hu=>(World.cell?_of_block (w:=w) (a:=⟨b,o+j,none⟩) hh).trans (h4 j u hu)) (fun j u x hu hx=>(h5 j u x hu hx).nmono hS (Q7h (by unfold AV.hasMp at hm;exact hm) j x hx))
 |fn f us cs hl _ ih=>exact fun hm=>.fn f us cs hl fun j u x hu hx=>ih j u x hu hx (Q4g (by unfold AV.hasMp at hm;exact hm) j x hx)
 |fnb f us cs hl _ ih=>exact fun hm=>.fnb f us cs hl fun j u x hu hx=>ih j u x hu hx (Q4g (by unfold AV.hasMp at hm;exact hm) j x hx)
 |amp b X clk ks us cs hb hh hk hu hl _ ih=>exact fun hm=>by cases hm
end
def AV.mpU(b:Nat)(es:List (Value×Value))(x:AV):AV:=
 match x with
 |.c (.mp b0 _)=>if b0=b then .c (.mp b es) else .any
 |x=>if AV.hasMp x then .any else x
theorem X5z{X:Array MapEntry}{clk:Nat}{e:MapEntry}(h:Q9g X clk)(he:e.born=clk):Q9g (X.push e) (clk+1):=by
 unfold Q9g
 rw[Array.toList_push,List.map_append]
 refine⟨fun n hn=>?_,List.nodup_append.2 ⟨h.2,by simp,fun x hx y hy=>?_⟩⟩
 · rcases List.mem_append.1 hn with hn|hn
   · have:=h.1 n hn;omega
   · simp at hn;omega
 · have:=h.1 x hx
   simp at hy
   omega
theorem X2j{X:Array MapEntry}{clk j:Nat}{f:MapEntry→MapEntry}(h:Q9g X clk)(hf:∀e,(f e).born=e.born):Q9g (X.modify j f) clk:=by
 have e:(X.modify j f).toList.map (·.born)=X.toList.map (·.born):=by
  refine List.ext_getElem? fun i=>?_
  rw[List.getElem?_map,List.getElem?_map,Array.getElem?_toList,Array.getElem?_toList,Array.getElem?_modify]
  by_cases hij:j=i
  · subst hij
    rw[if_pos rfl]
    cases X[j]? <;> simp[hf]
  · rw[if_neg hij]
 unfold Q9g
 rw[e]
 exact h
section
variable {E:Env} {ι : Nat→Nat×Nat×Nat} {σ : St} {a:Act} {w:World} {b clk clk':Nat} {X X':Array MapEntry}
theorem X4q(hb:w.heap[b]? = some (.map X clk))(o':Obj){b':Nat}{o:Obj}(h:w.heap[b']? = some o)(hn:∀Y c,o≠.map Y c):(w.putObj b o').heap[b']? = w.heap[b']?:=
 World.putObj_heap_other fun e=>by subst e;rw[hb] at h;cases h;exact hn _ _ rfl
theorem RV.mpU{S:Nat→Prop}{v:Value}{x:AV}(h:RV S ι w v x)(hb:w.heap[b]? = some (.map X clk))(hw:Q9g X' clk'):RV S ι (w.putObj b (.map X' clk')) v (x.mpU b (X'.toList.map fun e=>(e.key,e.val))):=by
 have hlt:=(Array.getElem?_eq_some_iff.1 hb).1
 unfold AV.mpU
 split
 · rename_i b0 es0
   split
   · rename_i e
     subst e
     cases h with
     |c _ _ hp=>cases hp with
      |mp _ _ Y c hS hh he _=>exact .c _ _ (.mp _ _ X' clk' hS (World.putObj_heap_same hlt) rfl hw)
   · exact .any _
 · split
   · exact .any _
   · rename_i hm
     exact h.nmono (fun b' cur e z hS hh=>⟨hS,X4q hb _ hh fun _ _ h=>by cases h⟩) (by simpa using hm)
theorem Conc.remap(h:Conc E ι σ a w)(hb:w.heap[b]? = some (.map X clk))(hE:E.w.heap.size≤b)(hH:Q6w σ.H=false)(hw:Q9g X' clk'):Conc E ι ⟨σ.T.map (AV.mpU b (X'.toList.map fun e=>(e.key,e.val))),σ.H⟩ a (w.putObj b (.map X' clk')):=by
 have hlt:=(Array.getElem?_eq_some_iff.1 hb).1
 refine⟨?_,by rw[List.length_map];exact h.size,fun i=>?_,⟨fun r cs hr=>?_,h.heap.inj⟩,⟨h.keep.os,h.keep.tape,h.keep.output,by simpa using h.keep.size,fun b' hb' hbD=>?_,h.keep.mine⟩⟩
 · obtain⟨Ds,h1,h2,h3⟩:=h.defers
   refine⟨Ds,h1,h2,fun D hD=>?_⟩
   obtain⟨g1,g2,g3⟩:=h3 D hD
   exact⟨g1,g2,(X4q hb _ g3 fun _ _ h=>by cases h).trans g3⟩
 · have e:(σ.T.map (AV.mpU b (X'.toList.map fun e=>(e.key,e.val)))).getD i .any=(σ.T.getD i .any).mpU b (X'.toList.map fun e=>(e.key,e.val)):=by
    rw[List.getD_eq_getElem?_getD,List.getD_eq_getElem?_getD,List.getElem?_map]
    cases σ.T[i]? <;> rfl
   rw[e]
   exact(h.tmp i).mpU hb hw
 · rcases h.heap.blk r cs hr with h0|⟨cur,hh,hs,hlen,hc,hone1⟩
   · exact .inl h0
   · have hm:=Q9p hH r cs hr
     exact .inr ⟨cur,(X4q hb _ hh fun _ _ h=>by cases h).trans hh,hs,hlen,fun j u x hu hx=>⟨(hc j u x hu hx).1.nmono (fun b' cur e z hS hh=>⟨hS,X4q hb _ hh fun _ _ h=>by cases h⟩) (Q4g hm j x hx),(hc j u x hu hx).2⟩,hone1⟩
 · rw[World.putObj_heap_other (by omega)];exact h.keep.block b' hb' hbD
end
section
variable {V:Type}
def im(f:V→Value)(m:List (Int×V)):List (Value×Value):=m.map fun p=>(Value.int .u64 p.1,f p.2)
def Q6g(k:Int):List (Int×V)→Nat→Option (Nat×V)
 |[],_=>none
 |p::m,i=>if k=p.1 then some (i,p.2) else Q6g k m (i+1)
def mget(z:V)(m:List (Int×V))(k:Int):V:=match Q6g k m 0 with|some (_,v)=>v|none=>z
def mput(m:List (Int×V))(k:Int)(v:V):List (Int×V):=
 match m with
 |[]=>[(k,v)]
 |p::m=>if k=p.1 then(k,v)::m else p::mput m k v
theorem Q5q(k:Int):∀(m:List (Int×V)) (i:Nat),Q6g k m i=(Q6g k m 0).map fun p=>(p.1+i,p.2)
 |[],_=>rfl
 |p::m,i=>by
  unfold Q6g
  split
  · simp
  · rw[Q5q k m (i+1),Q5q k m (0+1),Option.map_map]
    congr 1
    funext q
    simp;omega
theorem mget_nil(z:V)(k:Int):mget z [] k=z:=rfl
theorem Q5p(z:V)(p:Int×V)(m:List (Int×V))(k:Int):mget z (p::m) k=if k=p.1 then p.2 else mget z m k:=by
 have e:Q6g k (p::m) 0=if k=p.1 then some (0,p.2) else Q6g k m (0+1):=rfl
 unfold mget
 rw[e]
 by_cases h:k=p.1
 · rw[if_pos h,if_pos h]
 · rw[if_neg h,if_neg h,Q5q k m (0+1)]
   cases Q6g k m 0<;>rfl
theorem Q6d(z:V)(k:Int)(v:V)(q:Int):∀m:List (Int×V),mget z (mput m k v) q=if q=k then v else mget z m q
 |[]=>by
  unfold mput
  rw[Q5p,mget_nil]
 |p::m=>by
  unfold mput
  split
  · rename_i h
    rw[Q5p,Q5p,←h]
    split<;>rfl
  · rename_i h
    rw[Q5p,Q6d z k v q m,Q5p]
    by_cases h1:q=p.1
    · rw[if_pos h1,if_pos h1,if_neg (by omega)]
    · rw[if_neg h1,if_neg h1]
theorem X2h{k:Int}{v:V}:∀{m:List (Int×V)},Q6g k m 0=none→mput m k v=m++[(k,v)]
 |[],_=>rfl
 |p::m,h=>by
  unfold Q6g at h
  split at h
  · cases h
  · rename_i hk
    rw[Q5q] at h
    unfold mput
    rw[if_neg hk,X2h (by simpa using h)];rfl
theorem X2g{k:Int}{v u:V}:∀{m:List (Int×V)} {j:Nat},Q6g k m 0=some (j,u)→j<m.length∧(m[j]?).map (·.1)=some k∧mput m k v=m.set j (k,v)
 |[],_,h=>by cases h
 |p::m,j,h=>by
  unfold Q6g at h
  unfold mput
  split at h
  · rename_i hk
    cases h
    rw[if_pos hk]
    exact⟨by simp,by simp[hk],rfl⟩
  · rename_i hk
    rw[Q5q] at h
    obtain⟨⟨j',u'⟩,h1,h2⟩:=Option.map_eq_some_iff.1 h
    cases h2
    obtain⟨g1,g2,g3⟩:=X2g (v:=v) h1
    rw[if_neg hk,g3]
    exact⟨by simp;omega,by simpa using g2,by simp⟩
theorem Q7i(f:V→Value)(k:Int):∀(l:List MapEntry) (m:List (Int×V)) (i:Nat),l.map (fun e=>(e.key,e.val))=im f m→Instr.findNow (.int .u64) (.int .u64 k) l i=some ((Q6g k m i).map fun p=>(p.1,f p.2))
 |[],[],i,_=>rfl
 |[],p::m,i,h=>by cases h
 |e::l,[],i,h=>by cases h
 |e::l,p::m,i,h=>by
  simp only[im,List.map_cons,List.cons.injEq,Prod.mk.injEq] at h
  obtain⟨⟨h1,h2⟩,h3⟩:=h
  have ih:=Q7i f k l m (i+1) h3
  unfold Instr.findNow Q6g
  rw[h1]
  unfold Instr.sameNow
  by_cases hk:k=p.1
  · have:(k==p.1)=true:=by simpa using hk
    simp[this,hk,h2]
  · have:(k==p.1)=false:=by simpa using hk
    simp[this,hk,ih]
theorem keys_im{f:V→Value}{l:List MapEntry}{m:List (Int×V)}(h:l.map (fun e=>(e.key,e.val))=im f m):∀e∈l,∃i,e.key = .int .u64 i:=fun e he=>by
 have h1:(e.key,e.val)∈im f m:=by rw[←h];exact List.mem_map.2 ⟨e,he,rfl⟩
 obtain⟨p,_,hp⟩:=List.mem_map.1 h1
 simp only[Prod.mk.injEq] at hp
 exact⟨p.1,hp.1.symm⟩
end
section
variable {P:Program} {o:Oper} {σ : St} {K:St→Prop} {V:Type}
theorem run_zeroV{t:TypeId}{z:Value}(h:(P.info? t).bind (·.zero)=some z)(w:World):(zeroValue t).run P w = .ok z w:=by
 cases hi:P.info? t with
 |none=>simp[hi] at h
 |some i=>
  cases hz:i.zero with
  |none=>simp[hi,hz] at h
  |some v=>simp[hi,hz] at h;subst h;simp[zeroValue,typeInfo,hi,hz]
theorem Q5s(k:Int):IsKey (.int .u64) (.int .u64 k):=by simp[IsKey]
theorem X3o{E0:Env}{t:TypeId}(ho:o.op = .makeMap t none)(hK:∀b,E0.w.heap.size≤b→K (σ.put o.dst (.c (.mp b [])))):OpE (fun E=>E=E0) P o σ K:=by
 intro E ι a w hE hc K' Q hK'
 subst hE
 have hS:Sx E ι σ.H w.heap.size:=by
  refine⟨.inr (.inl hc.keep.size),fun r cs hr hz e=>?_⟩
  rcases hc.heap.blk r cs hr with⟨h0,_⟩|⟨cur,hh,_⟩
  · exact hz h0
  · have:=(Array.getElem?_eq_some_iff.1 hh).1
    omega
 have hc1:=hc.alloc (.map #[] 0)
 have hnew:(w.alloc (.map #[] 0)).heap[w.heap.size]? = some (.map #[] 0):=World.alloc_heap_new w _
 have hr:(execOp a.eval o).run P w = .ok (.value (.map (some w.heap.size))) (w.alloc (.map #[] 0)):=by
  unfold execOp
  simp only[ho]
  rfl
 have h2:=hK' ι _ _ _ (hK w.heap.size hc.keep.size) (hc1.put o.dst (.c _ _ (.mp w.heap.size [] #[] 0 hS hnew rfl ⟨fun n h=>by simp at h,by simp⟩)))
 refine Q4f (by unfold opNd;rw[ho]) ?_
 unfold Oper.wp
 rw[hr]
 exact h2
def OpW(p:Env→Prop)(P:Program)(o:Oper)(σ : St)(K:St→Prop):Prop:=
 ∀(E:Env) (ι : Nat→Nat×Nat×Nat) (a:Act) (w:World),p E→Conc E ι σ a w→∀(K':Act→World→Prop) (Q:Exit→Act→World→Prop),(∀ι' σ' a' w',K σ'→Conc E ι' σ' a' w'→K' a' w')→o.wp P a w K' Q
theorem OpA.toW{p:Env→Prop}(h:OpA P o σ K):OpW p P o σ K:=fun E ι a w _ hc=>h E ι a w hc
theorem Q9i{E0:Env}(f:V→Value)(m:List (Int×V)){t kt et:TypeId}{x ix vx:Operand}{b:Nat}{k:Int}{v:V}(ho:o.op = .mapUpdate t x ix vx)(hd:o.dst=none)(hi:Q0j ix=true)(hm:P.underlying t=some (.map kt et))(hkt:P.underlying kt=some (.int .u64))
 (h1:∀E ι a w,Conc E ι σ a w→a.eval x = .map (some b)∧∃X clk,w.heap[b]? = some (.map X clk)∧X.toList.map (fun e=>(e.key,e.val))=im f m∧Q9g X clk) (h2:σ.ev ix = .c (.v (.int .u64 k))) (h3:∀E ι a w,Conc E ι σ a w→a.eval vx=f v) (hb:E0.w.heap.size≤b) (hH:Q6w σ.H=false) (hK:K ⟨σ.T.map (AV.mpU b (im f (mput m k v))),σ.H⟩):OpW (fun E=>E=E0) P o σ K:=by
 intro E ι a w hE hc K' Q hK'
 subst hE
 have hiv:=hc.ev ix hi
 rw[h2] at hiv
 obtain⟨ei,_⟩:=hiv.v_inv
 have ev:=h3 E ι a w hc
 obtain⟨he,X,clk,hh,hE,hw⟩:=h1 E ι a w hc
 have hfn:=Q7i f k X.toList m 0 hE
 obtain⟨X',clk',hrun,hX',hw'⟩:∃X' clk',(execOp a.eval o).run P w = .ok .skip (w.putObj b (.map X' clk'))∧X'.toList.map (fun e=>(e.key,e.val))=im f (mput m k v)∧Q9g X' clk':=by
  cases hr:Q6g k m 0 with
  |none=>
   rw[hr] at hfn
   refine⟨X.push {key:=.int .u64 k,val:=f v,born:=clk},clk+1,?_,?_,X5z hw rfl⟩
   · unfold execOp
     simp[ho,he,ei,ev,Instr.mapUpdate,run_underlying hm,MapKept.run_getObj_map hh,MapKept.run_checkKey hkt (Q5s k),MapKept.run_findKey hkt hfn,MapKept.run_setObj_map _ hh,Result.andThen,World.putObj]
   · rw[X2h hr,Array.toList_push,List.map_append,hE]
     simp[im]
  |some p=>
   obtain⟨j,u⟩:=p
   rw[hr] at hfn
   obtain⟨g1,g2,g3⟩:=X2g (v:=v) hr
   have hj:j<X.size:=by
    have:=congrArg List.length hE
    simp[im] at this
    omega
   have hkey:X[j].key = .int .u64 k:=by
    have h4:(X.toList.map fun e=>(e.key,e.val))[j]? = (im f m)[j]?:=by rw[hE]
    rw[List.getElem?_map] at h4
    unfold im at h4
    rw[List.getElem?_map] at h4
    obtain⟨q,hq,hq1⟩:=Option.map_eq_some_iff.1 g2
    rw[hq] at h4
    simp[hj] at h4
    rw[h4.1,hq1]
   refine⟨X.modify j fun e=>{e with key:=.int .u64 k,val:=f v},clk,?_,?_,X2j hw fun _=>rfl⟩
   · unfold execOp
     simp[ho,he,ei,ev,Instr.mapUpdate,run_underlying hm,MapKept.run_getObj_map hh,MapKept.run_checkKey hkt (Q5s k),MapKept.run_findKey hkt hfn,hj,hkey,MapKept.run_keyThatStays (Q5s k),MapKept.run_setObj_map _ hh,Result.andThen,World.putObj]
   · rw[g3]
     have h5:im f (m.set j (k,v))=(im f m).set j (.int .u64 k,f v):=by unfold im;rw[List.map_set]
     rw[h5,←hE]
     refine List.ext_getElem? fun i=>?_
     rw[List.getElem?_map,List.getElem?_set,List.getElem?_map,Array.getElem?_toList,Array.getElem?_toList]
     by_cases hij:j=i
     · subst hij
       rw[if_pos rfl]
       simp[hj,Array.getElem?_modify,Array.getElem_modify]
     · rw[if_neg hij]
       simp[Array.getElem?_modify,hij]
 have h4:=hK' ι _ _ _ hK (hX'▸hc.remap (X':=X') (clk':=clk') hh hb hH hw')
 unfold Oper.wp
 rw[hrun]
 simpa [Oper.upon,hd,Act.put] using h4
end
theorem RV.vals{S:Nat→Prop}{ι : Nat→Nat×Nat×Nat}{w:World}{v:Value}{xs:List Value}(h:RV S ι w v (.agg (xs.map fun x=>.c (.v x)))):v = .agg xs.toArray:=by
 cases h with
 |agg us _ hl _ hu=>
  have:us=xs:=by
   refine List.ext_getElem? fun j=>?_
   rw[List.length_map] at hl
   rcases Nat.lt_or_ge j us.length with h|h
   · have h1:=hu j us[j] (.c (.v xs[j])) (List.getElem?_eq_getElem h) (by simp[show j<xs.length by omega])
     rw[List.getElem?_eq_getElem h,List.getElem?_eq_getElem (show j<xs.length by omega),h1.v_inv.1]
   · rw[List.getElem?_eq_none h,List.getElem?_eq_none (by omega)]
  rw[this]
section
variable {P:Program} {o:Oper} {σ : St} {K:St→Prop} {κ : Type}
end
section
variable {p:Env→Prop} {P:Program} {σ : St} {Φ : Exit→St→Prop}
theorem AWE.seqI{x y:Code}(h:∀Ψ : Exit→St→Prop,(∀σ',AWE p P y σ' Φ→Ψ .normal σ')→(∀ex σ',ex≠.normal→Φ ex σ'→Ψ ex σ')→AWE p P x σ Ψ):AWE p P (.seq x y) σ Φ:=
 AWE.seq (h _ (fun _ h=>h) fun ex σ' hne h'=>by
  cases ex with
  |normal=>exact absurd rfl hne
  |_=>exact h')
theorem AWE.blockI{id:Nat}{x:Code}(h:∀Ψ : Exit→St→Prop,(∀σ',Φ .normal σ'→Ψ (.exit id) σ')→(∀ex σ',(∀j,ex = .exit j→j≠id)→Φ ex σ'→Ψ ex σ')→AWE p P x σ Ψ):AWE p P (.block id x) σ Φ:=
 AWE.block (h _ (fun σ' h'=>by show(if id=id then _ else _);rw[if_pos rfl];exact h') fun ex σ' hne h'=>by
  cases ex with
  |exit j=>show(if j=id then _ else _);rw[if_neg (hne j rfl)];exact h'
  |_=>exact h')
theorem AWE.loopI{c:Code}{α : Type}(I:α→St)(μ : α→Nat)(x0:α)(h0:σ.to (I x0))
 (round:∀(x:α) (Ψ : Exit→St→Prop),(∀σ' y,μ y < μ x→σ'.to (I y)→Ψ .normal σ')→(∀ex σ',ex≠.normal→Φ ex σ'→Ψ ex σ')→AWE p P c (I x) Ψ):AWE p P (.loop c) σ Φ:=
 AWE.loop I μ x0 h0 fun x=>round x _ (fun σ' y h1 h2=>⟨y,h1,h2⟩) fun ex σ' hne h'=>by
  cases ex with
  |normal=>exact absurd rfl hne
  |_=>exact h'
theorem AWE.regionI{id:Nat}{l:List Oper}(k:Nat){o:Oper}(hk:l[k]? = some o)(n0:l.all (fun x=>opNd x)=true)(hg:o.guard=none)
 (h:∀R:St→Prop,(∀σ1,(OpE p P o σ1 fun σ2=>∀R2:St→Prop,(∀σ',Φ .normal σ'→R2 σ')→evL P l.toArray (l.drop (k+1)) σ2 R2)→R σ1)→evL P l.toArray (l.take k) σ R):AWE p P (.region id l.toArray false) σ Φ:=
 AWE.region_at k hk n0 fun R hR=>h R fun σ1 h1=>hR σ1 ⟨.inl hg,h1⟩
end
def X4z(o:Oper):Bool:=match o.op with | .mapUpdate _ _ _ _=>true | .makeMap _ _=>true|_=>false
section
variable {p:Env→Prop} {P:Program} {σ : St} {Φ : Exit→St→Prop}
theorem AWE.regionM{id:Nat}{l:List Oper}{k:Nat}{o:Oper}(hf:l.findIdx? X4z=some k)(hk:l[k]? = some o)(n0:l.all (fun x=>opNd x)=true)(hg:o.guard=none)
 (h:∀R:St→Prop,(∀σ1,(OpE p P o σ1 fun σ2=>∀R2:St→Prop,(∀σ',Φ .normal σ'→R2 σ')→evL P l.toArray (l.drop (k+1)) σ2 R2)→R σ1)→evL P l.toArray (l.take k) σ R):AWE p P (.region id l.toArray false) σ Φ:=
 AWE.regionI k hk n0 hg h
theorem AWE.ofR{id:Nat}{ops:Array Oper}(h:evC P (.region id ops false) σ Φ):AWE p P (.region id ops false) σ Φ:=AWE.of h
theorem AWE.ofRD{id:Nat}{ops:Array Oper}(h:evC P (.region id ops true) σ Φ):AWE p P (.region id ops true) σ Φ:=AWE.of h
theorem AWE.ofSkip(h:Φ .normal σ):AWE p P .skip σ Φ:=AWE.of (Q0h h)
theorem AWE.ofRet(h:Φ .ret σ):AWE p P .ret σ Φ:=AWE.of (Q0l h)
theorem AWE.ofExit{id:Nat}(h:Φ (.exit id) σ):AWE p P (.exit id) σ Φ:=AWE.of (Q0v h)
end
theorem AWE.drawJ{p:Env→Prop}{P:Program}{id:Nat}{l:List Oper}{σ0:St}{Φ : Exit→St→Prop}(hm:P.follows .mixedOrders=true)(hback:Q3m l=true)(hgl:Q4u l=true)(J:(Nat→Bool)→St)(h0:σ0.to (J fun _=>false))
 (hE:∀(L:Nat→Bool) (i:Nat) (o:Oper),l[i]? = some o→L i=false→Q3n l L→(∀e∈o.after,Region.binds .any e=true→L e.on=true)→X4z o=false→∀R:St→Prop,(∀σ',σ'.to (J fun j=>if j=i then true else L j)→R σ')→evL P #[] [o] (J L) R)
 (hW:∀(L:Nat→Bool) (i:Nat) (o:Oper),l[i]? = some o→L i=false→Q3n l L→(∀e∈o.after,Region.binds .any e=true→L e.on=true)→X4z o=true→OpW p P o (J L) fun σ'=>σ'.to (J fun j=>if j=i then true else L j))
 (hΦ : ∀L,(∀j,j<l.length→L j=true)→Φ .normal (J L)):AWE p P (.region id l.toArray true) σ0 Φ:=by
 intro E ι a w hp hc
 refine wp_region_any hm ?_
 obtain⟨ι0,hc0⟩:=h0 E ι a w hc
 have hd0:=hc0.drawn (w.drawn+1)
 generalize ({w with drawn:=w.drawn+1}:World)=w0 at hd0
 have step:∀(L:Nat→Bool) (i:Nat) (o:Oper),l[i]? = some o→L i=false→Q3n l L→(∀e∈o.after,Region.binds .any e=true→L e.on=true)→OpW p P o (J L) fun σ'=>σ'.to (J fun j=>if j=i then true else L j):=fun L i o h1 h2 h3 h4=>by
  cases hk:X4z o with
  |true=>exact hW L i o h1 h2 h3 h4 hk
  |false=>
   have hg:o.guard=none:=by
    have:=List.all_eq_true.1 hgl o (List.mem_of_getElem? h1)
    simpa using this
   have:=hE L i o h1 h2 h3 h4 hk _ fun _ h=>h
   unfold evL at this
   rw[hg] at this
   exact OpA.toW this
 have hready:∀(listed:Array Bool) (i:Nat),listed.size=l.length→i∈Region.ready .any l.toArray listed→∃o,l[i]? = some o∧listed.getD i false=false∧∀e∈o.after,Region.binds .any e=true→listed.getD e.on false=true:=fun listed i hsz hi=>Q6o hsz hi
 have key:∀(fuel:Nat) (listed:Array Bool) (a:Act) (w:World) (ι : Nat→Nat×Nat×Nat),listed.size=l.length→Q3n l (fun j=>listed.getD j false)→cntL (fun j=>listed.getD j false) l.length≤fuel →
  Conc E ι (J fun j=>listed.getD j false) a w→wpAny P .any l.toArray (fun ex a' w'=>∃ι' σ',Conc E ι' σ' a' w'∧Φ ex σ') fuel listed a w:=by
  intro fuel
  induction fuel with
  |zero=>
   intro listed a w ι hsz hcl hcnt hc
   have hall:=Q5x (L:=fun j=>listed.getD j false) l.length (by omega)
   refine⟨?_,ι,_,hc,hΦ _ hall⟩
   refine List.eq_nil_iff_forall_not_mem.2 fun i hi=>?_
   obtain⟨o,ho,hu,_⟩:=hready listed i hsz hi
   have:listed.getD i false=true:=hall i (List.getElem?_eq_some_iff.1 ho).1
   rw[hu] at this;cases this
  |succ fuel ih=>
   intro listed a w ι hsz hcl hcnt hc
   refine⟨fun hnil=>⟨ι,_,hc,hΦ _ fun j hj=>?_⟩,fun i hi=>?_⟩
   · refine Classical.byContradiction fun hn=>?_
     have key2:∀m,(∃j,j<m∧j<l.length∧listed.getD j false=false)→∃j,j<l.length∧listed.getD j false=false∧∀k,k<j→listed.getD k false=true:=by
      intro m
      induction m with
      |zero=>rintro ⟨j,hj,_⟩;omega
      |succ m ihm=>
       rintro ⟨j,hj,hjl,hju⟩
       by_cases hlow:∃k,k<m∧k<l.length∧listed.getD k false=false
       · exact ihm hlow
       · refine⟨j,hjl,hju,fun k hk=>Classical.byContradiction fun hku=>hlow ⟨k,by omega,by omega,by simpa using hku⟩⟩
     obtain⟨j,hjl,hju,hlow⟩:=key2 l.length ⟨j,hj,hj,by simpa using hn⟩
     have ho:l[j]? = some l[j]:=List.getElem?_eq_getElem hjl
     have hb:=List.all_eq_true.1 hback j (by simpa using hjl)
     simp only[ho,Array.all_eq_true_iff_forall_mem,Bool.or_eq_true,Bool.not_eq_true',decide_eq_true_eq] at hb
     have hmem:j∈Region.ready .any l.toArray listed:=by
      unfold Region.ready
      rw[List.mem_filter]
      refine⟨by simpa using hjl,?_⟩
      simp only[Bool.and_eq_true,Bool.not_eq_true',List.getElem?_toArray,ho,Option.map_some,Option.getD_some,Array.all_eq_true_iff_forall_mem]
      refine⟨?_,fun e he=>?_⟩
      · simp only[Array.getD,hsz,hjl,dif_pos] at hju ⊢
        exact hju
      · rcases hb e he with h|h
        · simp[h]
        · simp[hlow e.on h]
     rw[hnil] at hmem;cases hmem
   · obtain⟨o,ho,hu,hpre⟩:=hready listed i hsz hi
     have hil:=(List.getElem?_eq_some_iff.1 ho).1
     have hset:∀j,j≠i→(listed.setIfInBounds i true).getD j false=listed.getD j false:=fun j hj=>by
      simp[Array.getD_eq_getD_getElem?,Array.getElem?_setIfInBounds_ne (Ne.symm hj)]
     have hset':(listed.setIfInBounds i true).getD i false=true:=by
      simp[Array.getD,hsz,hil]
     have hcl':Q3n l (fun j=>(listed.setIfInBounds i true).getD j false):=fun j x hx hLj ed hed hb=>by
      by_cases hj:j=i
      · subst hj
        rw[ho] at hx;cases hx
        have:=hpre ed hed hb
        show(listed.setIfInBounds j true).getD ed.on false=true
        by_cases h:ed.on=j
        · rw[h];exact hset'
        · rw[hset _ h];exact this
      · have hLj':listed.getD j false=true:=by rw[←hset j hj];exact hLj
        have:=hcl j x hx hLj' ed hed hb
        show(listed.setIfInBounds i true).getD ed.on false=true
        by_cases h:ed.on=i
        · rw[h];exact hset'
        · rw[hset _ h];exact this
     have hcnt':cntL (fun j=>(listed.setIfInBounds i true).getD j false) l.length≤fuel:=by
      have:=(Q7a (L:=fun j=>listed.getD j false) (L':=fun j=>(listed.setIfInBounds i true).getD j false) hu hset' hset l.length).1 hil
      omega
     have hfun:(fun j=>(listed.setIfInBounds i true).getD j false)=fun j=>if j=i then true else listed.getD j false:=by
      funext j
      by_cases hj:j=i
      · rw[if_pos hj,hj];exact hset'
      · rw[if_neg hj];exact hset j hj
     have hg:o.guard=none:=by
      have:=List.all_eq_true.1 hgl o (List.mem_of_getElem? ho)
      simpa using this
     unfold wpOp
     simp only[List.getElem?_toArray,ho]
     have hw:Region.wanted o (yielded l.toArray a.tmps)=true:=by simp[Region.wanted,hg]
     rw[if_pos hw]
     refine .inl (step _ i o ho hu hcl hpre E ι a w hp hc _ _ fun ι' σ' a' w' hk hc'=>?_)
     obtain⟨ι2,hc2⟩:=hk E ι' a' w' hc'
     exact ih _ a' w' ι2 (by simpa using hsz) hcl' hcnt' (by rw[hfun];exact hc2)
 have hempty:(fun j=>(Array.replicate l.length false).getD j false)=fun _=>false:=by
  funext j
  simp[Array.getD_eq_getD_getElem?,Array.getElem?_replicate]
  split<;>rfl
 have hkey:=key l.length (Array.replicate l.length false) a w0 ι0 (by simp) (by rw[hempty];intro j x hx hL;cases hL) (by
  rw[hempty]
  have:∀k,cntL (fun _=>false) k≤k:=by
   intro k
   induction k with
   |zero=>exact Nat.le_refl _
   |succ k ih=>unfold cntL;split<;>omega
  exact this _) (by rw[hempty];exact hd0)
 simpa using hkey
def ifv(c:Bool)(x:AV):AV:=if c=true then x else .any
theorem Q2h(x:AV):ifv true x=x:=rfl
theorem Fn.known{P:Program}{f:FuncId}{args:List AV}{H0 H1:List (Nat×List AV)}{res:AV}(h:∀E0,FnW (fun E=>E=E0) P f args H0 res H1):Fn P f args H0 res H1:=fun E vs=>h E E vs rfl
end
section
open Go.RowKit Go.Lib
def FnWX(p:Env→Prop)(P:Program)(f:FuncId)(args:List AV)(H0:List (Nat×List AV)){X:Type}(res:X→AV)(H1:X→List (Nat×List AV)):Prop:=
 ∀(E:Env) (vs:List Value),p E→E.D=H0.map (·.1)→(∀r cs b,hget H0 r=some cs→(E.ι r).2.1≠0→E.S b→(E.ι r).1≠b)→ConcH E.S E.ι H0 E.w→vs.length=args.length→(∀(j:Nat) (v:Value) (x:AV),vs[j]? = some v→args[j]? = some x→RV E.S E.ι E.w v x) →
  Calls P f vs.toArray E.w fun e w'=>∃x v ι',e = .returned v∧RV (Sx E ι' (H1 x)) ι' w' v (res x)∧ConcH (Sx E ι' (H1 x)) ι' (H1 x) w'∧Keep E ι' (H1 x) w'
def FnX(P:Program)(f:FuncId)(args:List AV)(H0:List (Nat×List AV)){X:Type}(res:X→AV)(H1:X→List (Nat×List AV)):Prop:=FnWX (fun _=>True) P f args H0 res H1
theorem X3z{p:Env→Prop}{P:Program}{f:FuncId}{fn:Func}{c:Code}{args:List AV}{H0:List (Nat×List AV)}{X:Type}{res:X→AV}{H1:X→List (Nat×List AV)}(hf:P.funcs[f]? = some fn)(hb:fn.body=some c)(hD:H0.all (fun x=>decide (1000≤x.1))=true)
 (h:AWE p P c ⟨args++List.replicate (fn.ntmps-args.length) AV.any,H0⟩ (fun ex σ=>∃x,FnEnd P fn.results.toList (res x) (H1 x) ex σ)):FnWX p P f args H0 res H1:=by
 intro E vs hpE hED hS hH hlen hargs
 refine(callsIn_wide (n:=0)).1 (callsIn_of_wp_marks hf hb trivial (wpIn_wide.2 ?_))
 have hc0:Conc E E.ι ⟨args++List.replicate (fn.ntmps-args.length) AV.any,H0⟩ {tmps:=vs.toArray++Array.replicate (fn.ntmps-vs.toArray.size) undef,defers:=[]} E.w:=by
  have hSx:∀b,E.S b→b<E.w.heap.size→Sx E E.ι H0 b∧E.w.heap[b]? = E.w.heap[b]?:=fun b hb _=>⟨⟨.inl hb,fun r cs hr hz=>hS r cs b hr hz hb⟩,rfl⟩
  have hR:∀{v:Value} {x:AV},RV E.S E.ι E.w v x→RV (Sx E E.ι H0) E.ι E.w v x:=fun hv=>hv.mono hSx fun _ _=>rfl
  refine⟨.nil,by simp[hlen],fun i=>?_,⟨fun r cs hr=>?_,hH.inj⟩,⟨rfl,rfl,rfl,Nat.le_refl _,fun _ _ _=>rfl,fun r cs hr=>⟨fun _=>rfl,fun hn=>?_⟩⟩⟩
  · show RV (Sx E E.ι H0) E.ι E.w ((vs.toArray++Array.replicate (fn.ntmps-vs.toArray.size) undef).getD i undef) ((args++List.replicate (fn.ntmps-args.length) AV.any).getD i .any)
    by_cases hi:i<args.length
    · have e1:(vs.toArray++Array.replicate (fn.ntmps-vs.toArray.size) undef).getD i undef=vs[i]'(by omega):=by
       rw[Array.getD_eq_getD_getElem?,Array.getElem?_append_left (by simp;omega)]
       simp[show i<vs.length by omega]
      have e2:(args++List.replicate (fn.ntmps-args.length) AV.any).getD i .any=args[i]:=by
       rw[List.getD_eq_getElem?_getD,List.getElem?_append_left hi];simp[hi]
      rw[e1,e2]
      exact hR (hargs i _ _ (List.getElem?_eq_getElem (by omega)) (List.getElem?_eq_getElem hi))
    · have e2:(args++List.replicate (fn.ntmps-args.length) AV.any).getD i .any = .any:=by
       rw[List.getD_eq_getElem?_getD,List.getElem?_append_right (by omega),List.getElem?_replicate]
       split<;>rfl
      rw[e2];exact .any _
  · rcases hH.blk r cs hr with h0|⟨cur,hh,hs,hl,hc,hone1⟩
    · exact .inl h0
    · exact .inr ⟨cur,hh,hs,hl,fun j u x hu hx=>⟨hR (hc j u x hu hx).1,(hc j u x hu hx).2⟩,hone1⟩
  · exfalso
    apply hn
    rw[hED]
    have:∀(H:List (Nat×List AV)) (r:Nat) (cs:List AV),hget H r=some cs→r∈H.map (·.1):=by
     intro H
     induction H with
     |nil=>intro r cs h;cases h
     |cons x H ih=>
      obtain⟨k,ds⟩:=x
      intro r cs h
      unfold hget at h
      split at h
      · rename_i e;simp[e]
      · simp[ih r cs h]
    exact this H0 r cs hr
 refine wp_mono (h E E.ι _ E.w hpE hc0) fun ex a' w'=>?_
 rintro ⟨ι',σ',hc',x0,hex,⟨r,hres,hler⟩,hH1⟩
 have key:LeavesInM Fence.wide 0 P fn a'.tmps (fun e w'=>∃x v ι',e=Ending.returned v∧RV (Sx E ι' (H1 x)) ι' w' v (res x)∧ConcH (Sx E ι' (H1 x)) ι' (H1 x) w'∧Keep E ι' (H1 x) w') a'.defers .returning w':=by
  obtain⟨Ds,hnd,hds,hDs⟩:=hc'.defers
  rw[hds]
  refine Q5r (E:=E) (ι:=ι') (σ:=σ') (fun w' hc'=>?_) Ds w' hnd (fun D hD=>⟨(hDs D hD).1,(hDs D hD).2.2⟩) hc'.bare
  rw[Option.map_eq_some_iff] at hres
  obtain⟨ys,hys,rfl⟩:=hres
  obtain⟨us,hrun,hul,hrv⟩:=Q7x hc' fn.results.toList ys hys
  have hle:=hc'.leH hH1
  have hSx:∀b,Sx E ι' σ'.H b→b<w'.heap.size→Sx E ι' (H1 x0) b∧w'.heap[b]? = w'.heap[b]?:=fun b ⟨h1,h2⟩ _=>⟨⟨h1,fun r cs hr=>h2 r cs (hH1 r cs hr)⟩,rfl⟩
  have hR:∀{v:Value} {x:AV},RV (Sx E ι' σ'.H) ι' w' v x→RV (Sx E ι' (H1 x0)) ι' w' v x:=fun hv=>hv.mono hSx fun _ _=>rfl
  have hres':(results fn a'.tmps).run P w' = .ok (if h:us.toArray.size=1 then us.toArray[0] else .tuple us.toArray) w':=by
   have e0:results fn a'.tmps=(fn.results.mapM (X1s {tmps:=a'.tmps,defers:=[]}) >>= fun vs=>pure (if h:vs.size=1 then vs[0] else .tuple vs)):=by
    unfold results
    congr 2
   have e:fn.results=fn.results.toList.toArray:=by simp
   rw[e0,Sem.run_bind,e,List.mapM_toArray,Sem.run_map,hrun]
   simp only[Result.andThen_ok,Sem.run_pure]
  refine⟨_,hres',x0,_,ι',rfl,hler _ _ _ _ ?_,hle.heap,hle.keep⟩
  rcases ys with _|⟨y1,_|⟨y2,ys⟩⟩
  · obtain rfl:=List.eq_nil_of_length_eq_zero hul
    exact .tup [] [] rfl fun j u x hu=>by cases hu
  · rcases us with _|⟨u1,_|⟨u2,us⟩⟩
    · simp at hul
    · simpa [Q0z] using hR (hrv 0 u1 y1 rfl rfl)
    · simp at hul
  · rcases us with _|⟨u1,_|⟨u2,us⟩⟩
    · simp at hul
    · simp at hul
    · have:¬(u1::u2::us).toArray.size=1:=by simp
      rw[dif_neg this]
      exact .tup _ _ hul fun j u x hu hx=>hR (hrv j u x hu hx)
 rcases hex with rfl|rfl
 · exact key
 · exact key
theorem X2d{P:Program}{o:Oper}{σ : St}{K:St→Prop}{f:FuncId}{fn:Func}{cargs:List AV}{H0:List (Nat×List AV)}{X:Type}(x0:X){res:X→AV}{H1:X→List (Nat×List AV)}(hF:FnX P f cargs H0 res H1)(ρ : Nat→Nat)
 {fo:Operand} {cas:Array Operand} {ts:Array TypeId} {caps:List AV} (ho:o.op = .call {callee:=.value fo,args:=cas,argTypes:=ts}) (hfo:Q0j fo=true) (has:cas.toList.all Q0j=true) (hf:σ.ev fo = .fn f caps)
 (hfn:P.funcs[f]? = some fn) (hname:(fn.name == "runtime.NumGoroutine")=false) (hbody:fn.body.isNone=false)
 (hD0:H0.all (fun x=>decide (1000≤x.1))=true) (hargs:Q1f ρ cargs (cas.toList.map σ.ev++caps)) (hH0:∀r∈H0.map (·.1),hget σ.H (ρ r)=(hget H0 r).map (AV.renL ρ)) (hinj:∀x,∀r∈H0.map (·.1)++(H1 x).map (·.1),∀q∈H0.map (·.1)++(H1 x).map (·.1),ρ r = ρ q→r=q)
 (hnew:∀x,Q1t σ ρ H0 (H1 x)) (hin:∀x,AV.inN ((H1 x).map (·.1)) (res x)=true) (hinH:∀x,inH ((H1 x).map (·.1)) (H1 x)=true)
 (hK:∀x,K ((St.mk σ.T (Q0x (Q2c σ.H (renH ρ H0)) (renH ρ (H1 x)))).put o.dst (AV.ren ρ (res x)))):OpA P o σ K:=by
 intro E ι a w hc K' Q hK'
 have hfv:=hc.ev fo hfo
 rw[hf] at hfv
 generalize hfe:a.eval fo=fv at hfv
 cases hfv with
 |fn _ us _ hul hus=>
  have hSx:∀b,Sx E ι σ.H b→b<w.heap.size→Sx E ι σ.H b∧w.heap[b]? = w.heap[b]?:=fun b hb _=>⟨hb,rfl⟩
  have hD0':∀r∈H0.map (·.1),1000≤r:=fun r hr=>by
   obtain⟨x,hx,rfl⟩:=List.mem_map.1 hr
   have:=List.all_eq_true.1 hD0 x hx
   simpa using this
  have hvs:∀(j:Nat) (v:Value) (y:AV),(cas.toList.map a.eval++us)[j]? = some v→(cas.toList.map σ.ev++caps)[j]? = some y→RV (Sx E ι σ.H) ι w v y:=fun j v y hv hy=>by
   rw[List.getElem?_append] at hv hy
   simp only[List.length_map] at hv hy
   split at hv
   · rename_i hj
     rw[if_pos hj] at hy
     rw[List.getElem?_map,Option.map_eq_some_iff] at hv hy
     obtain⟨x1,hx1,rfl⟩:=hv
     obtain⟨x2,hx2,rfl⟩:=hy
     rw[hx1] at hx2;cases hx2
     exact hc.ev x1 (List.all_eq_true.1 has x1 (List.mem_of_getElem? hx1))
   · rename_i hj
     rw[if_neg hj] at hy
     exact hus _ v y hv hy
  obtain⟨hal,hag⟩:=Q3x hargs
  have hlen:(cas.toList.map a.eval++us).length=cargs.length:=by rw[hal];simp[hul]
  have hH0':∀r cs,hget H0 r=some cs→hget σ.H (ρ r)=some (AV.renL ρ cs):=fun r cs hr=>by rw[hH0 r (Q2x hr),hr];rfl
  obtain⟨E',hE'⟩:∃E':Env,E'={w:=w,S:=Sx E ι σ.H,ι:=fun r=>ι (ρ r),D:=H0.map (·.1),hD:=hD0',hG:=hc.glob hH0'}:=⟨_,rfl⟩
  have hconcH:ConcH E'.S E'.ι H0 E'.w:=by
   subst hE'
   exact hc.enter ρ hH0' fun r hr q hq=>hinj x0 r (List.mem_append_left _ hr) q (List.mem_append_left _ hq)
  have hcall:=hF E' (cas.toList.map a.eval++us) trivial (by rw[hE']) (fun r cs b hr hz hS=>by
   subst hE'
   exact hS.2 (ρ r) _ (hH0' r cs hr) hz) hconcH hlen (fun j v x hv hx=>by
   subst hE'
   have hlt:=(List.getElem?_eq_some_iff.1 hv).1
   have hy:(cas.toList.map σ.ev++caps)[j]? = some ((cas.toList.map σ.ev++caps)[j]'(by rw[←hal,←hlen];exact hlt)):=List.getElem?_eq_getElem _
   rcases hag j x _ hx hy with rfl|e
   · exact .any _
   · exact(hvs j v _ hv hy).unren x e)
  have hwE:E'.w=w:=by rw[hE']
  rw[hwE] at hcall
  have hrun:(execOp a.eval o).run P w = .ok (.enter f (cas.toList.map a.eval++us).toArray) w:=by
   have h1:cas.map a.eval=(cas.toList.map a.eval).toArray:=by rw[←Array.toList_map]
   have hen:=Q5k hfn hname hbody ((cas.toList.map a.eval).toArray++us.toArray) w
   simp only[List.append_toArray] at hen
   simp only[execOp,ho,resolve,hfe,Deferred.ofValue,h1,Sem.run_bind,Sem.run_pure,Result.andThen_ok,invoke,Array.empty_append,List.append_toArray,List.nil_append,hen]
  unfold Oper.wp
  rw[hrun,Oper.upon_enter]
  refine hcall.mono fun e w'=>?_
  rintro ⟨x,v,ι',rfl,hres,hcH,hk⟩
  simp only
  obtain⟨ι2,hcn,hrv⟩:=hc.back ρ hD0' hH0' (hinj x) (hnew x) (hin x) (hinH x) hE' hres hcH hk
  exact hK' ι2 _ _ _ (hK x) (hcn.put o.dst hrv)
theorem AW.rangeX{P:Program}{σ : St}{Φ : Exit→St→Prop}{g:Operand}{t:Tmp}{assign body:Code}{gf:FuncId}{fn:Func}{caps:List AV}{cargs:List AV}{H0:List (Nat×List AV)}{X:Type}(x0:X){H1:X→List (Nat×List AV)}{res:X→AV}{T0:List AV}(ρ : Nat→Nat)
 (hF:∀l,FnWX (LoopAt t assign body T0 (H0.map (·.1)) l) P gf (yv l::cargs) H0 res H1) (hg0:Q0j g=true) (hg:σ.ev g = .fn gf caps) (hfn:P.funcs[gf]? = some fn) (hname:(fn.name == "runtime.NumGoroutine")=false) (hbody:fn.body.isNone=false)
 (hD0:H0.all (fun x=>decide (1000≤x.1))=true) (hargs:Q1f ρ cargs caps) (hT0:Q1f ρ T0 σ.T) (hH0:∀r∈H0.map (·.1),hget σ.H (ρ r)=(hget H0 r).map (AV.renL ρ)) (hinj:∀x,∀r∈H0.map (·.1)++(H1 x).map (·.1),∀q∈H0.map (·.1)++(H1 x).map (·.1),ρ r = ρ q→r=q)
 (hnew:∀x,Q1t σ ρ H0 (H1 x)) (hin:∀x,AV.inN ((H1 x).map (·.1)) (res x)=true) (hinH:∀x,inH ((H1 x).map (·.1)) (H1 x)=true)
 (hK:∀x,Φ .normal ⟨σ.T,Q0x (Q2c σ.H (renH ρ H0)) (renH ρ (H1 x))⟩):AW P (.rangeFunc g #[t] assign body) σ Φ:=by
 intro E ι a w hc
 have hfv:=hc.ev g hg0
 rw[hg] at hfv
 generalize hge:a.eval g=fv at hfv
 cases hfv with
 |fn _ us _ hul hus=>
  refine(wpIn_wide (n:=0)).1 (wpIn_rangeFunc fun f _=>?_)
  obtain⟨w1,hw1⟩:∃w1,(w.alloc (.deferred (some []))).alloc (.loop (Q4j #[t] assign body f a.tmps w.heap.size))=w1:=⟨_,rfl⟩
  have hc1:Conc E ι σ a w1:=hw1▸(hc.alloc _).alloc _
  have hL:w1.heap[w.heap.size+1]? = some (.loop (Q4j #[t] assign body f a.tmps w.heap.size)):=by
   rw[←hw1]
   have:=World.alloc_heap_new (w.alloc (.deferred (some []))) (.loop (Q4j #[t] assign body f a.tmps w.heap.size))
   rwa [World.size_alloc] at this
  have hB:w1.heap[w.heap.size]? = some (.deferred (some [])):=by
   rw[←hw1,Below.heap_alloc _ _ _ (by rw[World.size_alloc];omega)]
   exact World.alloc_heap_new _ _
  have hD0':∀r∈H0.map (·.1),1000≤r:=fun r hr=>by
   obtain⟨y,hy,rfl⟩:=List.mem_map.1 hr
   have:=List.all_eq_true.1 hD0 y hy
   simpa using this
  have hH0':∀r cs,hget H0 r=some cs→hget σ.H (ρ r)=some (AV.renL ρ cs):=fun r cs hr=>by rw[hH0 r (Q2x hr),hr];rfl
  obtain⟨E',hE'⟩:∃E':Env,E'={w:=w1,S:=Sx E ι σ.H,ι:=fun r=>ι (ρ r),D:=H0.map (·.1),hD:=hD0',hG:=hc1.glob hH0'}:=⟨_,rfl⟩
  have hwE:E'.w=w1:=by rw[hE']
  have hED:E'.D=H0.map (·.1):=by rw[hE']
  have hconcH:ConcH E'.S E'.ι H0 E'.w:=by
   subst hE'
   exact hc1.enter ρ hH0' fun r hr q hq=>hinj x0 r (List.mem_append_left _ hr) q (List.mem_append_left _ hq)
  have hdis:∀r cs b,hget H0 r=some cs→(E'.ι r).2.1≠0→E'.S b→(E'.ι r).1≠b:=fun r cs b hr hz hS=>by
   subst hE'
   exact hS.2 (ρ r) _ (hH0' r cs hr) hz
  have hneL:∀r∈E'.D,(E'.ι r).2.1≠0→(E'.ι r).1≠w.heap.size+1:=by
   rw[hED];exact X3c hconcH (by rw[hwE];exact hL) rfl
  have hneB:∀r∈E'.D,(E'.ι r).2.1≠0→(E'.ι r).1≠w.heap.size:=by
   rw[hED];exact X3c hconcH (by rw[hwE];exact hB) rfl
  obtain⟨hTl,hTg⟩:=Q3x hT0
  obtain⟨hal,hag⟩:=Q3x hargs
  have hat:LoopAt t assign body T0 (H0.map (·.1)) (w.heap.size+1) E':=by
   refine⟨⟨f,a.tmps,w.heap.size,by rw[hwE];exact hL,hc1.size.trans hTl.symm,fun i=>?_⟩,hneL,fun r hr hz b hb=>?_,hED⟩
   · subst hE'
     have hv:=hc1.tmp i
     rw[List.getD_eq_getElem?_getD] at hv ⊢
     cases hi:T0[i]? with
     |none=>exact .any _
     |some x=>
      have hlt:=(List.getElem?_eq_some_iff.1 hi).1
      rw[List.getElem?_eq_getElem (by omega)] at hv
      rcases hTg i x _ hi (List.getElem?_eq_getElem (by omega)) with rfl|e
      · exact .any _
      · exact hv.unren x e
   · obtain⟨cs,hcs⟩:=Q1h (hED▸hr)
     exact hdis r cs b hcs hz hb
  have hcall:=hF (w.heap.size+1) E' (.func (.yield (w.heap.size+1)) #[] #[]::us) hat hED hdis hconcH (by simp[hul,hal]) (fun j v x hv hx=>by
   cases j with
   |zero=>cases hv;cases hx;exact .c _ _ (.v _ rfl)
   |succ j=>
    simp only[List.getElem?_cons_succ] at hv hx
    have hlt:=(List.getElem?_eq_some_iff.1 hx).1
    subst hE'
    rcases hag j x _ hx (List.getElem?_eq_getElem (by omega)) with rfl|e
    · exact .any _
    · have:=hus j v _ hv (List.getElem?_eq_getElem (by omega))
      exact(this.mono (S':=Sx E ι σ.H) (w':=w1) (fun b hb hlt=>⟨hb,by rw[←hw1,Below.heap_alloc _ _ _ (by rw[World.size_alloc];omega),Below.heap_alloc _ _ _ hlt]⟩) fun _ _=>rfl).unren x e)
  rw[hwE] at hcall
  refine⟨w.heap.size+1,[{target:=.collected w.heap.size,args:=#[]}],w1,{target:=.fn (.func gf) us.toArray,args:=#[.func (.yield (w.heap.size+1)) #[] #[]]},w1,gf,(.func (.yield (w.heap.size+1)) #[] #[]::us:List Value).toArray,w1,?_,?_,fun _ _=>trivial,?_,fun e=>(by cases e),(callsIn_wide (n:=0-1)).2 (hcall.mono fun e w'=>?_)⟩
  · rw[←hw1];exact run_enterLoop_outer f a.tmps #[t] assign body
  · simp only[resolve,hge,Deferred.ofValue,List.map_toArray,List.map_cons,List.map_nil,Sem.run_bind,Sem.run_pure,Result.andThen_ok,Array.empty_append]
    rfl
  · have hen:=Q5k hfn hname hbody (.func (.yield (w.heap.size+1)) #[] #[]::us:List Value).toArray w1
    simpa only[invoke,List.append_toArray,List.cons_append,List.nil_append] using hen
  · rintro ⟨y0,v,ι',rfl,hres,hcH,hk⟩
    obtain⟨ι2,hcn,-⟩:=hc1.back ρ hD0' hH0' (hinj y0) (hnew y0) (hin y0) (hinH y0) hE' hres hcH hk
    have hlt1:w.heap.size+1<w1.heap.size:=(Array.getElem?_eq_some_iff.1 hL).1
    have hL':w'.heap[w.heap.size+1]? = some (.loop (Q4j #[t] assign body f a.tmps w.heap.size)):=by
     rw[hk.block _ (by rw[hwE];exact hlt1) hneL,hwE];exact hL
    have hB':w'.heap[w.heap.size]? = some (.deferred (some [])):=by
     rw[hk.block _ (by rw[hwE];omega) hneB,hwE];exact hB
    refine⟨none,_,run_endLoop hL' (by simp),?_⟩
    have hE0:=hc.keep.size
    have hMk:Marks E (Sx E ι2 (Q0x (Q2c σ.H (renH ρ H0)) (renH ρ (H1 y0)))) (w'.putObj (w.heap.size+1) (.loop {Q4j #[t] assign body f a.tmps w.heap.size with state:=.exhausted})) ({target:=.collected w.heap.size,args:=#[]}::a.defers):=by
     obtain⟨Ds,g1,g2,g3⟩:=hcn.defers
     obtain⟨Ds0,k1,k2,k3⟩:=hc.defers
     have hinjm:Ds=Ds0:=by
      have:=g2.symm.trans k2
      exact(List.map_inj_right (fun x y e=>by simpa using e)).1 this
     subst hinjm
     refine⟨w.heap.size::Ds,List.nodup_cons.2 ⟨fun hm=>?_,g1⟩,by rw[List.map_cons,←g2],fun D hD=>?_⟩
     · have:=(Array.getElem?_eq_some_iff.1 (k3 _ hm).2.2).1;omega
     · rcases List.mem_cons.1 hD with rfl|hD
       · refine⟨hE0,⟨.inr (.inl hE0),fun r cs hr hz e=>?_⟩,(World.putObj_heap_other (by omega)).trans hB'⟩
         rcases hcn.heap.blk r cs hr with⟨h0,_⟩|⟨cur,hh,_⟩
         · exact hz h0
         · rw[e,hB'] at hh;cases hh
       · obtain⟨m1,m2,m3⟩:=g3 D hD
         have:=(Array.getElem?_eq_some_iff.1 (k3 D hD).2.2).1
         exact⟨m1,m2,(World.putObj_heap_other (by omega)).trans m3⟩
    exact⟨ι2,_,hcn.turn _ hL' rfl (by omega) hMk,hK y0⟩
theorem X5x{P:Program}{o:Oper}{σ : St}{t:Tmp}{assign body:Code}{T0:List AV}{DD:List Nat}{l:Nat}{x:AV}{H0 H1:List (Nat×List AV)}(hY:YC P t assign body T0 l x H0 H1)(ρ : Nat→Nat)
 {fo ao:Operand} {ts:Array TypeId} (ho:o.op = .call {callee:=.value fo,args:=#[ao],argTypes:=ts}) (hfo:Q0j fo=true) (hao:Q0j ao=true) (hf:σ.ev fo = .c (.v (.func (.yield l) #[] #[]))) (hx:Q1y ρ x (σ.ev ao))
 (hD0:H0.all (fun x=>decide (1000≤x.1))=true) (hH0:∀r∈H0.map (·.1),hget σ.H (ρ r)=(hget H0 r).map (AV.renL ρ)) (hinj:∀r∈H0.map (·.1)++H1.map (·.1),∀q∈H0.map (·.1)++H1.map (·.1),ρ r = ρ q→r=q)
 (hnew:Q1t σ ρ H0 H1) (hinH:inH (H1.map (·.1)) H1=true) (NT:List Nat) (hT0:AV.inNL NT T0=true) (hNT:∀r∈NT,r∈DD∧ρ r=r∧(hget σ.H r).isSome=true)
 {E:Env} {ι : Nat→Nat×Nat×Nat} {a:Act} {w:World} (hp:LoopAt t assign body T0 DD l E) (hc:Conc E ι σ a w) {K':Act→World→Prop} {Q:Exit→Act→World→Prop}
 (hK':∀ι' a' w',Conc E ι' ((St.mk σ.T (Q0x (Q2c σ.H (renH ρ H0)) (renH ρ H1))).put o.dst (.c (.v (.bool true)))) a' w'→(∀(q:Nat) (u:Obj),w.heap[q]? = some u→(∀cs e z,u≠.cells cs e z)→w'.heap[q]? = some u)→K' a' w'):o.wpIn Fence.wide 0 P a w K' Q:=by
 obtain⟨⟨f,tt,D,hl,hsz,htt⟩,hfree,hdis,hnames⟩:=hp
 have hlt:=(Array.getElem?_eq_some_iff.1 hl).1
 have hlw:w.heap[l]? = some (.loop (Q4j #[t] assign body f tt D)):=(hc.keep.block l hlt hfree).trans hl
 have hfv:=hc.ev fo hfo
 rw[hf] at hfv
 obtain⟨hfe,_⟩:=hfv.v_inv
 have hav:=hc.ev ao hao
 have hD0':∀r∈H0.map (·.1),1000≤r:=fun r hr=>by
  obtain⟨y,hy,rfl⟩:=List.mem_map.1 hr
  have:=List.all_eq_true.1 hD0 y hy
  simpa using this
 have hH0':∀r cs,hget H0 r=some cs→hget σ.H (ρ r)=some (AV.renL ρ cs):=fun r cs hr=>by rw[hH0 r (Q2x hr),hr];rfl
 obtain⟨E',hE'⟩:∃E':Env,E'={w:=w,S:=Sx E ι σ.H,ι:=fun r=>ι (ρ r),D:=H0.map (·.1),hD:=hD0',hG:=hc.glob hH0'}:=⟨_,rfl⟩
 have hconcH:ConcH E'.S E'.ι H0 E'.w:=by
  subst hE'
  exact hc.enter ρ hH0' fun r hr q hq=>hinj r (List.mem_append_left _ hr) q (List.mem_append_left _ hq)
 have hSE:∀b,E.S b→b<E.w.heap.size→Sx E ι σ.H b∧w.heap[b]? = E.w.heap[b]?:=fun b hb hlt=>by
  refine⟨⟨.inl hb,fun r cs hr hz=>?_⟩,hc.keep.block b hlt fun r hr hz=>hdis r hr hz b hb⟩
  obtain⟨m1,m2⟩:=hc.keep.mine r cs hr
  by_cases hm:r∈E.D
  · rw[m1 hm] at hz ⊢;exact hdis r hm hz b hb
  · rcases m2 hm hz with h1|⟨q,hq,hqz,h1⟩
    · omega
    · rw[←h1];exact hdis q hq hqz b hb
 have hround:=hY E' (a.eval ao) f tt D (by rw[hE']) (fun r cs b hr hz hS=>by
  subst hE'
  exact hS.2 (ρ r) _ (hH0' r cs hr) hz) hconcH (by
   subst hE'
   rcases hx with rfl|e
   · exact .any _
   · exact hav.unren x e) (by rw[hE'];exact hlw) hsz (fun i=>by
     subst hE'
     refine(htt i).mono hSE fun r hr=>?_
     have hin:AV.inN NT (T0.getD i .any)=true:=X3w hT0 i
     obtain⟨g1,g2,g3⟩:=hNT r (X0h _ hin hr)
     obtain⟨cs,hcs⟩:=Option.isSome_iff_exists.1 g3
     show ι (ρ r)=E.ι r
     rw[g2]
     exact(hc.keep.mine r cs hcs).1 (by rw[hnames];exact g1))
 have hwE:E'.w=w:=by rw[hE']
 rw[hwE] at hround
 have hrun:(execOp a.eval o).run P w = .ok (.round l f (tt.setIfInBounds t (a.eval ao)) assign body) w:=by
  have hy:=run_yield (P:=P) (args:=#[a.eval ao]) hlw rfl
  simp only[execOp,ho,resolve,hfe,Deferred.ofValue,List.map_toArray,List.map_cons,List.map_nil,Sem.run_bind,Sem.run_pure,Result.andThen_ok,invoke,callFunc,Array.empty_append,List.append_toArray,List.nil_append,List.append_nil]
  simpa using hy
 refine⟨fun _ _=>trivial,?_⟩
 rw[Oper.semAt_eq _ _ _ (fun c e=>by rw[ho] at e;cases e),hrun,Oper.uponIn_round]
 refine⟨fun e=>(by cases e),RoundIn.mono hround fun e w'=>?_⟩
 rintro ⟨v,ι',rfl,hres,hcH,hk⟩
 simp only
 obtain⟨ι2,hcn,hrv⟩:=hc.back ρ hD0' hH0' hinj hnew rfl hinH hE' hres hcH hk
 refine hK' ι2 _ _ (hcn.put o.dst hrv) fun q u hq hu=>?_
 refine(hk.block q (by rw[hwE];exact(Array.getElem?_eq_some_iff.1 hq).1) fun r hr hz e=>?_).trans (by rw[hwE];exact hq)
 rw[show E'.D=H0.map (·.1) by rw[hE']] at hr
 obtain⟨cs,hcs⟩:=Q1h hr
 rcases hconcH.blk r cs hcs with⟨h0,_⟩|⟨cur,hh,_⟩
 · exact hz h0
 · rw[e,hwE,hq] at hh
   cases hh
   exact hu _ _ _ rfl
theorem Conc.step{E:Env}{ι : Nat→Nat×Nat×Nat}{σ : St}{a:Act}{w w':World}(h:Conc E ι σ a w){r:Nat}{o:Obj}(hl:w.heap[r]? = some o)(hn:Q8q o=false)(hnd:∀d,o≠.deferred d)(hE:E.w.heap.size≤r)
 (e1:w'.os=w.os) (e2:w'.tape=w.tape) (e3:w'.output=w.output) (e4:w'.heap.size=w.heap.size) (e5:∀b,b≠r→w'.heap[b]? = w.heap[b]?):Conc E ι σ a w':=by
 have hne:∀b o1,w.heap[b]? = some o1→Q8q o1=true→w'.heap[b]? = w.heap[b]?:=fun b o1 hb h1=>e5 b fun e=>by
  subst e;rw[hb] at hl;cases hl;rw[hn] at h1;cases h1
 have hR:∀{v:Value} {x:AV},RV (Sx E ι σ.H) ι w v x→RV (Sx E ι σ.H) ι w' v x:=fun hv=>hv.cmono fun b o1 hS hb h1=>⟨hS,hne b o1 hb h1⟩
 refine⟨?_,h.size,fun i=>hR (h.tmp i),⟨fun r cs hr=>?_,h.heap.inj⟩,⟨e1.trans h.keep.os,e2.trans h.keep.tape,e3.trans h.keep.output,by rw[e4];exact h.keep.size,fun b hb hbD=>?_,h.keep.mine⟩⟩
 · obtain⟨Ds,h1,h2,h3⟩:=h.defers
   refine⟨Ds,h1,h2,fun D hD=>?_⟩
   obtain⟨g1,g2,g3⟩:=h3 D hD
   exact⟨g1,g2,(e5 D fun e=>by subst e;rw[g3] at hl;cases hl;exact hnd _ rfl).trans g3⟩
 · rcases h.heap.blk r cs hr with h0|⟨cur,hh,hs,hlen,hc,hone1⟩
   · exact .inl h0
   · exact .inr ⟨cur,(hne _ _ hh rfl).trans hh,hs,hlen,fun j u x hu hx=>⟨hR (hc j u x hu hx).1,(hc j u x hu hx).2⟩,hone1⟩
 · rw[e5 b (by omega)];exact h.keep.block b hb hbD
section
variable {P:Program} {E:Env} {ι : Nat→Nat×Nat×Nat} {σ : St} {a:Act} {w:World} {ops:Array Oper} {o:Oper} {rest:List Oper} {Q:Exit→Act→World→Prop} {x:AV}
def PureO(P:Program)(o:Oper)(σ : St)(x:AV):Prop:=∀E ι a w,Conc E ι σ a w→∃v,(execOp a.eval o).run P w = .ok (.value v) w∧RV (Sx E ι σ.H) ι w v x
theorem Q8j{y:Operand}(ho:o.op = .move y∨o.op = .assign y)(hy:Q0j y=true):PureO P o σ (σ.ev y):=fun E ι a w hc=>⟨a.eval y,by rcases ho with h|h<;>simp[execOp,h],hc.ev y hy⟩
theorem pure_not{t:TypeId}{y:Operand}{b:Bool}(ho:o.op = .unOp .not t y)(hy:Q0j y=true)(h1:σ.ev y = .c (.v (.bool b))):PureO P o σ (.c (.v (.bool (!b)))):=fun E ι a w h=>by
 have hxv:=h.ev y hy
 rw[h1] at hxv
 obtain⟨e1,_⟩:=hxv.v_inv
 exact⟨.bool (!b),by simp[execOp,ho,e1,Op.unary],Q2g _ rfl⟩
theorem Q5l{y:Operand}{k:Nat}{xs:List AV}(ho:o.op = .extract y k)(hy:Q0j y=true)(h1:σ.ev y = .tup xs)(hx:xs[k]? = some x):PureO P o σ x:=fun E ι a w h=>by
 have hxv:=h.ev y hy
 rw[h1] at hxv
 generalize he:a.eval y=v at hxv
 cases hxv with
 |tup us cs hl hr=>
  have hlt:k<us.length:=by have:=(List.getElem?_eq_some_iff.1 hx).1;omega
  have hu:us[k]? = some us[k]:=List.getElem?_eq_getElem hlt
  exact⟨us[k],by simp[execOp,ho,he,Instr.extract,hu],hr k _ _ hu hx⟩
theorem X1i{v:Value}{w':World}(hg:o.guard=none)(hnd:opNd o=true)(hr:(execOp a.eval o).run P w = .ok (.value v) w')(h:wpListIn Fence.wide 0 P ops Q rest (a.put o.dst v) w'):wpListIn Fence.wide 0 P ops Q (o::rest) a w:=
 wpListIn_plain hg fun K' hK'=>by
  refine Q4f (ro:=none) hnd ?_
  unfold Oper.wp
  rw[hr]
  exact hK' _ _ h
theorem Q6i(hp:PureO P o σ x)(hc:Conc E ι σ a w)(hg:o.guard=none)(hnd:opNd o=true)(h:∀a',Conc E ι (σ.put o.dst x) a' w→wpListIn Fence.wide 0 P ops Q rest a' w):wpListIn Fence.wide 0 P ops Q (o::rest) a w:=by
 obtain⟨v,hr,hv⟩:=hp E ι a w hc
 exact X1i hg hnd hr (h _ (hc.put o.dst hv))
theorem wp_loopI{c:Code}(I:Nat→Act→World→Prop)(hround:∀n a w,I n a w→c.wp P (fun ex a' w'=>match ex with | .normal=>∃m,m<n∧I m a' w'|ex=>Q ex a' w') a w):∀n a w,I n a w→(Code.loop c).wp P Q a w:=by
 intro n a w hI b k cs
 have key:∀n a w,I n a w→∃e a' w',Q e a' w'∧Arrives P (lone (b.at a (.code c :: .inLoop c::k)) cs w) b k cs e a' w':=by
  intro n
  induction n using Nat.strongRecOn with
  |_ n ih=>
   intro a w hI
   obtain⟨e,a₁,w₁,hq,harr⟩:=hround n a w hI b (.inLoop c::k) cs
   cases e with
   |normal=>
    obtain⟨m,hlt,hI2⟩:=hq
    obtain⟨e₂,a₂,w₂,hq₂,harr₂⟩:=ih m hlt a₁ w₁ hI2
    exact⟨e₂,a₂,w₂,hq₂,.of_steps (Steps.trans harr (.one step_inLoop)) harr₂⟩
   |exit id=>exact⟨_,a₁,w₁,hq,.pass (x:=.inLoop c) rfl (fun _ _=>.inl (by simp)) harr⟩
   |goto l=>exact⟨_,a₁,w₁,hq,.pass (x:=.inLoop c) rfl (fun _ _=>.inl (by simp)) harr⟩
   |ret=>exact⟨_,a₁,w₁,hq,.pass (x:=.inLoop c) rfl (fun _ _=>.inl (by simp)) harr⟩
   |panic ch=>exact⟨_,a₁,w₁,hq,.pass (x:=.inLoop c) rfl (fun _ _=>.inl (by simp)) harr⟩
   |outgrown=>exact⟨_,a₁,w₁,hq,.pass (x:=.inLoop c) rfl (fun _ _=>.inl (by simp)) harr⟩
 obtain⟨e,a',w',hq,harr⟩:=key n a w hI
 exact⟨e,a',w',hq,.of_steps (.one step_loop) harr⟩
end
end
section
open Go.RowKit Go.Lib
attribute [-go_sem] IntKind.bits
set_option maxRecDepth 20000
set_option maxHeartbeats 2000000
abbrev nilK:AV:=.c (.v (.slice none 0 0))
abbrev raK(out:List Int):List AV:=(out.flatMap apv).map .c
abbrev kyH0(out:List Int):List (Nat×List AV):=[(1005,[.row 1600 adT 1 out.length]),(1600,raK out)]
abbrev kyH1(out:List Int)(x:Int):List (Nat×List AV):=[(1005,[.row 11 adT 1 (out.length+1)]),(11,raK (out++[x]))]
abbrev stK(lp r b:Nat)(es:List (Value×Value))(q:Nat)(out:List Int):St:=⟨[yv lp,.ptr 1101 0,.any,.any,.any,.c (.v (.pointer (some ⟨r,0,none⟩))),.any,.any,.any,.any,.any,.any,.any,.any],[(1005,[.row q adT 1 out.length]),(q,raK out),(1101,[.c (.mp b es)])]⟩
theorem stK_rn(lp r b:Nat)(es:List (Value×Value))(out:List Int):(stK lp r b es 11 out).to (stK lp r b es 600 out):=by
 have h:=St.to.rn (σ:=stK lp r b es 11 out) (fun r=>if r=11 then 600 else r) (fun r=>if r=600 then 11 else r) [11,1005,1101] (by simp[AV.inNL,AV.inN]) (by simp) (by simp[inH,AV.inNL,AV.inN,Q1a]) (by simp) (by simp)
 simpa [AV.renL,AV.ren,renH] using h
def keyI(e:MapEntry):Int:=match e.key with | .int _ i=>i|_=>0
theorem filt_le{α : Type}(p q:α→Bool)(hq:∀x,q x=true→p x=true):∀l:List α,(l.filter q).length≤(l.filter p).length
 |[]=>Nat.le_refl _
 |x::l=>by
  have ih:=filt_le p q hq l
  rw[List.filter_cons,List.filter_cons]
  cases h1:q x with
  |true=>rw[hq x h1];simpa using ih
  |false=>cases p x<;>simp<;>omega
theorem filt_lt{α : Type}(p q:α→Bool)(hq:∀x,q x=true→p x=true):∀l:List α,(∃x∈l,p x=true∧q x=false)→(l.filter q).length<(l.filter p).length
 |[],h=>by obtain⟨x,hx,_⟩:=h;cases hx
 |x::l,h=>by
  obtain⟨y,hy,h1,h2⟩:=h
  have le:=filt_le p q hq l
  rw[List.filter_cons,List.filter_cons]
  rcases List.mem_cons.1 hy with rfl|hy
  · rw[h1,h2];simp;omega
  · have ih:=filt_lt p q hq l ⟨y,hy,h1,h2⟩
    cases h3:q x with
    |true=>rw[hq x h3];simpa using ih
    |false=>cases p x<;>simp<;>omega
theorem len_sub:∀(l l':List Nat),l.Nodup→(∀x∈l,x∈l')→l.length≤l'.length
 |[],_,_,_=>Nat.zero_le _
 |x::l,l',h,hs=>by
  rw[List.nodup_cons] at h
  have hx:=hs x List.mem_cons_self
  have ih:=len_sub l (l'.erase x) h.2 fun y hy=>(List.mem_erase_of_ne fun e=>h.1 (by rw[←e];exact hy)).2 (hs y (List.mem_cons_of_mem _ hy))
  rw[List.length_erase_of_mem hx] at ih
  have:=List.length_pos_of_mem hx
  rw[List.length_cons]
  omega
theorem perm_all{X:Array MapEntry}{seen:Array Nat}{le:List MapEntry}(hn:(X.toList.map (·.born)).Nodup)(h1:∀e∈le,e∈X.toList)(h2:le.map (·.born)=seen.toList)(h3:(le.map (·.born)).Nodup)(h0:(leftOf X seen).size=0):le.Perm X.toList:=by
 have nd:∀l:List MapEntry,(l.map (·.born)).Nodup→l.Nodup:=fun l h=>by
  refine List.Pairwise.imp (fun {a b} hab e=>hab (by rw[e])) (List.pairwise_map.1 h)
 refine(List.perm_ext_iff_of_nodup (nd _ h3) (nd _ hn)).2 fun e=>⟨h1 e,fun he=>?_⟩
 have hs:e.born∈seen.toList:=by
  refine Classical.byContradiction fun hc=>?_
  have hm:e∈(leftOf X seen).toList:=by
   unfold leftOf
   simp only[Array.toList_filter,List.mem_filter]
   exact⟨he,by simpa using hc⟩
  have:(leftOf X seen).toList.length=0:=by simpa using h0
  rw[List.eq_nil_of_length_eq_zero this] at hm
  cases hm
 rw[←h2] at hs
 obtain⟨e',he',hb⟩:=List.mem_map.1 hs
 have inj:∀(l:List MapEntry),(l.map (·.born)).Nodup→∀x∈l,∀y∈l,x.born=y.born→x=y:=by
  intro l
  induction l with
  |nil=>intro _ x hx;cases hx
  |cons z l ih=>
   intro hnd x hx y hy hxy
   rw[List.map_cons,List.nodup_cons] at hnd
   rcases List.mem_cons.1 hx with ex|hx'
   · rcases List.mem_cons.1 hy with ey|hy'
     · rw[ex,ey]
     · exact absurd (List.mem_map.2 ⟨y,hy',by rw[←hxy,ex]⟩) hnd.1
   · rcases List.mem_cons.1 hy with ey|hy'
     · exact absurd (List.mem_map.2 ⟨x,hx',by rw[hxy,ey]⟩) hnd.1
     · exact ih hnd.2 x hx' y hy' hxy
 rw[←inj _ hn e' (h1 _ he') e he hb]
 exact he'
theorem keys1_fn{V:Type}(f:V→Value)(m:List (Int×V))(hm:m.length≤1000)(b:Nat){t:Tmp}{asg bod:Code}{T0:List AV}(hT0:AV.inNL [1005] T0=true)(lp:Nat)
 (hY:∀(out:List Int) (x:Int),out.length≤1000→YC Tryz.prog t asg bod T0 lp (vi .u64 x) (kyH0 out) (kyH1 out x)) :
 FnWX (LoopAt t asg bod T0 [1005,1101] lp) Tryz.prog 45 [yv lp,.ptr 1101 0] [(1005,[nilK]),(1101,[.c (.mp b (im f m))])] (X:={ks:List Int // ks.Perm (m.map (·.1))}) (fun _=>.tup []) (fun ks=>[(1005,[.row 600 adT 1 ks.1.length]),(600,raK ks.1)]):=by
 refine X3z Tryz.func45 rfl (by rfl) ?_
 simp only[Tryz.ntmps45,List.length_cons,List.length_nil,Nat.reduceAdd,Nat.reduceSub,List.replicate,List.cons_append,List.nil_append]
 intro E ι a w hp hc
 have hload:∀E ι a w,Conc E ι ⟨[yv lp,.ptr 1101 0,.any,.any,.any,.any,.any,.any,.any,.any,.any,.any,.any,.any],[(1005,[nilK]),(1101,[.c (.mp b (im f m))])]⟩ a w→True:=fun _ _ _ _ _=>trivial
 refine wp_seq ?_
 refine(wpIn_wide (n:=0)).1 (wpIn_region_list ?_)
 refine wpListIn_plain rfl fun K' hK'=>?_
 refine Q4f (ro:=none) rfl ?_
 refine(Q5n (σ:=⟨[yv lp,.ptr 1101 0,.any,.any,.any,.any,.any,.any,.any,.any,.any,.any,.any,.any],[(1005,[nilK]),(1101,[.c (.mp b (im f m))])]⟩) (K:=fun σ'=>σ'=⟨[yv lp,.ptr 1101 0,.any,.any,.c (.mp b (im f m)),.any,.any,.any,.any,.any,.any,.any,.any,.any],[(1005,[nilK]),(1101,[.c (.mp b (im f m))])]⟩) (r:=1101) (off:=0) (s:=1) (g:=false) (cs:=[.c (.mp b (im f m))]) (y:=.c (.mp b (im f m))) rfl rfl rfl rfl ?_ ?_ (by simp) rfl) E ι a w hc K' _ ?_
 · simp only[go_sem]
 · simp only[go_sem]
 rintro ι1 σ1 a1 w1 rfl hc1
 refine hK' _ _ ?_
 clear K' hK' hc
 have hmv:=hc1.tmp 4
 generalize hv4:a1.tmps.getD 4 undef=v4 at hmv
 have hmv':RV (Sx E ι1 [(1005,[nilK]),(1101,[.c (.mp b (im f m))])]) ι1 w1 v4 (.c (.mp b (im f m))):=hmv
 cases hmv' with
 |c _ _ hp4=>
 cases hp4 with
 |mp _ _ X clk hS hh hE hw=>
 have hbl:b<w1.heap.size:=(Array.getElem?_eq_some_iff.1 hh).1
 have hrun:(execOp a1.eval {dst:=some 5,op:=Op.range 64 (Operand.tmp 4),type:=0,pos:= "iter.go:27",after:=#[{on:=0,ground:=Ground.data}],guard:=none}).run Tryz.prog w1 = .ok (.value (.pointer (some ⟨w1.heap.size,0,none⟩))) (w1.alloc (.mapIter (some b) clk #[] clk)):=by
  have e4:a1.eval (Operand.tmp 4) = .map (some b):=hv4
  unfold execOp
  simp[e4,Instr.range,run_underlying Tryz.underlying64,MapKept.run_getObj_map hh,Result.andThen]
 refine X1i rfl rfl hrun ?_
 refine wpListIn_nil ?_
 obtain⟨r,hr⟩:∃r,w1.heap.size=r:=⟨_,rfl⟩
 have hsz:=hc1.keep.size
 have hc2:=(hc1.alloc (.mapIter (some b) clk #[] clk)).put (some 5) (x:=.c (.v (.pointer (some ⟨w1.heap.size,0,none⟩)))) (v:=.pointer (some ⟨w1.heap.size,0,none⟩)) (Q2g _ rfl)
 have hb2:(w1.alloc (.mapIter (some b) clk #[] clk)).heap[b]? = some (.map X clk):=(Below.heap_alloc _ _ _ hbl).trans hh
 have hr2:(w1.alloc (.mapIter (some b) clk #[] clk)).heap[w1.heap.size]? = some (.mapIter (some b) clk #[] clk):=World.alloc_heap_new w1 _
 rw[hr] at hc2 hr2 hsz ⊢
 obtain⟨ι3,hc3⟩:∃ι3,Conc E ι3 (stK lp r b (im f m) 600 []) (a1.put (some 5) (.pointer (some ⟨r,0,none⟩))) (w1.alloc (.mapIter (some b) clk #[] clk)):=by
  refine St.to.trans (St.to.nilcell 1005 600 adT 1 0 (cs:=[nilK]) (by simp[hget,St.put]) rfl (by simp[St.free,Q1j,AV.refsL,AV.refs,St.put]) (by decide) (by decide)) (St.to.of_le (St.le_of (by simp[leT,St.put]) (by simp[leH,hget,hput,St.put]))) E ι1 _ _ hc2
 have hKeyOf:∀e∈X.toList,e.key = .int .u64 (keyI e):=fun e he=>by
  obtain⟨i,hi⟩:=keys_im hE e he
  unfold keyI
  rw[hi]
 have hlen:X.toList.length≤1000:=by have:=congrArg List.length hE;simp[im] at this ⊢;omega
 have hkeys:X.toList.map keyI=m.map (·.1):=by
  have h1:(X.toList.map (fun e=>(e.key,e.val))).map (fun p=>match p.1 with | .int _ i=>i|_=>0)=(im f m).map (fun p=>match p.1 with | .int _ i=>i|_=>0):=by rw[hE]
  unfold im at h1
  rw[List.map_map,List.map_map] at h1
  exact h1
 refine wp_block ?_
 refine wp_loopI (fun n a w=>∃ι le seen,Conc E ι (stK lp r b (im f m) 600 (le.map keyI)) a w∧w.heap[r]? = some (.mapIter (some b) clk seen clk)∧w.heap[b]? = some (.map X clk)∧(∀e∈le,e∈X.toList)∧le.map (·.born)=seen.toList∧(le.map (·.born)).Nodup∧n=(leftOf X seen).size) ?_ _ _ _ ⟨ι3,[],#[],hc3,hr2,hb2,(fun e he=>by cases he),rfl,.nil,rfl⟩
 clear hc3 hr2 hb2 hc2 hrun hc1 hh hbl hv4 hS hr
 rintro n a3 w3 ⟨ι,le,seen,hc,hwr,hwb,h1,h2,h3,rfl⟩
 have hev:a3.eval (Operand.tmp 5) = .pointer (some ⟨r,0,none⟩):=(hc.ev (Operand.tmp 5) rfl).v_inv.1
 have hrb:r≠b:=fun e=>by rw[e,hwb] at hwr;cases hwr
 have hold:∀x∈X.toList,x.born<clk:=fun x hx=>hw.1 _ (List.mem_map.2 ⟨x,hx,rfl⟩)
 refine wp_seq ?_
 refine(wpIn_wide (n:=0)).1 (wpIn_region_list ?_)
 rcases run_next_at (P:=Tryz.prog) w3 0 r b clk clk seen X clk hwr hwb hold (Nat.le_refl _) with⟨h0,hrun⟩|⟨e,he,w4,hw4,hrun⟩
 · -- nothing is left
   refine X1i (v:=.tuple #[.bool false]) (w':=w3) rfl rfl (by simp[execOp,hev,hrun,Result.andThen]) ?_
   have hc4:=hc.put (some 6) (x:=.tup [.c (.v (.bool false))]) (v:=.tuple #[.bool false]) (.tup [.bool false] _ rfl fun j u x hu hx=>by
    rcases j with _|j
    · cases hu;cases hx;exact Q2g _ rfl
    · cases hu)
   refine Q6i (Q5l (xs:=[.c (.v (.bool false))]) rfl rfl rfl rfl) hc4 rfl rfl fun a5 hc5=>?_
   refine wpListIn_nil ?_
   refine wp_seq ?_
   refine wp_cond_split (t:=false) (hc5.ev (Operand.tmp 7) rfl).v_inv.1 (fun h=>by cases h) fun _=>?_
   refine wp_exit ?_
   have hp:=(perm_all hw.2 h1 h2 h3 h0).map keyI
   rw[hkeys] at hp
   exact⟨ι,_,hc5,⟨le.map keyI,hp⟩,.inl rfl,⟨_,rfl,AV.le_of (by simp[Q0z])⟩,Q0i (by simp[leH,hget,St.put])⟩
 · -- one more
   have heX:e∈X.toList∧e.born∉seen.toList:=by
    unfold leftOf at he
    simp only[Array.toList_filter,List.mem_filter] at he
    exact⟨he.1,by simpa using he.2⟩
   have hkey:=hKeyOf e heX.1
   obtain⟨w5,hw5⟩:∃w5,ChangeMaps.setBlock w4 r (.mapIter (some b) clk (seen.push e.born) clk)=w5:=⟨_,rfl⟩
   rw[hw5] at hrun
   have hrl:r<w3.heap.size:=(Array.getElem?_eq_some_iff.1 hwr).1
   have hh4:w4.heap=w3.heap:=by rcases hw4 with rfl|rfl<;>rfl
   have hh5:w5.heap=w3.heap.setIfInBounds r (.mapIter (some b) clk (seen.push e.born) clk):=by rw[←hw5,←hh4];rfl
   have hr5:w5.heap[r]? = some (.mapIter (some b) clk (seen.push e.born) clk):=by rw[hh5];simp[hrl]
   have hoth:∀q,q≠r→w5.heap[q]? = w3.heap[q]?:=fun q hq=>by rw[hh5,Array.getElem?_setIfInBounds,if_neg (Ne.symm hq)]
   have hb5:w5.heap[b]? = some (.map X clk):=(hoth b hrb.symm).trans hwb
   have hc4:Conc E ι (stK lp r b (im f m) 600 (le.map keyI)) a3 w5:=hc.step hwr rfl (fun d h=>by cases h) hsz (by rw[←hw5];rcases hw4 with rfl|rfl<;>rfl) (by rw[←hw5];rcases hw4 with rfl|rfl<;>rfl) (by rw[←hw5];rcases hw4 with rfl|rfl<;>rfl) (by rw[hh5];simp) hoth
   refine X1i (v:=.tuple #[.bool true,e.key,e.val]) (w':=w5) rfl rfl (by simp[execOp,hev,hrun,Result.andThen]) ?_
   have hc5:=hc4.put (some 6) (x:=.tup [.c (.v (.bool true)),.any,.any]) (v:=.tuple #[.bool true,e.key,e.val]) (.tup [.bool true,e.key,e.val] _ rfl fun j u x hu hx=>by
    rcases j with _|_|_|j
    · cases hu;cases hx;exact Q2g _ rfl
    · cases hx;exact .any _
    · cases hx;exact .any _
    · cases hu)
   refine Q6i (Q5l (xs:=[.c (.v (.bool true)),.any,.any]) rfl rfl rfl rfl) hc5 rfl rfl fun a5 hc6=>?_
   refine wpListIn_nil ?_
   refine wp_seq ?_
   refine wp_cond_split (t:=true) (hc6.ev (Operand.tmp 7) rfl).v_inv.1 (fun _=>?_) fun h=>by cases h
   refine wp_skip ?_
   refine wp_block ?_
   refine wp_seq ?_
   refine(wpIn_wide (n:=0)).1 (wpIn_region_list ?_)
   have hen:=run_entry_at (P:=Tryz.prog) w5 r b clk seen X clk e hr5 hb5 heX.1 hw.2
   have hev6:a5.eval (Operand.tmp 5) = .pointer (some ⟨r,0,none⟩):=(hc6.ev (Operand.tmp 5) rfl).v_inv.1
   refine X1i (v:=.tuple #[e.key,e.val]) (w':=w5) rfl rfl (by simp[execOp,hev6,hen,Result.andThen]) ?_
   have hc7:=hc6.put (some 8) (x:=.tup [vi .u64 (keyI e),.any]) (v:=.tuple #[e.key,e.val]) (.tup [e.key,e.val] _ rfl fun j u x hu hx=>by
    rcases j with _|_|j
    · cases hu;cases hx;rw[hkey];exact Q2g _ rfl
    · cases hx;exact .any _
    · cases hu)
   refine Q6i (Q5l (xs:=[vi .u64 (keyI e),.any]) rfl rfl rfl rfl) hc7 rfl rfl fun a7 hc8=>?_
   refine Q6i (Q8j (.inr rfl) rfl) hc8 rfl rfl fun a8 hc9=>?_
   refine wpListIn_nil ?_
   refine wp_seq ?_
   refine(wpIn_wide (n:=0)).1 (wpIn_region_list ?_)
   refine Q6i (Q8j (.inl rfl) rfl) hc9 rfl rfl fun a9 hc10=>?_
   refine Q6i (Q8j (.inl rfl) rfl) hc10 rfl rfl fun a10 hc11=>?_
   refine wpListIn_plain rfl fun K' hK'=>?_
   have hll:(le.map keyI).length≤1000:=by
    have:=len_sub (le.map (·.born)) (X.toList.map (·.born)) h3 fun x hx=>by
     obtain⟨e',he',rfl⟩:=List.mem_map.1 hx
     exact List.mem_map.2 ⟨e',h1 e' he',rfl⟩
    rw[List.length_map,List.length_map] at this
    rw[List.length_map]
    omega
   have k9:∀r,AV.refsL r (raK (le.map keyI))=false:=fun r=>Q0m r _
   refine X5x (hY (le.map keyI) (keyI e) hll) (fun r=>if r=1600 then 600 else r) rfl rfl rfl rfl (.inr ?_) (by rfl) ?_ ?_ ?_ ?_ [1005] hT0 ?_ hp hc11 ?_
   · simp[AV.ren,AV.renL,St.ev,St.put]
   · simp[hget,AV.renL,AV.ren,St.put]
   · intro r hr q hq h
     simp only[List.map_cons,List.map_nil,List.cons_append,List.nil_append,List.mem_cons,List.not_mem_nil,or_false] at hr hq
     rcases hr with rfl|rfl|rfl|rfl<;>rcases hq with rfl|rfl|rfl|rfl<;>simp at h ⊢
   · simp[Q1t,St.free,Q1j,AV.refs,AV.refsL,St.put,St.ev,k9]
   · simp[inH,AV.inNL,AV.inN]
   · simp[hget,St.put]
   intro ι' a12 w6 hc12 hfr
   refine hK' _ _ ?_
   simp only[Q0x,Q2c,renH,AV.ren,AV.renL,Q0q,hput,hdel,hget,St.put,List.set] at hc12
   refine Q6i (pure_not (b:=true) rfl rfl ?_) hc12 rfl rfl fun a13 hc13=>?_
   · rfl
   refine wpListIn_nil ?_
   refine wp_cond_split (t:=false) (hc13.ev (Operand.tmp 13) rfl).v_inv.1 (fun h=>by cases h) fun _=>?_
   refine wp_skip ?_
   have hr6:=hfr r _ hr5 (fun _ _ _ h=>by cases h)
   have hb6:=hfr b _ hb5 (fun _ _ _ h=>by cases h)
   obtain⟨ι8,hc14⟩:∃ι8,Conc E ι8 (stK lp r b (im f m) 600 (le.map keyI++[keyI e])) a13 w6:=
    St.to.trans (St.to.of_le (τ:=stK lp r b (im f m) 11 (le.map keyI++[keyI e])) (St.le_of (by simp[leT,St.put]) (by simp[leH,hget,hput,hdel,St.put,raK]))) (stK_rn lp r b (im f m) _) E ι' _ _ hc13
   refine⟨(leftOf X (seen.push e.born)).size,?_,ι8,le++[e],seen.push e.born,by rw[List.map_append];exact hc14,hr6,hb6,fun e' he'=>?_,by simp[h2],?_,rfl⟩
   · unfold leftOf
     have h:=filt_lt (fun e=>!seen.contains e.born) (fun x=>!(seen.push e.born).contains x.born) (fun x hx=>by simp at hx ⊢;exact hx.1) X.toList ⟨e,heX.1,by simpa using heX.2,by simp⟩
     rw[←Array.toList_filter,←Array.toList_filter,Array.length_toList,Array.length_toList] at h
     exact h
   · rcases List.mem_append.1 he' with h|h
     · exact h1 _ h
     · simp at h;rw[h];exact heX.1
   · rw[List.map_append,List.nodup_append]
     refine⟨h3,by simp,fun x hx y hy=>?_⟩
     simp at hy
     rw[hy]
     rintro rfl
     exact heX.2 (by rw[←h2];exact hx)
end
section
open Go.RowKit Go.Lib
attribute [-go_sem] IntKind.bits
set_option maxRecDepth 20000
set_option maxHeartbeats 2000000
attribute [local simp] Q0o Q0a Q0n
theorem rI_raK(l:List Int):raK l=rI l.toArray:=by simp[rI]
abbrev X3e{V:Type}(m:List (Int×V)):Type:={ks:List Int // ks.Perm (m.map (·.1))}
theorem X6e{V:Type}(f:V→Value)(m:List (Int×V))(hm:m.length≤1000)(b:Nat) :
 FnX Tryz.prog 60 [nilK,.fn 45 [.ptr 1001 0]] [(1001,[.c (.mp b (im f m))])] (X:=X3e m) (fun ks=>.row 600 adT 1 ks.1.length) (fun ks=>[(600,raK ks.1)]):=by
 have F:=fun t asg bod T0 hT0 lp=>keys1_fn f m hm b (t:=t) (asg:=asg) (bod:=bod) (T0:=T0) hT0 lp
 (refine X3z Tryz.func60 rfl (by rfl) ?_;simp only[Tryz.ntmps60,List.length_cons,List.length_nil,Nat.reduceAdd,Nat.reduceSub,List.replicate,List.cons_append,List.nil_append])
 refine AWE.of ?_
 (repeat(any_goals(first|((with_reducible refine Q0d ?_ ?_);rfl;intro K hK;simp only[go_sem];((repeat(refine ndI (by first|assumption|rfl) ?_));refine hK _ ?_;clear hK K))|(with_reducible first|(refine Q0c ?_;refine hR _ ?_;clear hR R)|((first|refine Q0e ?_|refine Q0g ?_);intro Ψ hΨ hΨ')|(refine Q0b ?_;intro R hR)|(refine hΨ _ ?_;clear hΨ hΨ' Ψ)))))
 show AW _ _ _ _
 refine AW.rangeX (X:=X3e m) ⟨_,List.Perm.refl _⟩ (T0:=[.any,.any,.ptr 1005 0,.any,.any,.any,.any,.any,.any,.any,.any,.any,.any]) (cargs:=[.ptr 1101 0]) (H0:=[(1005,[nilK]),(1101,[.c (.mp b (im f m))])]) (H1:=fun ks=>[(1005,[.row 600 adT 1 ks.1.length]),(600,raK ks.1)]) (res:=fun _=>.tup []) (fun r=>if r=1005 then 2 else if r=1101 then 1001 else r) (fun lp=>F _ _ _ _ ?_ lp ?_) rfl rfl Tryz.func45 (by kernel_rfl) rfl rfl ?_ ?_ ?_ ?_ ?_ (fun _=>rfl) ?_ ?_
 · rfl
 · intro out x ho
   refine yc_of rfl rfl ?_
   have k4:(raK out).length=out.length:=by rw[List.length_map,Q1e Q5d];simp
   have k9:∀r,AV.refsL r (raK out)=false:=fun r=>Q0m r _
   simp only[List.set]
   (repeat(any_goals(first|((with_reducible refine Q0d ?_ ?_);rfl;intro K hK;simp(disch:=omega) only[go_sem,k4,k9];((repeat(refine ndI (by first|assumption|rfl) ?_));refine hK _ ?_;clear hK K))|(with_reducible first|(refine Q0c ?_;refine hR _ ?_;clear hR R)|(refine Q0b ?_;intro R hR)))))
   refine⟨rfl,?_⟩
   (have W:=ndI k4 (ndI k9 @Q0m);(repeat(any_goals(first|((with_reducible refine Q0d ?_ ?_);rfl;intro K hK;simp(disch:=omega) only[go_sem,W,Q2i,AV.refsL,AV.refs,List.length_append,List.length_cons,List.length_nil,Bool.or_false];((repeat(refine ndI (by first|assumption|omega|rfl) ?_));refine hK _ ?_;clear hK K))|(with_reducible first|(refine Q0c ?_;refine hR _ ?_;clear hR R)|((first|refine Q0g ?_);intro Ψ hΨ hΨ')|(refine Q0b ?_;intro R hR))|((with_reducible refine hΨ' _ _ ?_ ?_);(focus(simp;done));clear hΨ hΨ' Ψ)))))
   exact⟨rfl,Q0i (by simp[leH,hget,raK,apv])⟩
 · simp[Q1f,Q1y,AV.ren]
 · simp[Q1f,Q1y,AV.ren]
 · simp[hget,AV.renL,AV.ren]
 · intro x r hr q hq h
   simp only[List.map_cons,List.map_nil,List.cons_append,List.nil_append,List.mem_cons,List.not_mem_nil,or_false] at hr hq
   rcases hr with rfl|rfl|rfl|rfl<;>rcases hq with rfl|rfl|rfl|rfl<;>simp at h ⊢
 · intro x
   simp[Q1t,St.free,Q1j,AV.refs,AV.refsL]
 · intro x
   simp[inH,AV.inNL,AV.inN]
 · intro x
   simp only[Q0x,Q2c,renH,AV.ren,AV.renL,Q0q,hput,hdel,hget,Nat.reduceLeDiff,Nat.reduceSub,Nat.reduceEqDiff,↓reduceIte]
   (repeat(any_goals(first|((with_reducible refine Q0d ?_ ?_);rfl;intro K hK;simp only[go_sem];((repeat(refine ndI (by first|assumption) ?_));refine hK _ ?_;clear hK K))|(with_reducible first|(refine Q0c ?_;refine hR _ ?_;clear hR R)|((first|refine Q0e ?_);intro Ψ hΨ hΨ')|(refine Q0b ?_;intro R hR)|(refine hΨ _ ?_;clear hΨ hΨ' Ψ)|refine Q0l ?_)|((with_reducible refine hΨ' _ _ ?_ ?_);(focus(simp;done));clear hΨ hΨ' Ψ))))
   all_goals exact⟨x,by simp,⟨_,rfl,AV.le_refl _⟩,Q0i (by simp[leH,hget])⟩
theorem X4f{V:Type}(f:V→Value)(m:List (Int×V))(hm:m.length≤1000)(b:Nat) :
 FnX Tryz.prog 43 [.fn 45 [.ptr 1001 0]] [(1001,[.c (.mp b (im f m))])] (X:=X3e m) (fun ks=>.row 600 adT 1 ks.1.length) (fun ks=>[(600,raK ks.1)]):=by
 have F:=X6e f m hm b
 (refine X3z Tryz.func43 rfl (by rfl) ?_;simp only[Tryz.ntmps43,List.length_cons,List.length_nil,Nat.reduceAdd,Nat.reduceSub,List.replicate,List.cons_append,List.nil_append])
 refine AWE.of ?_
 (repeat(any_goals(first|((with_reducible refine Q0d ?_ ?_);rfl;intro K hK;simp only[go_sem];((repeat(refine ndI (by first|assumption) ?_));refine hK _ ?_;clear hK K))|(with_reducible first|(refine Q0c ?_;refine hR _ ?_;clear hR R)|((first|refine Q0e ?_);intro Ψ hΨ hΨ')|(refine Q0b ?_;intro R hR)|(refine hΨ _ ?_;clear hΨ hΨ' Ψ)))))
 refine Q3p rfl fun K hK=>?_
 refine X2d (X:=X3e m) ⟨_,List.Perm.refl _⟩ F (fun r=>r) rfl rfl rfl rfl Tryz.func60 (by kernel_rfl) rfl rfl ?_ ?_ ?_ ?_ ?_ ?_ ?_
 · simp[Q1f,Q1y,AV.ren,AV.renL,St.ev,ofV]
 · simp[hget,AV.renL,AV.ren]
 · intro x r hr q hq h
   exact h
 · intro x
   simp[Q1t,St.free,Q1j,AV.refs,AV.refsL]
 · intro x
   rfl
 · intro x
   simp[inH,AV.inNL,AV.inN]
 · intro x
   simp only[Q0x,Q2c,renH,AV.ren,AV.renL,Q0q,hput,hdel,hget,Nat.reduceLeDiff,Nat.reduceSub,Nat.reduceEqDiff,↓reduceIte,St.put,List.set]
   refine hK _ ?_
   clear hK K
   (repeat(any_goals(first|((with_reducible refine Q0d ?_ ?_);rfl;intro K hK;simp only[go_sem];((repeat(refine ndI (by first|assumption) ?_));refine hK _ ?_;clear hK K))|(with_reducible first|(refine Q0c ?_;refine hR _ ?_;clear hR R)|(refine hΨ _ ?_;clear hΨ hΨ' Ψ)|refine Q0l ?_))))
   all_goals exact⟨x,by simp,⟨_,rfl,AV.le_refl _⟩,Q0i (by simp[leH,hget])⟩
def srtI(l:List Int):List Int:=l.mergeSort (fun x y=>decide (x≤y))
theorem srt_eq(l:List Int):Sort.sort ltI l.toArray=(srtI l).toArray:=by
 have h:=Sort.sortInt l
 apply Array.toList_inj.1
 rw[show Sort.sort ltI l.toArray=Sort.sort Sort.ltInt l.toArray from rfl,h]
 rfl
theorem srtI_perm{l l':List Int}(h:l.Perm l'):srtI l=srtI l':=by
 have tr:∀a b c:Int,decide (a≤b)=true→decide (b≤c)=true→decide (a≤c)=true:=fun a b c h1 h2=>by simp only[decide_eq_true_eq] at *;omega
 have to:∀a b:Int,(decide (a≤b)||decide (b≤a))=true:=fun a b=>by simp only[Bool.or_eq_true,decide_eq_true_eq];omega
 refine List.Perm.eq_of_pairwise (le:=fun a b=>decide (a≤b)=true) (fun a b _ _ h1 h2=>?_) (List.pairwise_mergeSort tr to l) (List.pairwise_mergeSort tr to l') (((List.mergeSort_perm l _).trans h).trans (List.mergeSort_perm l' _).symm)
 simp only[decide_eq_true_eq] at h1 h2
 omega
theorem sort_fn(n:Nat)(hn:n≤1000000)(d:Array Int)(h0:d.size=n):Fn Tryz.prog 44 [.row 1000 adT 1 n] [(1000,rI d)] (.tup []) [(1000,rI (Sort.sort ltI d))]:=by
 have gl:=len_fn n hn
 have h2:Sort.bitsLen n≤20:=(Sort.bitsLen_le_iff n 20).2 (by omega)
 have gp:=pdq_fn n hn n 0 n (Sort.bitsLen n) d (by omega) (Nat.zero_le _) (Nat.le_refl _) (by omega) h0 (.inl rfl)
 rw[show Sort.sort ltI d=Sort.pdq ltI d 0 n (Sort.bitsLen n) true true by rw[←h0];rfl]
 rw[show((0:Nat):Int)=0 from rfl] at gp
 generalize Sort.bitsLen n=l at *
 have w1:IntKind.u64.wrap (n:Int)=(n:Int):=by rw[IntKind.wrap_u64];omega
 (refine Q1c Tryz.func44 rfl (by rfl) ?_;simp only[Tryz.ntmps44,List.length_cons,List.length_nil,Nat.reduceAdd,Nat.reduceSub,List.replicate,List.cons_append,List.nil_append])
 (repeat(any_goals(first|((with_reducible refine Q0p ?_ ?_ ?_);rfl;rfl;intro K hK;(first|((apply Q0k (gl);rfl;rfl;rfl;rfl;exact Tryz.func62);kernel_rfl;rfl;(focus((simp(disch:=omega) only[go_sem,w1,Q0o,Q0n,Q0a,Nat.mul_one,wrI]);(try rfl);done));(first|rfl))|(apply Q1b (gp) (fun r=>r);rfl;rfl;rfl;rfl;exact Tryz.func61;kernel_rfl;rfl;rfl;(intro r hr q hq h;simp(disch:=omega) only[List.map_cons,List.map_nil,List.cons_append,List.nil_append,List.mem_cons,List.not_mem_nil,or_false] at hr hq;(try dsimp only at h);first|omega);(simp(disch:=omega) only[Q1f,Q1y,AV.ren,AV.renL,Q0q,List.mem_cons,List.not_mem_nil,forall_eq_or_imp,forall_eq,Q1t,List.contains_cons,List.contains_nil,AV.refsL,AV.refs,Q0m,AV.inN,AV.inNL,inH,Q1a,go_sem,w1,Q0o,Q0n,Q0a,Nat.mul_one,wrI])));(simp(disch:=omega) only[Q0x,Q2c,renH,AV.ren,AV.renL,Q0q,go_sem,w1,Q0o,Q0n,Q0a,Nat.mul_one,wrI];refine hK _ ?_;clear hK K))|((with_reducible refine Q0d ?_ ?_);rfl;intro K hK;simp(disch:=omega) only[go_sem,w1,Q0o,Q0n,Q0a,Nat.mul_one,wrI];((repeat(refine ndI (by first|assumption|rfl) ?_));refine hK _ ?_;clear hK K))|(with_reducible first|(refine Q0c ?_;refine hR _ ?_;clear hR R)|((first|refine Q0e ?_);intro Ψ hΨ hΨ')|(refine Q0b ?_;intro R hR)|(refine hΨ _ ?_;clear hΨ hΨ' Ψ)))))
 all_goals(refine⟨by simp,⟨_,?_,AV.le_refl _⟩,Q0i (by simp[leH,hget])⟩;simp only[Tryz.results44,resL,ldA,Q0z,go_sem])
theorem X3h{V:Type}(f:V→Value)(m:List (Int×V))(hm:m.length≤1000)(b:Nat) :
 Fn Tryz.prog 21 [.fn 45 [.ptr 1001 0]] [(1001,[.c (.mp b (im f m))])] (.row 600 adT 1 m.length) [(600,raK (srtI (m.map (·.1))))]:=by
 have F:=X4f f m hm b
 (refine Q1c Tryz.func21 rfl (by rfl) ?_;simp only[Tryz.ntmps21,List.length_cons,List.length_nil,Nat.reduceAdd,Nat.reduceSub,List.replicate,List.cons_append,List.nil_append])
 (repeat(any_goals(first|((with_reducible refine Q0d ?_ ?_);rfl;intro K hK;simp only[go_sem];((repeat(refine ndI (by first|assumption) ?_));refine hK _ ?_;clear hK K))|(with_reducible first|(refine Q0c ?_;refine hR _ ?_;clear hR R)|((first|refine Q0e ?_);intro Ψ hΨ hΨ')|(refine Q0b ?_;intro R hR)|(refine hΨ _ ?_;clear hΨ hΨ' Ψ)))))
 refine Q3p rfl fun K hK=>?_
 refine X2d (X:=X3e m) ⟨_,List.Perm.refl _⟩ F (fun r=>r) rfl rfl rfl rfl Tryz.func43 (by kernel_rfl) rfl rfl ?_ ?_ ?_ ?_ ?_ ?_ ?_
 · simp[Q1f,Q1y,AV.ren,AV.renL,St.ev,ofV]
 · simp[hget,AV.renL,AV.ren]
 · intro x r hr q hq h
   exact h
 · intro x
   simp[Q1t,St.free,Q1j,AV.refs,AV.refsL]
 · intro x
   rfl
 · intro x
   simp[inH,AV.inNL,AV.inN]
 · rintro ⟨ks,hp⟩
   have hl:ks.length=m.length:=by rw[hp.length_eq,List.length_map]
   have g:=sort_fn m.length (by omega) ks.toArray (by simpa using hl)
   rw[srt_eq,srtI_perm hp,←rI_raK,←rI_raK] at g
   simp only[Q0x,Q2c,renH,AV.ren,AV.renL,Q0q,hput,hdel,hget,Nat.reduceLeDiff,Nat.reduceSub,Nat.reduceEqDiff,↓reduceIte,St.put,List.set,hl]
   refine hK _ ?_
   clear hK K
   have k9:∀l r,AV.refsL r (raK l)=false:=fun l r=>Q0m r _
   (repeat(any_goals(first|((with_reducible refine Q0p ?_ ?_ ?_);rfl;rfl;intro K hK;(apply Q1b (g) (fun r=>if r=1000 then 600 else r);rfl;rfl;rfl;rfl;exact Tryz.func44;kernel_rfl;rfl;rfl;(intro r hr q hq h;simp only[List.map_cons,List.map_nil,List.cons_append,List.nil_append,List.mem_cons,List.not_mem_nil,or_false] at hr hq;(try dsimp only at h);first|omega);(simp only[Q1f,Q1y,AV.ren,AV.renL,Q0q,List.mem_cons,List.not_mem_nil,forall_eq_or_imp,forall_eq,Q1t,List.contains_cons,List.contains_nil,AV.refsL,AV.refs,Q0m,AV.inN,AV.inNL,inH,Q1a,go_sem,k9,Q1a,Q0q]));(simp only[Q0x,Q2c,renH,AV.ren,AV.renL,Q0q,go_sem,k9,Q1a,Q0q];refine hK _ ?_;clear hK K))|((with_reducible refine Q0d ?_ ?_);rfl;intro K hK;simp only[go_sem,k9,Q1a,Q0q];((repeat(refine ndI (by first|assumption) ?_));refine hK _ ?_;clear hK K))|(with_reducible first|(refine Q0c ?_;refine hR _ ?_;clear hR R)|((first|refine Q0e ?_);intro Ψ hΨ hΨ')|(refine Q0b ?_;intro R hR)|(refine hΨ _ ?_;clear hΨ hΨ' Ψ)|refine Q0l ?_))))
   all_goals(refine⟨by simp,⟨_,?_,AV.le_refl _⟩,Q0i (by simp[leH,hget])⟩;simp only[Tryz.results21,resL,ldA,Q0z,go_sem])
theorem keysA_fn{V:Type}(f:V→Value)(m:List (Int×V))(b:Nat) :
 Fn Tryz.prog 22 [.c (.mp b (im f m))] [] (.fn 45 [.ptr 1 0]) [(1,[.c (.mp b (im f m))])]:=by
 (refine Q1c Tryz.func22 rfl (by rfl) ?_;simp only[Tryz.ntmps22,List.length_cons,List.length_nil,Nat.reduceAdd,Nat.reduceSub,List.replicate,List.cons_append,List.nil_append])
 (repeat(any_goals(first|((with_reducible refine Q0d ?_ ?_);rfl;intro K hK;simp only[go_sem];((repeat(refine ndI (by first|assumption) ?_));refine hK _ ?_;clear hK K))|(with_reducible first|(refine Q0c ?_;refine hR _ ?_;clear hR R)|((first|refine Q0e ?_);intro Ψ hΨ hΨ')|(refine Q0b ?_;intro R hR)|(refine hΨ _ ?_;clear hΨ hΨ' Ψ)|refine Q0l ?_))))
 all_goals(refine⟨by simp,⟨_,?_,AV.le_refl _⟩,Q0i (by simp[leH,hget])⟩;simp only[Tryz.results22,resL,ldA,Q0z,go_sem])
end
section
open Go.RowKit Go.Lib
section
variable {P:Program} {o:Oper} {σ : St} {K:St→Prop} {V:Type}
def mv(f:V→List Value)(v:V):Value:=.agg (f v).toArray
theorem rv_mv{S:Nat→Prop}{ι : Nat→Nat×Nat×Nat}{w:World}(xs:List Value)(h:∀x∈xs,x.oneCell'=true):RV S ι w (.agg xs.toArray) (.agg (xs.map fun x=>.c (.v x))):=
 .agg xs _ (by simp) h fun j u x hu hx=>by
  rw[List.getElem?_map,hu] at hx
  cases hx
  exact .c _ _ (.v _ (h u (List.mem_of_getElem? hu)))
theorem X3q(f:V→List Value)(z:V)(m:List (Int×V)){t kt et:TypeId}{x ix:Operand}{b:Nat}{k:Int}(ho:o.op = .lookup t x ix false)(hx:Q0j x=true)(hi:Q0j ix=true)(hm:P.underlying t=some (.map kt et))(hkt:P.underlying kt=some (.int .u64))
 (hz:∀w,(zeroValue et).run P w = .ok (mv f z) w) (h1:σ.ev x = .c (.mp b (im (mv f) m))) (h2:σ.ev ix = .c (.v (.int .u64 k))) (hf:∀v,∀x∈f v,x.oneCell'=true) (hK:K (σ.put o.dst (.agg ((f (mget z m k)).map fun x=>.c (.v x))))):OpA P o σ K:=by
 refine Q1o _ hK fun E ι a w h=>?_
 have hxv:=h.ev x hx
 rw[h1] at hxv
 have hiv:=h.ev ix hi
 rw[h2] at hiv
 obtain⟨ei,_⟩:=hiv.v_inv
 generalize he:a.eval x=v at hxv
 cases hxv with
 |c _ _ hp=>
  cases hp with
  |mp _ _ X clk hS hh hE hw=>
   refine⟨mv f (mget z m k),?_,rv_mv _ (hf _)⟩
   have hfn:=Q7i (mv f) k X.toList m 0 hE
   unfold mget
   unfold execOp
   simp only[ho,he,ei]
   cases hr:Q6g k m 0 with
   |none=>
    rw[hr] at hfn
    simp[Instr.lookup,run_underlying hm,MapKept.run_getObj_map hh,MapKept.run_checkKey hkt (Q5s k),MapKept.run_findKey hkt hfn,Result.andThen,hz]
   |some p=>
    rw[hr] at hfn
    simp[Instr.lookup,run_underlying hm,MapKept.run_getObj_map hh,MapKept.run_checkKey hkt (Q5s k),MapKept.run_findKey hkt hfn,Result.andThen]
theorem Q9j{E0:Env}(f:V→List Value)(m:List (Int×V)){t kt et:TypeId}{x ix vx:Operand}{b:Nat}{k:Int}{v:V}(ho:o.op = .mapUpdate t x ix vx)(hd:o.dst=none)(hx:Q0j x=true)(hi:Q0j ix=true)(hvx:Q0j vx=true)(hm:P.underlying t=some (.map kt et))(hkt:P.underlying kt=some (.int .u64))
 (h1:σ.ev x = .c (.mp b (im (mv f) m))) (h2:σ.ev ix = .c (.v (.int .u64 k))) (h3:σ.ev vx = .agg ((f v).map fun x=>.c (.v x))) (hb:E0.w.heap.size≤b) (hH:Q6w σ.H=false) (hK:K ⟨σ.T.map (AV.mpU b (im (mv f) (mput m k v))),σ.H⟩):OpE (fun E=>E=E0) P o σ K:=
 fun E ι a w hE hc K' Q hK'=>Q4f (by unfold opNd;rw[ho]) (Q9i (mv f) m ho hd hi hm hkt (fun E ι a w hc=>by
  have hxv:=hc.ev x hx
  rw[h1] at hxv
  generalize a.eval x=y at hxv
  cases hxv with
  |c _ _ hp=>
   cases hp with
   |mp _ _ X clk hS hh hE hw=>exact⟨rfl,X,clk,hh,hE,hw⟩) h2 (fun E ι a w hc=>by
  have hvv:=hc.ev vx hvx
  rw[h3] at hvv
  exact hvv.vals) hb hH hK E ι a w hE hc K' Q hK')
end
end
section
open Go.RowKit
open Nat (reduceBEq)
set_option maxRecDepth 20000
set_option maxHeartbeats 2000000
theorem Q7s(x y c:Int)(hx:0≤x)(hy:0≤y)(hy1:y≤18446744073709551615)(hc0:0≤c)(hc:c≤1):Ext Tryz.prog 49 [.int .u64 x,.int .u64 y,.int .u64 c] (.tup [.c (.v (.int .u64 (sbI x y c))),.c (.v (.int .u64 (bwI x y c)))]):=
 sub64_ext Tryz.func49 (by kernel_rfl) (by kernel_rfl) (by kernel_rfl) (by kernel_rfl) x y c hx hy hy1 hc0 hc
theorem bw01(x y c:Int):0≤bwI x y c∧bwI x y c≤1:=by unfold bwI;split<;>omega
theorem X1b(a b c d e f g h:Int)(u1:U a)(u2:U b)(u3:U c)(u4:U d)(u5:U e)(u6:U f)(u7:U g)(u8:U h):Fn Tryz.prog 41 [w4 a b c d,w4 e f g h,.fn 49 []] []
 (.tup [w4 (sbI a e 0) (sbI b f (bwI a e 0)) (sbI c g (bwI b f (bwI a e 0))) (sbI d h (bwI c g (bwI b f (bwI a e 0)))),vb (bwI d h (bwI c g (bwI b f (bwI a e 0))) != 0)]) []:=by
 have c1:=bw01 a e 0
 have c2:=bw01 b f (bwI a e 0)
 have c3:=bw01 c g (bwI b f (bwI a e 0))
 (refine Q1c Tryz.func41 rfl (by rfl) ?_;simp only[Tryz.ntmps41,List.length_cons,List.length_nil,Nat.reduceAdd,Nat.reduceSub,List.replicate,List.cons_append,List.nil_append])
 (repeat(any_goals(first|((with_reducible refine Q0d ?_ ?_);rfl;intro K hK;simp(disch:=omega) only[go_sem,wrI,Int.reduceAdd];((repeat(refine ndI (by first|assumption|rfl) ?_));refine hK _ ?_;clear hK K))|(with_reducible first|(refine Q0c ?_;refine hR _ ?_;clear hR R)|((first|refine Q0e ?_|refine Q0g ?_);intro Ψ hΨ hΨ')|(refine Q0b ?_;intro R hR)|(refine hΨ _ ?_;clear hΨ hΨ' Ψ)|refine Q0h ?_|refine Q0l ?_|refine Q0v ?_)|((with_reducible refine hΨ' _ _ ?_ ?_);(focus(simp;done));clear hΨ hΨ' Ψ)|((with_reducible apply Q0f);rfl;rfl;all_goals(intro hc;first|(cases hc;done)|(try simp only at hc)))|(with_reducible refine Q4h 5 ?_)|((with_reducible refine Q5c ?_);intro Ψ hΨ hΨ')|((with_reducible refine Q0w ?_ ?_);kernel_rfl;(with_reducible refine hR _ ?_);clear hR R)|((first|((with_reducible apply Q1m);rfl;rfl;(first|(apply Q5m (Q7s a e 0 u1.1 u5.1 u5.2 (Int.le_refl 0) (by decide));rfl;rfl;rfl;rfl;(focus(simp(disch:=omega) only[AV.ones,Option.map_some,go_sem,wrI,Int.reduceAdd];done)))|(apply Q5m (Q7s b f _ u2.1 u6.1 u6.2 c1.1 c1.2);rfl;rfl;rfl;rfl;(focus(simp(disch:=omega) only[AV.ones,Option.map_some,go_sem,wrI,Int.reduceAdd];done)))|(apply Q5m (Q7s c g _ u3.1 u7.1 u7.2 c2.1 c2.2);rfl;rfl;rfl;rfl;(focus(simp(disch:=omega) only[AV.ones,Option.map_some,go_sem,wrI,Int.reduceAdd];done)))|(apply Q5m (Q7s d h _ u4.1 u8.1 u8.2 c3.1 c3.2);rfl;rfl;rfl;rfl;(focus(simp(disch:=omega) only[AV.ones,Option.map_some,go_sem,wrI,Int.reduceAdd];done)))))|((with_reducible apply Q0u);rfl;rfl;(simp(disch:=omega) only[rdE,rdOf,go_sem,wrI,Int.reduceAdd];rfl);(intro τ hA hQ hN;((try simp only[Q1g,Op.operands,Call.operands,go_sem,wrI,Int.reduceAdd,go_sem,List.mem_cons,List.not_mem_nil,forall_eq_or_imp,forall_eq,List.append_toArray,Option.toArray] at hA);(try simp only[go_sem,wrI,Int.reduceAdd,List.mem_cons,List.not_mem_nil,forall_eq_or_imp,forall_eq] at hQ hN);(first|(revert hA;intro hA));(first|(revert hQ;intro hQ));(first|(revert hN;intro hN));simp(disch:=omega) only[go_sem,wrI,Int.reduceAdd,go_sem,hA,hQ,hN];(repeat(refine ndI (by first|assumption|omega) ?_));(first|apply Q1d|apply Q2o)))));(simp(disch:=omega) only[St.eff,setO,Q0x,go_sem,wrI,Int.reduceAdd]))|((with_reducible refine Q0r ?_ ?_ ?_ ?_);kernel_rfl;kernel_rfl;(first|kernel_rfl);intro R hR))))
 all_goals(refine⟨by simp,⟨_,?_,AV.le_refl _⟩,Q0i (by simp[leH,hget])⟩;simp only[Tryz.results41,resL,ldA,Q0z,go_sem])
theorem sub_nat{x y a0 a1 a2 a3 b0 b1 b2 b3:Nat}(hxw:x<WW)(hyw:y<WW)(hx:x=a0+18446744073709551616*(a1+18446744073709551616*(a2+18446744073709551616*a3)))(hy:y=b0+18446744073709551616*(b1+18446744073709551616*(b2+18446744073709551616*b3)))
 {s0 s1 s2 s3 c1 c2 c3 c4:Nat} (e0:a0+18446744073709551616*c1=s0+b0) (e1:a1+18446744073709551616*c2=s1+b1+c1) (e2:a2+18446744073709551616*c3=s2+b2+c2) (e3:a3+18446744073709551616*c4=s3+b3+c3)
 (h0:s0<18446744073709551616) (h1:s1<18446744073709551616) (h2:s2<18446744073709551616) (h3:s3<18446744073709551616) :
 (x+WW-y)%WW=s0+18446744073709551616*(s1+18446744073709551616*(s2+18446744073709551616*s3))∧(x<y↔c4≠0):=by
 unfold WW at *
 omega
theorem X0e{a b c:Nat}(hb:b<18446744073709551616)(hc:c≤1):sbI a b c=(((a+18446744073709551616-b-c)%18446744073709551616:Nat):Int):=by unfold sbI;omega
theorem X1d{a b c:Nat}:bwI a b c=((if a<b+c then 1 else 0:Nat):Int):=by unfold bwI;split<;>split<;>omega
theorem sub_fn(x y:Nat)(hx:x<WW)(hy:y<WW):Fn Tryz.prog 25 [wN x,wN y] [] (.tup [wN ((x+WW-y)%WW),vb (decide (x<y))]) []:=by
 have h:=X1b (l0 x) (l1 x) (l2 x) (l3 x) (l0 y) (l1 y) (l2 y) (l3 y) (U0 x) (U1 x) (U2 x) (U3 x) (U0 y) (U1 y) (U2 y) (U3 y)
 obtain⟨a,b,c,d,ex,ha,hb,hc,hd,e0,e1,e2,e3⟩:=Q4x hx
 obtain⟨a',b',c',d',ey,ha',hb',hc',hd',f0,f1,f2,f3⟩:=Q4x hy
 rw[e0,e1,e2,e3,f0,f1,f2,f3] at h
 have z:(0:Int)=((0:Nat):Int):=rfl
 rw[z,X1d] at h
 obtain⟨c1,hc1⟩:∃s:Nat,(if a<a'+0 then 1 else 0)=s:=⟨_,rfl⟩
 have hc1':c1≤1:=by rw[←hc1];split<;>omega
 rw[hc1,X1d] at h
 obtain⟨c2,hc2⟩:∃s:Nat,(if b<b'+c1 then 1 else 0)=s:=⟨_,rfl⟩
 have hc2':c2≤1:=by rw[←hc2];split<;>omega
 rw[hc2,X1d] at h
 obtain⟨c3,hc3⟩:∃s:Nat,(if c<c'+c2 then 1 else 0)=s:=⟨_,rfl⟩
 have hc3':c3≤1:=by rw[←hc3];split<;>omega
 rw[hc3,X1d] at h
 obtain⟨c4,hc4⟩:∃s:Nat,(if d<d'+c3 then 1 else 0)=s:=⟨_,rfl⟩
 have hc4':c4≤1:=by rw[←hc4];split<;>omega
 rw[hc4,X0e ha' (by omega),X0e hb' hc1',X0e hc' hc2',X0e hd' hc3'] at h
 obtain⟨s0,hs0⟩:∃s,(a+18446744073709551616-a'-0)%18446744073709551616=s:=⟨_,rfl⟩
 obtain⟨s1,hs1⟩:∃s,(b+18446744073709551616-b'-c1)%18446744073709551616=s:=⟨_,rfl⟩
 obtain⟨s2,hs2⟩:∃s,(c+18446744073709551616-c'-c2)%18446744073709551616=s:=⟨_,rfl⟩
 obtain⟨s3,hs3⟩:∃s,(d+18446744073709551616-d'-c3)%18446744073709551616=s:=⟨_,rfl⟩
 rw[hs0,hs1,hs2,hs3] at h
 have k0:s0<18446744073709551616:=by omega
 have k1:s1<18446744073709551616:=by omega
 have k2:s2<18446744073709551616:=by omega
 have k3:s3<18446744073709551616:=by omega
 obtain⟨g1,g2⟩:=sub_nat hx hy ex ey (s0:=s0) (c1:=c1) (s1:=s1) (c2:=c2) (s2:=s2) (c3:=c3) (s3:=s3) (c4:=c4) (by split at hc1<;>omega) (by split at hc2<;>omega) (by split at hc3<;>omega) (by split at hc4<;>omega) k0 k1 k2 k3
 obtain⟨m0,m1,m2,m3⟩:=Q7y g1 k0 k1 k2 k3
 rw[←m0,←m1,←m2,←m3] at h
 have hq:(((c4:Nat):Int) != ((0:Nat):Int))=decide (x<y):=by
  rw[Bool.eq_iff_iff]
  simp only[bne_iff_ne,ne_eq,decide_eq_true_eq]
  rw[g2];omega
 rw[hq] at h
 rw[←e0,←e1,←e2,←e3,←f0,←f1,←f2,←f3] at h
 obtain⟨q,hq'⟩:∃q,decide (x<y)=q:=⟨_,rfl⟩
 obtain⟨n,hn⟩:∃n,(x+WW-y)%WW=n:=⟨_,rfl⟩
 rw[hq',hn] at h ⊢
 (refine Q1c Tryz.func25 rfl (by rfl) ?_;simp only[Tryz.ntmps25,List.length_cons,List.length_nil,Nat.reduceAdd,Nat.reduceSub,List.replicate,List.cons_append,List.nil_append])
 (repeat(any_goals(first|((with_reducible refine Q0p ?_ ?_ ?_);rfl;rfl;intro K hK;((apply Q0k (h);rfl;rfl;rfl;rfl;exact Tryz.func41);kernel_rfl;rfl;(focus((simp only[go_sem]);(try rfl);done));(first|rfl));(simp only[go_sem];refine hK _ ?_;clear hK K))|((with_reducible refine Q0d ?_ ?_);rfl;intro K hK;simp only[go_sem];((repeat(refine ndI (by first|assumption) ?_));refine hK _ ?_;clear hK K))|(with_reducible first|(refine Q0c ?_;refine hR _ ?_;clear hR R)|((first|refine Q0e ?_);intro Ψ hΨ hΨ')|(refine Q0b ?_;intro R hR)|(refine hΨ _ ?_;clear hΨ hΨ' Ψ)|refine Q0l ?_))))
 all_goals(refine⟨by simp,⟨_,?_,AV.le_refl _⟩,Q0i (by simp[leH,hget])⟩;simp only[Tryz.results25,resL,ldA,Q0z,go_sem])
end
section
open Go.RowKit
open Nat (reduceBEq)
set_option maxRecDepth 20000
set_option maxHeartbeats 2000000
theorem Q8b(x y c:Int)(hx:0≤x)(hy:0≤y)(hc0:0≤c)(hc:c≤1):Ext Tryz.prog 42 [.int .u64 x,.int .u64 y,.int .u64 c] (.tup [.c (.v (.int .u64 (smI x y c))),.c (.v (.int .u64 (cyI x y c)))]):=
 add64_ext Tryz.func42 (by kernel_rfl) (by kernel_rfl) (by kernel_rfl) (by kernel_rfl) x y c hx hy hc0 hc
theorem cy01{x y c:Int}(hx:U x)(hy:U y)(h:0≤c∧c≤1):0≤cyI x y c∧cyI x y c≤1:=by unfold U at hx hy;unfold cyI;omega
theorem X1c(a b c d e f g h:Int)(u1:U a)(u2:U b)(u3:U c)(u4:U d)(u5:U e)(u6:U f)(u7:U g)(u8:U h):Fn Tryz.prog 41 [w4 a b c d,w4 e f g h,.fn 42 []] []
 (.tup [w4 (smI a e 0) (smI b f (cyI a e 0)) (smI c g (cyI b f (cyI a e 0))) (smI d h (cyI c g (cyI b f (cyI a e 0)))),vb (cyI d h (cyI c g (cyI b f (cyI a e 0))) != 0)]) []:=by
 have c1:=cy01 u1 u5 ⟨Int.le_refl 0,by decide⟩
 have c2:=cy01 u2 u6 c1
 have c3:=cy01 u3 u7 c2
 (refine Q1c Tryz.func41 rfl (by rfl) ?_;simp only[Tryz.ntmps41,List.length_cons,List.length_nil,Nat.reduceAdd,Nat.reduceSub,List.replicate,List.cons_append,List.nil_append])
 (repeat(any_goals(first|((with_reducible refine Q0d ?_ ?_);rfl;intro K hK;simp(disch:=omega) only[go_sem,wrI,Int.reduceAdd];((repeat(refine ndI (by first|assumption|rfl) ?_));refine hK _ ?_;clear hK K))|(with_reducible first|(refine Q0c ?_;refine hR _ ?_;clear hR R)|((first|refine Q0e ?_|refine Q0g ?_);intro Ψ hΨ hΨ')|(refine Q0b ?_;intro R hR)|(refine hΨ _ ?_;clear hΨ hΨ' Ψ)|refine Q0h ?_|refine Q0l ?_|refine Q0v ?_)|((with_reducible refine hΨ' _ _ ?_ ?_);(focus(simp;done));clear hΨ hΨ' Ψ)|((with_reducible apply Q0f);rfl;rfl;all_goals(intro hc;first|(cases hc;done)|(try simp only at hc)))|(with_reducible refine Q4h 5 ?_)|((with_reducible refine Q5c ?_);intro Ψ hΨ hΨ')|((with_reducible refine Q0w ?_ ?_);kernel_rfl;(with_reducible refine hR _ ?_);clear hR R)|((first|((with_reducible apply Q1m);rfl;rfl;(first|(apply Q5m (Q8b a e 0 u1.1 u5.1 (Int.le_refl 0) (by decide));rfl;rfl;rfl;rfl;(focus(simp(disch:=omega) only[AV.ones,Option.map_some,go_sem,wrI,Int.reduceAdd];done)))|(apply Q5m (Q8b b f _ u2.1 u6.1 c1.1 c1.2);rfl;rfl;rfl;rfl;(focus(simp(disch:=omega) only[AV.ones,Option.map_some,go_sem,wrI,Int.reduceAdd];done)))|(apply Q5m (Q8b c g _ u3.1 u7.1 c2.1 c2.2);rfl;rfl;rfl;rfl;(focus(simp(disch:=omega) only[AV.ones,Option.map_some,go_sem,wrI,Int.reduceAdd];done)))|(apply Q5m (Q8b d h _ u4.1 u8.1 c3.1 c3.2);rfl;rfl;rfl;rfl;(focus(simp(disch:=omega) only[AV.ones,Option.map_some,go_sem,wrI,Int.reduceAdd];done)))))|((with_reducible apply Q0u);rfl;rfl;(simp(disch:=omega) only[rdE,rdOf,go_sem,wrI,Int.reduceAdd];rfl);(intro τ hA hQ hN;((try simp only[Q1g,Op.operands,Call.operands,go_sem,wrI,Int.reduceAdd,go_sem,List.mem_cons,List.not_mem_nil,forall_eq_or_imp,forall_eq,List.append_toArray,Option.toArray] at hA);(try simp only[go_sem,wrI,Int.reduceAdd,List.mem_cons,List.not_mem_nil,forall_eq_or_imp,forall_eq] at hQ hN);(first|(revert hA;intro hA));(first|(revert hQ;intro hQ));(first|(revert hN;intro hN));simp(disch:=omega) only[go_sem,wrI,Int.reduceAdd,go_sem,hA,hQ,hN];(repeat(refine ndI (by first|assumption|omega) ?_));(first|apply Q1d|apply Q2o)))));(simp(disch:=omega) only[St.eff,setO,Q0x,go_sem,wrI,Int.reduceAdd]))|((with_reducible refine Q0r ?_ ?_ ?_ ?_);kernel_rfl;kernel_rfl;(first|kernel_rfl);intro R hR))))
 all_goals(refine⟨by simp,⟨_,?_,AV.le_refl _⟩,Q0i (by simp[leH,hget])⟩;simp only[Tryz.results41,resL,ldA,Q0z,go_sem])
theorem add_nat{x y a0 a1 a2 a3 b0 b1 b2 b3:Nat}(hx:x=a0+18446744073709551616*(a1+18446744073709551616*(a2+18446744073709551616*a3)))(hy:y=b0+18446744073709551616*(b1+18446744073709551616*(b2+18446744073709551616*b3)))
 {s0 s1 s2 s3 c1 c2 c3 c4:Nat} (e0:a0+b0=s0+18446744073709551616*c1) (e1:a1+b1+c1=s1+18446744073709551616*c2) (e2:a2+b2+c2=s2+18446744073709551616*c3) (e3:a3+b3+c3=s3+18446744073709551616*c4)
 (h0:s0<18446744073709551616) (h1:s1<18446744073709551616) (h2:s2<18446744073709551616) (h3:s3<18446744073709551616) :
 (x+y)%WW=s0+18446744073709551616*(s1+18446744073709551616*(s2+18446744073709551616*s3))∧(x+y)/WW=c4:=by
 unfold WW
 omega
theorem X0b{a b c:Nat}:smI a b c=(((a+b+c)%18446744073709551616:Nat):Int):=by unfold smI;omega
theorem X1a{a b c:Nat}:cyI a b c=(((a+b+c)/18446744073709551616:Nat):Int):=by unfold cyI;omega
theorem add_fn(x y:Nat)(hx:x<WW)(hy:y<WW):Fn Tryz.prog 20 [wN x,wN y] [] (.tup [wN ((x+y)%WW),vb (decide (WW≤x+y))]) []:=by
 have h:=X1c (l0 x) (l1 x) (l2 x) (l3 x) (l0 y) (l1 y) (l2 y) (l3 y) (U0 x) (U1 x) (U2 x) (U3 x) (U0 y) (U1 y) (U2 y) (U3 y)
 obtain⟨a,b,c,d,ex,ha,hb,hc,hd,e0,e1,e2,e3⟩:=Q4x hx
 obtain⟨a',b',c',d',ey,ha',hb',hc',hd',f0,f1,f2,f3⟩:=Q4x hy
 rw[e0,e1,e2,e3,f0,f1,f2,f3] at h
 have z:(0:Int)=((0:Nat):Int):=rfl
 rw[z,X0b,X1a,X0b,X1a,X0b,X1a,X0b,X1a] at h
 obtain⟨s0,hs0⟩:∃s,(a+a'+0)%18446744073709551616=s:=⟨_,rfl⟩
 obtain⟨c1,hc1⟩:∃s,(a+a'+0)/18446744073709551616=s:=⟨_,rfl⟩
 rw[hs0,hc1] at h
 obtain⟨s1,hs1⟩:∃s,(b+b'+c1)%18446744073709551616=s:=⟨_,rfl⟩
 obtain⟨c2,hc2⟩:∃s,(b+b'+c1)/18446744073709551616=s:=⟨_,rfl⟩
 rw[hs1,hc2] at h
 obtain⟨s2,hs2⟩:∃s,(c+c'+c2)%18446744073709551616=s:=⟨_,rfl⟩
 obtain⟨c3,hc3⟩:∃s,(c+c'+c2)/18446744073709551616=s:=⟨_,rfl⟩
 rw[hs2,hc3] at h
 obtain⟨s3,hs3⟩:∃s,(d+d'+c3)%18446744073709551616=s:=⟨_,rfl⟩
 obtain⟨c4,hc4⟩:∃s,(d+d'+c3)/18446744073709551616=s:=⟨_,rfl⟩
 rw[hs3,hc4] at h
 have k0:s0<18446744073709551616:=by omega
 have k1:s1<18446744073709551616:=by omega
 have k2:s2<18446744073709551616:=by omega
 have k3:s3<18446744073709551616:=by omega
 obtain⟨g1,g2⟩:=add_nat ex ey (s0:=s0) (c1:=c1) (s1:=s1) (c2:=c2) (s2:=s2) (c3:=c3) (s3:=s3) (c4:=c4) (by omega) (by omega) (by omega) (by omega) k0 k1 k2 k3
 obtain⟨m0,m1,m2,m3⟩:=Q7y g1 k0 k1 k2 k3
 rw[←m0,←m1,←m2,←m3] at h
 have hq:(((c4:Nat):Int) != ((0:Nat):Int))=decide (WW≤x+y):=by
  rw[Bool.eq_iff_iff]
  simp only[bne_iff_ne,ne_eq,decide_eq_true_eq]
  rw[←g2]
  constructor
  · intro h'
    rcases Nat.lt_or_ge (x+y) WW with h|h
    · exact absurd (by rw[Nat.div_eq_of_lt h]) h'
    · exact h
  · intro h' h''
    have:0<(x+y)/WW:=Nat.div_pos h' (by decide)
    omega
 rw[hq] at h
 rw[←e0,←e1,←e2,←e3,←f0,←f1,←f2,←f3] at h
 obtain⟨q,hq'⟩:∃q,decide (WW≤x+y)=q:=⟨_,rfl⟩
 obtain⟨n,hn⟩:∃n,(x+y)%WW=n:=⟨_,rfl⟩
 rw[hq',hn] at h ⊢
 (refine Q1c Tryz.func20 rfl (by rfl) ?_;simp only[Tryz.ntmps20,List.length_cons,List.length_nil,Nat.reduceAdd,Nat.reduceSub,List.replicate,List.cons_append,List.nil_append])
 (repeat(any_goals(first|((with_reducible refine Q0p ?_ ?_ ?_);rfl;rfl;intro K hK;((apply Q0k (h);rfl;rfl;rfl;rfl;exact Tryz.func41);kernel_rfl;rfl;(focus((simp only[go_sem]);(try rfl);done));(first|rfl));(simp only[go_sem];refine hK _ ?_;clear hK K))|((with_reducible refine Q0d ?_ ?_);rfl;intro K hK;simp only[go_sem];((repeat(refine ndI (by first|assumption) ?_));refine hK _ ?_;clear hK K))|(with_reducible first|(refine Q0c ?_;refine hR _ ?_;clear hR R)|((first|refine Q0e ?_);intro Ψ hΨ hΨ')|(refine Q0b ?_;intro R hR)|(refine hΨ _ ?_;clear hΨ hΨ' Ψ)|refine Q0l ?_))))
 all_goals(refine⟨by simp,⟨_,?_,AV.le_refl _⟩,Q0i (by simp[leH,hget])⟩;simp only[Tryz.results20,resL,ldA,Q0z,go_sem])
end
end Go.Proofs.YtbmcdemnnbndeaaGreat
