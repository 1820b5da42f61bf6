/-
  Contracts that leave open which of several things comes; a loop over what such a function hands out; a call of yield that leaves iterators and maps as they are. No program in sight.
-/
import Derived.Test.YtbmcdemnnbndeaaPqk
import Derived.Sort.Walk13a
import Derived.Test.YtbmcdemnnbndeaaAvW
import Derived.Test.YtbmcdemnnbndeaaPqf
import Derived.MapKept
import Derived.WideKeyMaps
import Derived.Maps.RangeRun
namespace Go.Proofs.Ytbmcdemnnbndeaa
set_option linter.unusedSimpArgs false
set_option linter.unusedVariables false
section
open Go.RowKit
open Nat (reduceBEq)
attribute [-go_sem] IntKind.bits
set_option maxRecDepth 20000
set_option maxHeartbeats 4000000
attribute [local simp] Q0l Q0a Q0k
section
variable {P:Program} {σ : St} {Φ : Exit→St→Prop}
theorem AW.seqJ{x y:Code}(J:St)(h1:∀Ψ : Exit→St→Prop,(∀σ',σ'.le J→Ψ .normal σ')→(∀ex σ',ex≠.normal→Φ ex σ'→Ψ ex σ')→evC P x σ Ψ)(h2:AW P y J Φ):AW P (.seq x y) σ Φ:=by
 have h:=Q2g _ _ _ (h1 (fun ex σ'=>match ex with | .normal=>σ'.le J|ex=>Φ ex σ') (fun σ' h=>h) (fun ex σ' hne h=>by cases ex<;>first|exact absurd rfl hne|exact h))
 intro E ι a w hc
 refine wp_seq (wp_mono (h E ι a w hc) fun ex a' w'=>?_)
 rintro ⟨ι',σ',hc',hq⟩
 cases ex with
 |normal=>exact h2 E ι' a' w' (hc'.le hq)
 |_=>exact⟨ι',σ',hc',hq⟩
theorem AW.blk{id:Nat}{x:Code}(h:∀Ψ : Exit→St→Prop,(∀σ',Φ .normal σ'→Ψ (.exit id) σ')→(∀ex σ',(∀j,ex = .exit j→j≠id)→Φ ex σ'→Ψ ex σ')→AW P x σ Ψ):AW P (.block id x) σ Φ:=by
 intro E ι a w hc
 have h:=h (fun ex σ'=>match ex with | .exit j=>if j=id then Φ .normal σ' else Φ (.exit j) σ'|ex=>Φ ex σ') (fun σ' h=>by simp only[↓reduceIte];exact h)
  (fun ex σ' hne h=>by
    cases ex with
    |exit j=>simp only;rw[if_neg (hne j rfl)];exact h
    |_=>exact h)
 refine wp_block (wp_mono (h E ι a w hc) fun ex a' w'=>?_)
 rintro ⟨ι',σ',hc',hΦ⟩
 cases ex with
 |exit j=>
  unfold Exit.inBlock
  simp only at hΦ ⊢
  split at hΦ
  · rename_i e;rw[if_pos e];exact⟨ι',σ',hc',hΦ⟩
  · rename_i e;rw[if_neg e];exact⟨ι',σ',hc',hΦ⟩
 |_=>exact⟨ι',σ',hc',hΦ⟩
theorem AW.loopA{c:Code}{α : Type}(I:α→St)(μ : α→Nat)(x0:α)(h0:σ.le (I x0))
 (round:∀x,∀Ψ : Exit→St→Prop,(∀σ' y,μ y < μ x→σ'.le (I y)→Ψ .normal σ')→(∀ex σ',ex≠.normal→Φ ex σ'→Ψ ex σ')→AW P c (I x) Ψ):AW P (.loop c) σ Φ:=by
 intro E ι a w hc b k cs
 have key:∀n x ι a w,μ x=n→Conc E ι (I x) a w→∃e a' w',(∃ι' σ',Conc E ι' σ' a' w'∧Φ e σ')∧Arrives P (lone (b.at a (.code c :: .inLoop c::k)) cs w) b k cs e a' w':=by
  intro n
  induction n using Nat.strongRecOn with
  |_ n ih=>
   intro x ι a w hn hI
   obtain⟨e,a₁,w₁,⟨ι₁,σ₁,hc₁,hq⟩,harr⟩:=round x (fun ex σ'=>match ex with | .normal=>∃y,μ y < μ x∧σ'.le (I y)|ex=>Φ ex σ') (fun σ' y h1 h2=>⟨y,h1,h2⟩) (fun ex σ' hne h=>by cases ex<;>first|exact absurd rfl hne|exact h) E ι a w hI b (.inLoop c::k) cs
   cases e with
   |normal=>
    obtain⟨y,hlt,hle⟩:=hq
    obtain⟨e₂,a₂,w₂,hq₂,harr₂⟩:=ih (μ y) (hn▸hlt) y ι₁ a₁ w₁ rfl (hc₁.le hle)
    exact⟨e₂,a₂,w₂,hq₂,.of_steps (Steps.trans harr (.one step_inLoop)) harr₂⟩
   |exit id=>exact⟨_,a₁,w₁,⟨ι₁,σ₁,hc₁,hq⟩,.pass (x:=.inLoop c) rfl (fun _ _=>.inl (by simp)) harr⟩
   |goto l=>exact⟨_,a₁,w₁,⟨ι₁,σ₁,hc₁,hq⟩,.pass (x:=.inLoop c) rfl (fun _ _=>.inl (by simp)) harr⟩
   |ret=>exact⟨_,a₁,w₁,⟨ι₁,σ₁,hc₁,hq⟩,.pass (x:=.inLoop c) rfl (fun _ _=>.inl (by simp)) harr⟩
   |panic ch=>exact⟨_,a₁,w₁,⟨ι₁,σ₁,hc₁,hq⟩,.pass (x:=.inLoop c) rfl (fun _ _=>.inl (by simp)) harr⟩
   |outgrown=>exact⟨_,a₁,w₁,⟨ι₁,σ₁,hc₁,hq⟩,.pass (x:=.inLoop c) rfl (fun _ _=>.inl (by simp)) harr⟩
 obtain⟨e,a',w',hq,harr⟩:=key _ x0 ι a w rfl (hc.le h0)
 exact⟨e,a',w',hq,.of_steps (.one step_loop) harr⟩
end
theorem swoI:Sort.SWO ltI:=⟨fun x=>by simp,fun x y z h1 h2=>by simp at h1 h2 ⊢;omega,fun x y z h1 h2=>by simp at h1 h2 ⊢;omega⟩
structure QS where
 a:Nat
 b:Nat
 l:Nat
 w:Bool
 p:Bool
 d:Array Int
abbrev stQ0(n:Nat)(q:QS):St:=⟨[.row 1000 adT 1 n,vi .i64 (q.a:Int),vi .i64 (q.b:Int),vi .i64 (q.l:Int),.any,.any,.any,.any,vb q.w,vb q.p,.any,.any,.any,.any,.any,.any,.any,.any,.any,.any,.any,.any,.any,.any,.any,.any,.any,.any,.any,.any,.any,.any,.any,.any,.any,.any,.any,.any,.any,.any,.any,.any,.any,.any,.any,.any,.any,.any,.any,.any,.any,.any,.any,.any,.any,.any,.any,.any,.any,.any,.any,.any,.any,.any,.any,.any,.any,.any,.any,.any,.any,.any,.any,.any,.any,.any,.any,.any,.any,.any,.any,.any,.any,.any,.any,.any,.any,.any,.any,.any,.any,.any,.any,.any,.any,.any,.any,.any,.any,.any,.any,.any,.any,.any,.any,.any,.any,.any,.any,.any,.any,.any,.any,.any,.any,.any,.any,.any,.any,.any,.any,.any,.any,.any,.any,.any,.any,.any,.any,.any,.any,.any,.any,.any],[(1000,rI q.d)]⟩
abbrev stQ1(n a b l c:Nat)(w p:Bool)(d:Array Int):St:=⟨[.row 1000 adT 1 n,vi .i64 (a:Int),vi .i64 (b:Int),vi .i64 (l:Int),.any,.any,.any,.any,vb w,vb p,vi .i64 (c:Int),.any,.any,.any,.any,.any,.any,.any,.any,.any,.any,.any,.any,.any,.any,.any,.any,.any,.any,.any,.any,.any,.any,.any,.any,.any,.any,.any,.any,.any,.any,.any,.any,.any,.any,.any,.any,.any,.any,.any,.any,.any,.any,.any,.any,.any,.any,.any,.any,.any,.any,.any,.any,.any,.any,.any,.any,.any,.any,.any,.any,.any,.any,.any,.any,.any,.any,.any,.any,.any,.any,.any,.any,.any,.any,.any,.any,.any,.any,.any,.any,.any,.any,.any,.any,.any,.any,.any,.any,.any,.any,.any,.any,.any,.any,.any,.any,.any,.any,.any,.any,.any,.any,.any,.any,.any,.any,.any,.any,.any,.any,.any,.any,.any,.any,.any,.any,.any,.any,.any,.any,.any,.any,.any],[(1000,rI d)]⟩
abbrev stQ2(n a b l c:Nat)(w p:Bool)(d:Array Int)(v:Nat)(h:Int):St:=⟨[.row 1000 adT 1 n,vi .i64 (a:Int),vi .i64 (b:Int),vi .i64 (l:Int),.any,.any,.any,.any,vb w,vb p,vi .i64 (c:Int),vi .i64 (v:Int),vi .i64 h,.any,.any,.any,.any,.any,.any,.any,.any,.any,.any,.any,.any,.any,.any,.any,.any,.any,.any,.any,.any,.any,.any,.any,.any,.any,.any,.any,.any,.any,.any,.any,.any,.any,.any,.any,.any,.any,.any,.any,.any,.any,.any,.any,.any,.any,.any,.any,.any,.any,.any,.any,.any,.any,.any,.any,.any,.any,.any,.any,.any,.any,.any,.any,.any,.any,.any,.any,.any,.any,.any,.any,.any,.any,.any,.any,.any,.any,.any,.any,.any,.any,.any,.any,.any,.any,.any,.any,.any,.any,.any,.any,.any,.any,.any,.any,.any,.any,.any,.any,.any,.any,.any,.any,.any,.any,.any,.any,.any,.any,.any,.any,.any,.any,.any,.any,.any,.any,.any,.any,.any,.any],[(1000,rI d)]⟩
theorem pdq_fn(n:Nat)(hn:n≤1000000):∀(m a b l:Nat) (d:Array Int),b-a≤m→a≤b→b≤n→l≤64→d.size=n→Sort.Below ltI a b d→Fn Try.prog 52 [.row 1000 adT 1 n,vi .i64 (a:Int),vi .i64 (b:Int),vi .i64 (l:Int)] [(1000,rI d)] (.tup []) [(1000,rI (Sort.pdq ltI d a b l true true))]:=by
 intro m
 induction m with
 |zero=>
  intro a b l d h1 h2 h3 h4 h5 h6
  have g:=ins_fn n a b h2 h3 hn d h5
  rw[Sort.pdq_small (by omega)]
  have k1:decide (((b-a:Nat):Int)≤12)=true:=decide_eq_true (by omega)
  have w1:(b:Int)-(a:Int)=((b-a:Nat):Int):=by omega
  (refine Q1q Try.func52 rfl (by rfl) ?_;simp only[Try.ntmps52,List.length_cons,List.length_nil,Nat.reduceAdd,Nat.reduceSub,List.replicate,List.cons_append,List.nil_append])
  refine Q0h ?_;intro Ψ hΨ hΨ'
  (repeat(any_goals(first|((with_reducible refine Q0g ?_ ?_);rfl;intro K hK;simp(disch:=omega) only[go_sem];((repeat(refine ndI (by first|assumption|omega|rfl) ?_));refine hK _ ?_;clear hK K))|(with_reducible first|(refine Q0i ?_;refine hR _ ?_;clear hR R)|((first|refine Q0h ?_|refine Q0c ?_);intro Ψ hΨ hΨ')|(refine Q0b ?_;intro R hR)|(refine hΨ _ ?_;clear hΨ hΨ' Ψ)|refine Q0d ?_|refine Q0j ?_|refine Q0e ?_)|((with_reducible refine hΨ' _ _ ?_ ?_);(focus(simp;done));clear hΨ hΨ' Ψ)|((with_reducible apply Q1e);rfl;rfl;rfl;(try simp(disch:=omega) only[go_sem]))|((with_reducible apply Q1l);rfl;rfl;rfl;all_goals(intro hb;first|(cases hb;done)|((try simp only[Bool.not_true,Bool.not_false] at hb);(first|((with_reducible intro K hK);simp(disch:=omega) only[go_sem];((repeat(refine ndI (by first|assumption|omega|rfl) ?_));refine hK _ ?_;clear hK K))|((fail_if_success (with_reducible intro _));simp(disch:=omega) only[go_sem])))))|((with_reducible apply Q0f);rfl;rfl;all_goals(intro hc;first|(cases hc;done)|(try simp only at hc)))|((with_reducible refine Q0t ?_ ?_);kernel_rfl;(with_reducible refine hR _ ?_);clear hR R)|((first|((with_reducible apply Q0r);rfl;rfl;rfl;rfl)|((with_reducible apply Q0n);rfl;rfl;rfl)|((first|((with_reducible apply Q0u);rfl;rfl)|((with_reducible apply Q0s);rfl;rfl;rfl;rfl;rfl));(simp(disch:=omega) only[rdE,rdOf,go_sem];rfl);(intro τ hA hQ hN;((try simp only[Q1h,Op.operands,Call.operands,go_sem,List.mem_cons,List.not_mem_nil,forall_eq_or_imp,forall_eq,List.append_toArray,Option.toArray] at hA);(try simp only[go_sem,List.mem_cons,List.not_mem_nil,forall_eq_or_imp,forall_eq] at hQ hN);(first|(revert hA;intro hA)|have hA:=trivial);(first|(revert hQ;intro hQ)|have hQ:=trivial);(first|(revert hN;intro hN)|have hN:=trivial);simp(disch:=omega) only[go_sem,hA,hQ,hN];(repeat(refine ndI (by first|assumption|omega|rfl) ?_));(first|apply Q1b|apply Q1a|apply Q0w)))));(simp(disch:=omega) only[St.eff,setO,Q0q,go_sem]))|((with_reducible apply Q0o);rfl;rfl;rfl;all_goals intro hb;all_goals(simp(disch:=omega) only[St.eff,setO,Q0q,go_sem]))|((with_reducible refine Q0p ?_ ?_ ?_ ?_);kernel_rfl;kernel_rfl;(first|kernel_rfl|simp[Q0m,Q1j,St.free,Q1i,AV.refsL,AV.refs]);intro R hR))))
  refine Q2v (α:=Unit) (fun _=>stQ0 n ⟨a,b,l,true,true,d⟩) (fun _=>0) () (St.le_of (by simp[leT]) (by simp[leH,hget])) ?_
  rintro ⟨⟩ Ψ hΨ hΨ'
  (have W:=ndI k1 (ndI w1 @wrI);(repeat(any_goals(first|((with_reducible refine Q1d ?_ ?_ ?_);rfl;rfl;intro K hK;(apply Q1n (g) (fun r=>r);rfl;rfl;rfl;rfl;exact Try.func64;kernel_rfl;rfl;rfl;(intro r hr q hq h;simp(disch:=omega) only[List.map_cons,List.map_nil,List.cons_append,List.nil_append,List.mem_cons,List.not_mem_nil,or_false] at hr hq;(try dsimp only at h);first|omega|(rcases hr with rfl|rfl|rfl<;>rcases hq with rfl|rfl|rfl<;>simp at h ⊢)|(rcases hr with rfl|rfl<;>rcases hq with rfl|rfl<;>simp at h ⊢)|((repeat' split at h)<;>omega));(simp(disch:=omega) only[Q1t,Q2h,AV.ren,AV.renL,Q1c,List.mem_cons,List.not_mem_nil,forall_eq_or_imp,forall_eq,Q2d,List.contains_cons,List.contains_nil,AV.refsL,AV.refs,Q0z,AV.inN,AV.inNL,inH,Q1k,go_sem,W,Q0l,Q0k,Q0a,Nat.mul_one]));(simp(disch:=omega) only[Q0q,Q2k,renH,AV.ren,AV.renL,Q1c,go_sem,W,Q0l,Q0k,Q0a,Nat.mul_one];refine hK _ ?_;clear hK K))|((with_reducible refine Q0g ?_ ?_);rfl;intro K hK;simp(disch:=omega) only[go_sem,W,Q0l,Q0k,Q0a,Nat.mul_one];((repeat(refine ndI (by first|assumption|omega|rfl) ?_));refine hK _ ?_;clear hK K))|(with_reducible first|(refine Q0i ?_;refine hR _ ?_;clear hR R)|((first|refine Q0h ?_|refine Q0c ?_);intro Ψ hΨ hΨ')|(refine Q0b ?_;intro R hR)|(refine hΨ _ ?_;clear hΨ hΨ' Ψ)|refine Q0d ?_|refine Q0j ?_|refine Q0e ?_)|((with_reducible refine hΨ' _ _ ?_ ?_);(focus(simp;done));clear hΨ hΨ' Ψ)|((with_reducible apply Q1e);rfl;rfl;rfl;(try simp(disch:=omega) only[go_sem,W,Q0l,Q0k,Q0a,Nat.mul_one]))|((with_reducible apply Q1l);rfl;rfl;rfl;all_goals(intro hb;first|(cases hb;done)|((try simp only[Bool.not_true,Bool.not_false] at hb);(first|((with_reducible intro K hK);simp(disch:=omega) only[go_sem,W,Q0l,Q0k,Q0a,Nat.mul_one];((repeat(refine ndI (by first|assumption|omega|rfl) ?_));refine hK _ ?_;clear hK K))|((fail_if_success (with_reducible intro _));simp(disch:=omega) only[go_sem,W,Q0l,Q0k,Q0a,Nat.mul_one])))))|((with_reducible apply Q0f);rfl;rfl;all_goals(intro hc;first|(cases hc;done)|(try simp only at hc)))|((with_reducible refine Q0t ?_ ?_);kernel_rfl;(with_reducible refine hR _ ?_);clear hR R)|((first|((with_reducible apply Q0r);rfl;rfl;rfl;rfl)|((with_reducible apply Q0n);rfl;rfl;rfl)|((first|((with_reducible apply Q0u);rfl;rfl)|((with_reducible apply Q0s);rfl;rfl;rfl;rfl;rfl));(simp(disch:=omega) only[rdE,rdOf,go_sem,W,Q0l,Q0k,Q0a,Nat.mul_one];rfl);(intro τ hA hQ hN;((try simp only[Q1h,Op.operands,Call.operands,go_sem,W,Q0l,Q0k,Q0a,Nat.mul_one,go_sem,List.mem_cons,List.not_mem_nil,forall_eq_or_imp,forall_eq,List.append_toArray,Option.toArray] at hA);(try simp only[go_sem,W,Q0l,Q0k,Q0a,Nat.mul_one,List.mem_cons,List.not_mem_nil,forall_eq_or_imp,forall_eq] at hQ hN);(first|(revert hA;intro hA)|have hA:=trivial);(first|(revert hQ;intro hQ)|have hQ:=trivial);(first|(revert hN;intro hN)|have hN:=trivial);simp(disch:=omega) only[go_sem,W,Q0l,Q0k,Q0a,Nat.mul_one,go_sem,hA,hQ,hN];(repeat(refine ndI (by first|assumption|omega|rfl) ?_));(first|apply Q1b|apply Q1a|apply Q0w)))));(simp(disch:=omega) only[St.eff,setO,Q0q,go_sem,W,Q0l,Q0k,Q0a,Nat.mul_one]))|((with_reducible apply Q0o);rfl;rfl;rfl;all_goals intro hb;all_goals(simp(disch:=omega) only[St.eff,setO,Q0q,go_sem,W,Q0l,Q0k,Q0a,Nat.mul_one]))|((with_reducible refine Q0p ?_ ?_ ?_ ?_);kernel_rfl;kernel_rfl;(first|kernel_rfl|simp[Q0m,Q1j,St.free,Q1i,AV.refsL,AV.refs]);intro R hR)))))
  all_goals(refine⟨by simp,⟨_,?_,AV.le_refl _⟩,Q0y (by simp[leH,hget])⟩;simp only[Try.results52,resL,ldA,Q1o,go_sem])
 |succ m ih=>
 intro a0 b0 l0 d0 h1 h2 h3 h4 h5 h6
 obtain⟨res,hres⟩:∃q,Sort.pdq ltI d0 a0 b0 l0 true true=q:=⟨_,rfl⟩
 rw[hres]
 (refine Q1q Try.func52 rfl (by rfl) ?_;simp only[Try.ntmps52,List.length_cons,List.length_nil,Nat.reduceAdd,Nat.reduceSub,List.replicate,List.cons_append,List.nil_append])
 (repeat(any_goals(first|((with_reducible refine Q0g ?_ ?_);rfl;intro K hK;simp(disch:=omega) only[go_sem];((repeat(refine ndI (by first|assumption|omega|rfl) ?_));refine hK _ ?_;clear hK K))|(with_reducible first|(refine Q0i ?_;refine hR _ ?_;clear hR R)|((first|refine Q0h ?_|refine Q0c ?_);intro Ψ hΨ hΨ')|(refine Q0b ?_;intro R hR)|(refine hΨ _ ?_;clear hΨ hΨ' Ψ)|refine Q0d ?_|refine Q0j ?_|refine Q0e ?_)|((with_reducible refine hΨ' _ _ ?_ ?_);(focus(simp;done));clear hΨ hΨ' Ψ)|((with_reducible apply Q1e);rfl;rfl;rfl;(try simp(disch:=omega) only[go_sem]))|((with_reducible apply Q1l);rfl;rfl;rfl;all_goals(intro hb;first|(cases hb;done)|((try simp only[Bool.not_true,Bool.not_false] at hb);(first|((with_reducible intro K hK);simp(disch:=omega) only[go_sem];((repeat(refine ndI (by first|assumption|omega|rfl) ?_));refine hK _ ?_;clear hK K))|((fail_if_success (with_reducible intro _));simp(disch:=omega) only[go_sem])))))|((with_reducible apply Q0f);rfl;rfl;all_goals(intro hc;first|(cases hc;done)|(try simp only at hc)))|((with_reducible refine Q0t ?_ ?_);kernel_rfl;(with_reducible refine hR _ ?_);clear hR R)|((first|((with_reducible apply Q0r);rfl;rfl;rfl;rfl)|((with_reducible apply Q0n);rfl;rfl;rfl)|((first|((with_reducible apply Q0u);rfl;rfl)|((with_reducible apply Q0s);rfl;rfl;rfl;rfl;rfl));(simp(disch:=omega) only[rdE,rdOf,go_sem];rfl);(intro τ hA hQ hN;((try simp only[Q1h,Op.operands,Call.operands,go_sem,List.mem_cons,List.not_mem_nil,forall_eq_or_imp,forall_eq,List.append_toArray,Option.toArray] at hA);(try simp only[go_sem,List.mem_cons,List.not_mem_nil,forall_eq_or_imp,forall_eq] at hQ hN);(first|(revert hA;intro hA)|have hA:=trivial);(first|(revert hQ;intro hQ)|have hQ:=trivial);(first|(revert hN;intro hN)|have hN:=trivial);simp(disch:=omega) only[go_sem,hA,hQ,hN];(repeat(refine ndI (by first|assumption|omega|rfl) ?_));(first|apply Q1b|apply Q1a|apply Q0w)))));(simp(disch:=omega) only[St.eff,setO,Q0q,go_sem]))|((with_reducible apply Q0o);rfl;rfl;rfl;all_goals intro hb;all_goals(simp(disch:=omega) only[St.eff,setO,Q0q,go_sem]))|((with_reducible refine Q0p ?_ ?_ ?_ ?_);kernel_rfl;kernel_rfl;(first|kernel_rfl|simp[Q0m,Q1j,St.free,Q1i,AV.refsL,AV.refs]);intro R hR))))
 unfold evC
 refine AW.loopA (α:={q:QS // q.a≤q.b∧q.b≤n∧q.b-q.a≤m+1∧q.l≤64∧q.d.size=n∧Sort.Below ltI q.a q.b q.d∧Sort.pdq ltI q.d q.a q.b q.l q.w q.p=res}) (fun q=>stQ0 n q.1) (fun q=>q.1.b-q.1.a) ⟨⟨a0,b0,l0,true,true,d0⟩,h2,h3,h1,h4,h5,h6,hres⟩ (St.le_of (by simp[leT]) (by simp[leH,hget])) ?_
 rintro ⟨⟨a,b,l,wb,wp,d⟩,g1,g2,g3,g4,hs,hB,hq⟩ Ψ hN hΨ'
 (try dsimp only at g1 g2 g3 g4 hs hB hq hN ⊢)
 have hΨ:=trivial
 clear hres h1 h2 h3 h4 h5 h6
 have w1:(b:Int)-(a:Int)=((b-a:Nat):Int):=by omega
 by_cases h12:b-a≤12
 · have g:=ins_fn n a b g1 g2 hn d hs
   rw[Sort.pdq_small h12] at hq
   rw[hq] at g
   clear hq hN
   have k1:decide (((b-a:Nat):Int)≤12)=true:=decide_eq_true (by omega)
   refine Q2g _ _ _ ?_
   (have W:=ndI k1 (ndI w1 @wrI);(repeat(any_goals(first|((with_reducible refine Q1d ?_ ?_ ?_);rfl;rfl;intro K hK;(apply Q1n (g) (fun r=>r);rfl;rfl;rfl;rfl;exact Try.func64;kernel_rfl;rfl;rfl;(intro r hr q hq h;simp(disch:=omega) only[List.map_cons,List.map_nil,List.cons_append,List.nil_append,List.mem_cons,List.not_mem_nil,or_false] at hr hq;(try dsimp only at h);first|omega|(rcases hr with rfl|rfl|rfl<;>rcases hq with rfl|rfl|rfl<;>simp at h ⊢)|(rcases hr with rfl|rfl<;>rcases hq with rfl|rfl<;>simp at h ⊢)|((repeat' split at h)<;>omega));(simp(disch:=omega) only[Q1t,Q2h,AV.ren,AV.renL,Q1c,List.mem_cons,List.not_mem_nil,forall_eq_or_imp,forall_eq,Q2d,List.contains_cons,List.contains_nil,AV.refsL,AV.refs,Q0z,AV.inN,AV.inNL,inH,Q1k,go_sem,W,Q0l,Q0k,Q0a,Nat.mul_one]));(simp(disch:=omega) only[Q0q,Q2k,renH,AV.ren,AV.renL,Q1c,go_sem,W,Q0l,Q0k,Q0a,Nat.mul_one];refine hK _ ?_;clear hK K))|((with_reducible refine Q0g ?_ ?_);rfl;intro K hK;simp(disch:=omega) only[go_sem,W,Q0l,Q0k,Q0a,Nat.mul_one];((repeat(refine ndI (by first|assumption|omega|rfl) ?_));refine hK _ ?_;clear hK K))|(with_reducible first|(refine Q0i ?_;refine hR _ ?_;clear hR R)|((first|refine Q0h ?_|refine Q0c ?_);intro Ψ hΨ hΨ')|(refine Q0b ?_;intro R hR)|(refine hΨ _ ?_;clear hΨ hΨ' Ψ)|refine Q0d ?_|refine Q0j ?_|refine Q0e ?_)|((with_reducible refine hΨ' _ _ ?_ ?_);(focus(simp;done));clear hΨ hΨ' Ψ)|((with_reducible apply Q1e);rfl;rfl;rfl;(try simp(disch:=omega) only[go_sem,W,Q0l,Q0k,Q0a,Nat.mul_one]))|((with_reducible apply Q1l);rfl;rfl;rfl;all_goals(intro hb;first|(cases hb;done)|((try simp only[Bool.not_true,Bool.not_false] at hb);(first|((with_reducible intro K hK);simp(disch:=omega) only[go_sem,W,Q0l,Q0k,Q0a,Nat.mul_one];((repeat(refine ndI (by first|assumption|omega|rfl) ?_));refine hK _ ?_;clear hK K))|((fail_if_success (with_reducible intro _));simp(disch:=omega) only[go_sem,W,Q0l,Q0k,Q0a,Nat.mul_one])))))|((with_reducible apply Q0f);rfl;rfl;all_goals(intro hc;first|(cases hc;done)|(try simp only at hc)))|((with_reducible refine Q0t ?_ ?_);kernel_rfl;(with_reducible refine hR _ ?_);clear hR R)|((first|((with_reducible apply Q0r);rfl;rfl;rfl;rfl)|((with_reducible apply Q0n);rfl;rfl;rfl)|((first|((with_reducible apply Q0u);rfl;rfl)|((with_reducible apply Q0s);rfl;rfl;rfl;rfl;rfl));(simp(disch:=omega) only[rdE,rdOf,go_sem,W,Q0l,Q0k,Q0a,Nat.mul_one];rfl);(intro τ hA hQ hN;((try simp only[Q1h,Op.operands,Call.operands,go_sem,W,Q0l,Q0k,Q0a,Nat.mul_one,go_sem,List.mem_cons,List.not_mem_nil,forall_eq_or_imp,forall_eq,List.append_toArray,Option.toArray] at hA);(try simp only[go_sem,W,Q0l,Q0k,Q0a,Nat.mul_one,List.mem_cons,List.not_mem_nil,forall_eq_or_imp,forall_eq] at hQ hN);(first|(revert hA;intro hA)|have hA:=trivial);(first|(revert hQ;intro hQ)|have hQ:=trivial);(first|(revert hN;intro hN)|have hN:=trivial);simp(disch:=omega) only[go_sem,W,Q0l,Q0k,Q0a,Nat.mul_one,go_sem,hA,hQ,hN];(repeat(refine ndI (by first|assumption|omega|rfl) ?_));(first|apply Q1b|apply Q1a|apply Q0w)))));(simp(disch:=omega) only[St.eff,setO,Q0q,go_sem,W,Q0l,Q0k,Q0a,Nat.mul_one]))|((with_reducible apply Q0o);rfl;rfl;rfl;all_goals intro hb;all_goals(simp(disch:=omega) only[St.eff,setO,Q0q,go_sem,W,Q0l,Q0k,Q0a,Nat.mul_one]))|((with_reducible refine Q0p ?_ ?_ ?_ ?_);kernel_rfl;kernel_rfl;(first|kernel_rfl|simp[Q0m,Q1j,St.free,Q1i,AV.refsL,AV.refs]);intro R hR)))))
   all_goals(refine⟨by simp,⟨_,?_,AV.le_refl _⟩,Q0y (by simp[leH,hget])⟩;simp only[Try.results52,resL,ldA,Q1o,go_sem])
 have k1:decide (((b-a:Nat):Int)≤12)=false:=decide_eq_false (by omega)
 by_cases hl0:l=0
 · have g:=heap_fn n a b g1 g2 hn d hs
   rw[Sort.pdq_heap h12 hl0] at hq
   rw[hq] at g
   clear hq hN
   have k2:((l:Int)==0)=true:=by simp[hl0]
   refine Q2g _ _ _ ?_
   (have W:=ndI k1 (ndI k2 (ndI w1 @wrI));(repeat(any_goals(first|((with_reducible refine Q1d ?_ ?_ ?_);rfl;rfl;intro K hK;(apply Q1n (g) (fun r=>r);rfl;rfl;rfl;rfl;exact Try.func65;kernel_rfl;rfl;rfl;(intro r hr q hq h;simp(disch:=omega) only[List.map_cons,List.map_nil,List.cons_append,List.nil_append,List.mem_cons,List.not_mem_nil,or_false] at hr hq;(try dsimp only at h);first|omega|(rcases hr with rfl|rfl|rfl<;>rcases hq with rfl|rfl|rfl<;>simp at h ⊢)|(rcases hr with rfl|rfl<;>rcases hq with rfl|rfl<;>simp at h ⊢)|((repeat' split at h)<;>omega));(simp(disch:=omega) only[Q1t,Q2h,AV.ren,AV.renL,Q1c,List.mem_cons,List.not_mem_nil,forall_eq_or_imp,forall_eq,Q2d,List.contains_cons,List.contains_nil,AV.refsL,AV.refs,Q0z,AV.inN,AV.inNL,inH,Q1k,go_sem,W,Q0l,Q0k,Q0a,Nat.mul_one]));(simp(disch:=omega) only[Q0q,Q2k,renH,AV.ren,AV.renL,Q1c,go_sem,W,Q0l,Q0k,Q0a,Nat.mul_one];refine hK _ ?_;clear hK K))|((with_reducible refine Q0g ?_ ?_);rfl;intro K hK;simp(disch:=omega) only[go_sem,W,Q0l,Q0k,Q0a,Nat.mul_one];((repeat(refine ndI (by first|assumption|omega|rfl) ?_));refine hK _ ?_;clear hK K))|(with_reducible first|(refine Q0i ?_;refine hR _ ?_;clear hR R)|((first|refine Q0h ?_|refine Q0c ?_);intro Ψ hΨ hΨ')|(refine Q0b ?_;intro R hR)|(refine hΨ _ ?_;clear hΨ hΨ' Ψ)|refine Q0d ?_|refine Q0j ?_|refine Q0e ?_)|((with_reducible refine hΨ' _ _ ?_ ?_);(focus(simp;done));clear hΨ hΨ' Ψ)|((with_reducible apply Q1e);rfl;rfl;rfl;(try simp(disch:=omega) only[go_sem,W,Q0l,Q0k,Q0a,Nat.mul_one]))|((with_reducible apply Q1l);rfl;rfl;rfl;all_goals(intro hb;first|(cases hb;done)|((try simp only[Bool.not_true,Bool.not_false] at hb);(first|((with_reducible intro K hK);simp(disch:=omega) only[go_sem,W,Q0l,Q0k,Q0a,Nat.mul_one];((repeat(refine ndI (by first|assumption|omega|rfl) ?_));refine hK _ ?_;clear hK K))|((fail_if_success (with_reducible intro _));simp(disch:=omega) only[go_sem,W,Q0l,Q0k,Q0a,Nat.mul_one])))))|((with_reducible apply Q0f);rfl;rfl;all_goals(intro hc;first|(cases hc;done)|(try simp only at hc)))|((with_reducible refine Q0t ?_ ?_);kernel_rfl;(with_reducible refine hR _ ?_);clear hR R)|((first|((with_reducible apply Q0r);rfl;rfl;rfl;rfl)|((with_reducible apply Q0n);rfl;rfl;rfl)|((first|((with_reducible apply Q0u);rfl;rfl)|((with_reducible apply Q0s);rfl;rfl;rfl;rfl;rfl));(simp(disch:=omega) only[rdE,rdOf,go_sem,W,Q0l,Q0k,Q0a,Nat.mul_one];rfl);(intro τ hA hQ hN;((try simp only[Q1h,Op.operands,Call.operands,go_sem,W,Q0l,Q0k,Q0a,Nat.mul_one,go_sem,List.mem_cons,List.not_mem_nil,forall_eq_or_imp,forall_eq,List.append_toArray,Option.toArray] at hA);(try simp only[go_sem,W,Q0l,Q0k,Q0a,Nat.mul_one,List.mem_cons,List.not_mem_nil,forall_eq_or_imp,forall_eq] at hQ hN);(first|(revert hA;intro hA)|have hA:=trivial);(first|(revert hQ;intro hQ)|have hQ:=trivial);(first|(revert hN;intro hN)|have hN:=trivial);simp(disch:=omega) only[go_sem,W,Q0l,Q0k,Q0a,Nat.mul_one,go_sem,hA,hQ,hN];(repeat(refine ndI (by first|assumption|omega|rfl) ?_));(first|apply Q1b|apply Q1a|apply Q0w)))));(simp(disch:=omega) only[St.eff,setO,Q0q,go_sem,W,Q0l,Q0k,Q0a,Nat.mul_one]))|((with_reducible apply Q0o);rfl;rfl;rfl;all_goals intro hb;all_goals(simp(disch:=omega) only[St.eff,setO,Q0q,go_sem,W,Q0l,Q0k,Q0a,Nat.mul_one]))|((with_reducible refine Q0p ?_ ?_ ?_ ?_);kernel_rfl;kernel_rfl;(first|kernel_rfl|simp[Q0m,Q1j,St.free,Q1i,AV.refsL,AV.refs]);intro R hR)))))
   all_goals(refine⟨by simp,⟨_,?_,AV.le_refl _⟩,Q0y (by simp[leH,hget])⟩;simp only[Try.results52,resL,ldA,Q1o,go_sem])
 have k2:((l:Int)==0)=false:=by simp;omega
 obtain⟨r,hr⟩:∃r,Sort.rd ltI d a b l wb wp=r:=⟨_,rfl⟩
 obtain⟨s1,B1,hc1,s2,B2,hpv,s3,B3⟩:=Sort.rd_facts (limit:=l) (wb:=wb) (wp:=wp) swoI Sort.partialInsertionSort_holds Sort.reverseRange_holds (show a<b by omega) (show b≤d.size by omega) hB
 have q1:=Sort.pdq_done (lt:=ltI) (d:=d) (wb:=wb) (wp:=wp) h12 hl0
 have q2:=Sort.pdq_eq (lt:=ltI) (d:=d) (wb:=wb) (wp:=wp) h12 hl0
 have q3:=Sort.pdq_left (lt:=ltI) (d:=d) (wb:=wb) (wp:=wp) h12 hl0
 have q4:=Sort.pdq_right (lt:=ltI) (d:=d) (wb:=wb) (wp:=wp) h12 hl0
 have rc:=Sort.rd_c (lt:=ltI) (d:=d) (a:=a) (b:=b) (limit:=l) (wb:=wb) (wp:=wp)
 have rl:=Sort.rd_lim_le (lt:=ltI) (d:=d) (a:=a) (b:=b) (limit:=l) (wb:=wb) (wp:=wp)
 have rdec:=Sort.rd_dec (lt:=ltI) (d:=d) (a:=a) (b:=b) (limit:=l) (wb:=wb) (wp:=wp)
 have rnot:=Sort.rd_not (lt:=ltI) (d:=d) (a:=a) (b:=b) (limit:=l) (wb:=wb) (wp:=wp)
 have rpy:=Sort.rd_pi_yes (lt:=ltI) (d:=d) (a:=a) (b:=b) (limit:=l) (wb:=wb) (wp:=wp)
 have rpn:=Sort.rd_pi_no (lt:=ltI) (d:=d) (a:=a) (b:=b) (limit:=l) (wb:=wb) (wp:=wp)
 rw[hq] at q1 q2 q3 q4
 rw[hr] at s1 B1 hc1 s2 B2 hpv s3 B3 q1 q2 q3 q4 rc rl rdec rnot rpy rpn
 rw[hs] at s1 s2 s3
 clear hq
 have Hc:=fun (_:1=1)=>rc
 clear rc
 obtain⟨c0,hc0⟩:∃c,b-a=c:=⟨_,rfl⟩
 rw[hc0] at k1 w1
 have w2:((l:Int))-1=((l-1:Nat):Int):=by omega
 refine AW.blk ?_
 intro Ψ hΨ hΨ'
 refine AW.seqJ (stQ1 n a b l c0 wb wp d) ?_ ?_
 · intro Ψ hΨ hΨ'
   (repeat(any_goals(first|((with_reducible refine Q0g ?_ ?_);rfl;intro K hK;simp(disch:=omega) only[go_sem,w1,Q0l,Q0k,Q0a,Nat.mul_one,wrI];((repeat(refine ndI (by first|assumption|omega|rfl) ?_));refine hK _ ?_;clear hK K))|(with_reducible first|(refine Q0i ?_;refine hR _ ?_;clear hR R)|((first|refine Q0h ?_|refine Q0c ?_);intro Ψ hΨ hΨ')|(refine Q0b ?_;intro R hR)|(refine hΨ _ ?_;clear hΨ hΨ' Ψ)|refine Q0d ?_|refine Q0j ?_|refine Q0e ?_)|((with_reducible refine hΨ' _ _ ?_ ?_);(focus(simp;done));clear hΨ hΨ' Ψ)|((with_reducible apply Q1e);rfl;rfl;rfl;(try simp(disch:=omega) only[go_sem,w1,Q0l,Q0k,Q0a,Nat.mul_one,wrI]))|((with_reducible apply Q1l);rfl;rfl;rfl;all_goals(intro hb;first|(cases hb;done)|((try simp only[Bool.not_true,Bool.not_false] at hb);(first|((with_reducible intro K hK);simp(disch:=omega) only[go_sem,w1,Q0l,Q0k,Q0a,Nat.mul_one,wrI];((repeat(refine ndI (by first|assumption|omega|rfl) ?_));refine hK _ ?_;clear hK K))|((fail_if_success (with_reducible intro _));simp(disch:=omega) only[go_sem,w1,Q0l,Q0k,Q0a,Nat.mul_one,wrI])))))|((with_reducible apply Q0f);rfl;rfl;all_goals(intro hc;first|(cases hc;done)|(try simp only at hc)))|((with_reducible refine Q0t ?_ ?_);kernel_rfl;(with_reducible refine hR _ ?_);clear hR R)|((first|((with_reducible apply Q0r);rfl;rfl;rfl;rfl)|((with_reducible apply Q0n);rfl;rfl;rfl)|((first|((with_reducible apply Q0u);rfl;rfl)|((with_reducible apply Q0s);rfl;rfl;rfl;rfl;rfl));(simp(disch:=omega) only[rdE,rdOf,go_sem,w1,Q0l,Q0k,Q0a,Nat.mul_one,wrI];rfl);(intro τ hA hQ hN;((try simp only[Q1h,Op.operands,Call.operands,go_sem,w1,Q0l,Q0k,Q0a,Nat.mul_one,wrI,go_sem,List.mem_cons,List.not_mem_nil,forall_eq_or_imp,forall_eq,List.append_toArray,Option.toArray] at hA);(try simp only[go_sem,w1,Q0l,Q0k,Q0a,Nat.mul_one,wrI,List.mem_cons,List.not_mem_nil,forall_eq_or_imp,forall_eq] at hQ hN);(first|(revert hA;intro hA)|have hA:=trivial);(first|(revert hQ;intro hQ)|have hQ:=trivial);(first|(revert hN;intro hN)|have hN:=trivial);simp(disch:=omega) only[go_sem,w1,Q0l,Q0k,Q0a,Nat.mul_one,wrI,go_sem,hA,hQ,hN];(repeat(refine ndI (by first|assumption|omega|rfl) ?_));(first|apply Q1b|apply Q1a|apply Q0w)))));(simp(disch:=omega) only[St.eff,setO,Q0q,go_sem,w1,Q0l,Q0k,Q0a,Nat.mul_one,wrI]))|((with_reducible apply Q0o);rfl;rfl;rfl;all_goals intro hb;all_goals(simp(disch:=omega) only[St.eff,setO,Q0q,go_sem,w1,Q0l,Q0k,Q0a,Nat.mul_one,wrI]))|((with_reducible refine Q0p ?_ ?_ ?_ ?_);kernel_rfl;kernel_rfl;(first|kernel_rfl|simp[Q0m,Q1j,St.free,Q1i,AV.refsL,AV.refs]);intro R hR))))
   all_goals exact(St.le_of (by simp[leT]) (by simp[leH,hget]))
 refine AW.seqJ (stQ1 n a b l c0 wb wp d) ?_ ?_
 · intro Ψ hΨ hΨ'
   (repeat(any_goals(first|((with_reducible refine Q0g ?_ ?_);rfl;intro K hK;simp(disch:=omega) only[go_sem,k1,Q0l,Q0k,Q0a,Nat.mul_one,wrI];((repeat(refine ndI (by first|assumption|omega|rfl) ?_));refine hK _ ?_;clear hK K))|(with_reducible first|(refine Q0i ?_;refine hR _ ?_;clear hR R)|((first|refine Q0h ?_|refine Q0c ?_);intro Ψ hΨ hΨ')|(refine Q0b ?_;intro R hR)|(refine hΨ _ ?_;clear hΨ hΨ' Ψ)|refine Q0d ?_|refine Q0j ?_|refine Q0e ?_)|((with_reducible refine hΨ' _ _ ?_ ?_);(focus(simp;done));clear hΨ hΨ' Ψ)|((with_reducible apply Q1e);rfl;rfl;rfl;(try simp(disch:=omega) only[go_sem,k1,Q0l,Q0k,Q0a,Nat.mul_one,wrI]))|((with_reducible apply Q1l);rfl;rfl;rfl;all_goals(intro hb;first|(cases hb;done)|((try simp only[Bool.not_true,Bool.not_false] at hb);(first|((with_reducible intro K hK);simp(disch:=omega) only[go_sem,k1,Q0l,Q0k,Q0a,Nat.mul_one,wrI];((repeat(refine ndI (by first|assumption|omega|rfl) ?_));refine hK _ ?_;clear hK K))|((fail_if_success (with_reducible intro _));simp(disch:=omega) only[go_sem,k1,Q0l,Q0k,Q0a,Nat.mul_one,wrI])))))|((with_reducible apply Q0f);rfl;rfl;all_goals(intro hc;first|(cases hc;done)|(try simp only at hc)))|((with_reducible refine Q0t ?_ ?_);kernel_rfl;(with_reducible refine hR _ ?_);clear hR R)|((first|((with_reducible apply Q0r);rfl;rfl;rfl;rfl)|((with_reducible apply Q0n);rfl;rfl;rfl)|((first|((with_reducible apply Q0u);rfl;rfl)|((with_reducible apply Q0s);rfl;rfl;rfl;rfl;rfl));(simp(disch:=omega) only[rdE,rdOf,go_sem,k1,Q0l,Q0k,Q0a,Nat.mul_one,wrI];rfl);(intro τ hA hQ hN;((try simp only[Q1h,Op.operands,Call.operands,go_sem,k1,Q0l,Q0k,Q0a,Nat.mul_one,wrI,go_sem,List.mem_cons,List.not_mem_nil,forall_eq_or_imp,forall_eq,List.append_toArray,Option.toArray] at hA);(try simp only[go_sem,k1,Q0l,Q0k,Q0a,Nat.mul_one,wrI,List.mem_cons,List.not_mem_nil,forall_eq_or_imp,forall_eq] at hQ hN);(first|(revert hA;intro hA)|have hA:=trivial);(first|(revert hQ;intro hQ)|have hQ:=trivial);(first|(revert hN;intro hN)|have hN:=trivial);simp(disch:=omega) only[go_sem,k1,Q0l,Q0k,Q0a,Nat.mul_one,wrI,go_sem,hA,hQ,hN];(repeat(refine ndI (by first|assumption|omega|rfl) ?_));(first|apply Q1b|apply Q1a|apply Q0w)))));(simp(disch:=omega) only[St.eff,setO,Q0q,go_sem,k1,Q0l,Q0k,Q0a,Nat.mul_one,wrI]))|((with_reducible apply Q0o);rfl;rfl;rfl;all_goals intro hb;all_goals(simp(disch:=omega) only[St.eff,setO,Q0q,go_sem,k1,Q0l,Q0k,Q0a,Nat.mul_one,wrI]))|((with_reducible refine Q0p ?_ ?_ ?_ ?_);kernel_rfl;kernel_rfl;(first|kernel_rfl|simp[Q0m,Q1j,St.free,Q1i,AV.refsL,AV.refs]);intro R hR))))
   all_goals exact(St.le_of (by simp[leT]) (by simp[leH,hget]))
 refine AW.seqJ (stQ1 n a b l c0 wb wp d) ?_ ?_
 · intro Ψ hΨ hΨ'
   (repeat(any_goals(first|((with_reducible refine Q0g ?_ ?_);rfl;intro K hK;simp(disch:=omega) only[go_sem,k2,Q0l,Q0k,Q0a,Nat.mul_one,wrI];((repeat(refine ndI (by first|assumption|omega|rfl) ?_));refine hK _ ?_;clear hK K))|(with_reducible first|(refine Q0i ?_;refine hR _ ?_;clear hR R)|((first|refine Q0h ?_|refine Q0c ?_);intro Ψ hΨ hΨ')|(refine Q0b ?_;intro R hR)|(refine hΨ _ ?_;clear hΨ hΨ' Ψ)|refine Q0d ?_|refine Q0j ?_|refine Q0e ?_)|((with_reducible refine hΨ' _ _ ?_ ?_);(focus(simp;done));clear hΨ hΨ' Ψ)|((with_reducible apply Q1e);rfl;rfl;rfl;(try simp(disch:=omega) only[go_sem,k2,Q0l,Q0k,Q0a,Nat.mul_one,wrI]))|((with_reducible apply Q1l);rfl;rfl;rfl;all_goals(intro hb;first|(cases hb;done)|((try simp only[Bool.not_true,Bool.not_false] at hb);(first|((with_reducible intro K hK);simp(disch:=omega) only[go_sem,k2,Q0l,Q0k,Q0a,Nat.mul_one,wrI];((repeat(refine ndI (by first|assumption|omega|rfl) ?_));refine hK _ ?_;clear hK K))|((fail_if_success (with_reducible intro _));simp(disch:=omega) only[go_sem,k2,Q0l,Q0k,Q0a,Nat.mul_one,wrI])))))|((with_reducible apply Q0f);rfl;rfl;all_goals(intro hc;first|(cases hc;done)|(try simp only at hc)))|((with_reducible refine Q0t ?_ ?_);kernel_rfl;(with_reducible refine hR _ ?_);clear hR R)|((first|((with_reducible apply Q0r);rfl;rfl;rfl;rfl)|((with_reducible apply Q0n);rfl;rfl;rfl)|((first|((with_reducible apply Q0u);rfl;rfl)|((with_reducible apply Q0s);rfl;rfl;rfl;rfl;rfl));(simp(disch:=omega) only[rdE,rdOf,go_sem,k2,Q0l,Q0k,Q0a,Nat.mul_one,wrI];rfl);(intro τ hA hQ hN;((try simp only[Q1h,Op.operands,Call.operands,go_sem,k2,Q0l,Q0k,Q0a,Nat.mul_one,wrI,go_sem,List.mem_cons,List.not_mem_nil,forall_eq_or_imp,forall_eq,List.append_toArray,Option.toArray] at hA);(try simp only[go_sem,k2,Q0l,Q0k,Q0a,Nat.mul_one,wrI,List.mem_cons,List.not_mem_nil,forall_eq_or_imp,forall_eq] at hQ hN);(first|(revert hA;intro hA)|have hA:=trivial);(first|(revert hQ;intro hQ)|have hQ:=trivial);(first|(revert hN;intro hN)|have hN:=trivial);simp(disch:=omega) only[go_sem,k2,Q0l,Q0k,Q0a,Nat.mul_one,wrI,go_sem,hA,hQ,hN];(repeat(refine ndI (by first|assumption|omega|rfl) ?_));(first|apply Q1b|apply Q1a|apply Q0w)))));(simp(disch:=omega) only[St.eff,setO,Q0q,go_sem,k2,Q0l,Q0k,Q0a,Nat.mul_one,wrI]))|((with_reducible apply Q0o);rfl;rfl;rfl;all_goals intro hb;all_goals(simp(disch:=omega) only[St.eff,setO,Q0q,go_sem,k2,Q0l,Q0k,Q0a,Nat.mul_one,wrI]))|((with_reducible refine Q0p ?_ ?_ ?_ ?_);kernel_rfl;kernel_rfl;(first|kernel_rfl|simp[Q0m,Q1j,St.free,Q1i,AV.refsL,AV.refs]);intro R hR))))
   all_goals exact(St.le_of (by simp[leT]) (by simp[leH,hget]))
 refine AW.seqJ (stQ1 n a b r.lim c0 wb wp r.d1) ?_ ?_
 · intro Ψ hΨ hΨ'
   cases wb with
   |true=>
    have e1:d=r.d1:=by rw[←hr];rfl
    have e2:l=r.lim:=by rw[←hr];rfl
    rw[←e1,←e2] at hΨ
    clear q1 q2 q3 q4 rdec rnot rpy rpn
    (repeat(any_goals(first|((with_reducible refine Q0g ?_ ?_);rfl;intro K hK;simp(disch:=omega) only[go_sem,Q0l,Q0k,Q0a,Nat.mul_one,wrI];((repeat(refine ndI (by first|assumption|omega|rfl) ?_));refine hK _ ?_;clear hK K))|(with_reducible first|(refine Q0i ?_;refine hR _ ?_;clear hR R)|((first|refine Q0h ?_|refine Q0c ?_);intro Ψ hΨ hΨ')|(refine Q0b ?_;intro R hR)|(refine hΨ _ ?_;clear hΨ hΨ' Ψ)|refine Q0d ?_|refine Q0j ?_|refine Q0e ?_)|((with_reducible refine hΨ' _ _ ?_ ?_);(focus(simp;done));clear hΨ hΨ' Ψ)|((with_reducible apply Q1e);rfl;rfl;rfl;(try simp(disch:=omega) only[go_sem,Q0l,Q0k,Q0a,Nat.mul_one,wrI]))|((with_reducible apply Q1l);rfl;rfl;rfl;all_goals(intro hb;first|(cases hb;done)|((try simp only[Bool.not_true,Bool.not_false] at hb);(first|((with_reducible intro K hK);simp(disch:=omega) only[go_sem,Q0l,Q0k,Q0a,Nat.mul_one,wrI];((repeat(refine ndI (by first|assumption|omega|rfl) ?_));refine hK _ ?_;clear hK K))|((fail_if_success (with_reducible intro _));simp(disch:=omega) only[go_sem,Q0l,Q0k,Q0a,Nat.mul_one,wrI])))))|((with_reducible apply Q0f);rfl;rfl;all_goals(intro hc;first|(cases hc;done)|(try simp only at hc)))|((with_reducible refine Q0t ?_ ?_);kernel_rfl;(with_reducible refine hR _ ?_);clear hR R)|((first|((with_reducible apply Q0r);rfl;rfl;rfl;rfl)|((with_reducible apply Q0n);rfl;rfl;rfl)|((first|((with_reducible apply Q0u);rfl;rfl)|((with_reducible apply Q0s);rfl;rfl;rfl;rfl;rfl));(simp(disch:=omega) only[rdE,rdOf,go_sem,Q0l,Q0k,Q0a,Nat.mul_one,wrI];rfl);(intro τ hA hQ hN;((try simp only[Q1h,Op.operands,Call.operands,go_sem,Q0l,Q0k,Q0a,Nat.mul_one,wrI,go_sem,List.mem_cons,List.not_mem_nil,forall_eq_or_imp,forall_eq,List.append_toArray,Option.toArray] at hA);(try simp only[go_sem,Q0l,Q0k,Q0a,Nat.mul_one,wrI,List.mem_cons,List.not_mem_nil,forall_eq_or_imp,forall_eq] at hQ hN);(first|(revert hA;intro hA)|have hA:=trivial);(first|(revert hQ;intro hQ)|have hQ:=trivial);(first|(revert hN;intro hN)|have hN:=trivial);simp(disch:=omega) only[go_sem,Q0l,Q0k,Q0a,Nat.mul_one,wrI,go_sem,hA,hQ,hN];(repeat(refine ndI (by first|assumption|omega|rfl) ?_));(first|apply Q1b|apply Q1a|apply Q0w)))));(simp(disch:=omega) only[St.eff,setO,Q0q,go_sem,Q0l,Q0k,Q0a,Nat.mul_one,wrI]))|((with_reducible apply Q0o);rfl;rfl;rfl;all_goals intro hb;all_goals(simp(disch:=omega) only[St.eff,setO,Q0q,go_sem,Q0l,Q0k,Q0a,Nat.mul_one,wrI]))|((with_reducible refine Q0p ?_ ?_ ?_ ?_);kernel_rfl;kernel_rfl;(first|kernel_rfl|simp[Q0m,Q1j,St.free,Q1i,AV.refsL,AV.refs]);intro R hR))))
    all_goals exact(St.le_of (by simp[leT]) (by simp[leH,hget]))
   |false=>
    have e1:Sort.breakPatterns d a b=r.d1:=by rw[←hr];rfl
    have e2:l-1=r.lim:=by rw[←hr];rfl
    have g:=brk_fn n a b g1 g2 hn d hs
    rw[e1] at g
    rw[e2] at w2
    clear e1 e2 q1 q2 q3 q4 rdec rnot rpy rpn
    (repeat(any_goals(first|((with_reducible refine Q1d ?_ ?_ ?_);rfl;rfl;intro K hK;(apply Q1n (g) (fun r=>r);rfl;rfl;rfl;rfl;exact Try.func66;kernel_rfl;rfl;rfl;(intro r hr q hq h;simp(disch:=omega) only[List.map_cons,List.map_nil,List.cons_append,List.nil_append,List.mem_cons,List.not_mem_nil,or_false] at hr hq;(try dsimp only at h);first|omega|(rcases hr with rfl|rfl|rfl<;>rcases hq with rfl|rfl|rfl<;>simp at h ⊢)|(rcases hr with rfl|rfl<;>rcases hq with rfl|rfl<;>simp at h ⊢)|((repeat' split at h)<;>omega));(simp(disch:=omega) only[Q1t,Q2h,AV.ren,AV.renL,Q1c,List.mem_cons,List.not_mem_nil,forall_eq_or_imp,forall_eq,Q2d,List.contains_cons,List.contains_nil,AV.refsL,AV.refs,Q0z,AV.inN,AV.inNL,inH,Q1k,go_sem,w2,Q0l,Q0k,Q0a,Nat.mul_one,wrI]));(simp(disch:=omega) only[Q0q,Q2k,renH,AV.ren,AV.renL,Q1c,go_sem,w2,Q0l,Q0k,Q0a,Nat.mul_one,wrI];refine hK _ ?_;clear hK K))|((with_reducible refine Q0g ?_ ?_);rfl;intro K hK;simp(disch:=omega) only[go_sem,w2,Q0l,Q0k,Q0a,Nat.mul_one,wrI];((repeat(refine ndI (by first|assumption|omega|rfl) ?_));refine hK _ ?_;clear hK K))|(with_reducible first|(refine Q0i ?_;refine hR _ ?_;clear hR R)|((first|refine Q0h ?_|refine Q0c ?_);intro Ψ hΨ hΨ')|(refine Q0b ?_;intro R hR)|(refine hΨ _ ?_;clear hΨ hΨ' Ψ)|refine Q0d ?_|refine Q0j ?_|refine Q0e ?_)|((with_reducible refine hΨ' _ _ ?_ ?_);(focus(simp;done));clear hΨ hΨ' Ψ)|((with_reducible apply Q1e);rfl;rfl;rfl;(try simp(disch:=omega) only[go_sem,w2,Q0l,Q0k,Q0a,Nat.mul_one,wrI]))|((with_reducible apply Q1l);rfl;rfl;rfl;all_goals(intro hb;first|(cases hb;done)|((try simp only[Bool.not_true,Bool.not_false] at hb);(first|((with_reducible intro K hK);simp(disch:=omega) only[go_sem,w2,Q0l,Q0k,Q0a,Nat.mul_one,wrI];((repeat(refine ndI (by first|assumption|omega|rfl) ?_));refine hK _ ?_;clear hK K))|((fail_if_success (with_reducible intro _));simp(disch:=omega) only[go_sem,w2,Q0l,Q0k,Q0a,Nat.mul_one,wrI])))))|((with_reducible apply Q0f);rfl;rfl;all_goals(intro hc;first|(cases hc;done)|(try simp only at hc)))|((with_reducible refine Q0t ?_ ?_);kernel_rfl;(with_reducible refine hR _ ?_);clear hR R)|((first|((with_reducible apply Q0r);rfl;rfl;rfl;rfl)|((with_reducible apply Q0n);rfl;rfl;rfl)|((first|((with_reducible apply Q0u);rfl;rfl)|((with_reducible apply Q0s);rfl;rfl;rfl;rfl;rfl));(simp(disch:=omega) only[rdE,rdOf,go_sem,w2,Q0l,Q0k,Q0a,Nat.mul_one,wrI];rfl);(intro τ hA hQ hN;((try simp only[Q1h,Op.operands,Call.operands,go_sem,w2,Q0l,Q0k,Q0a,Nat.mul_one,wrI,go_sem,List.mem_cons,List.not_mem_nil,forall_eq_or_imp,forall_eq,List.append_toArray,Option.toArray] at hA);(try simp only[go_sem,w2,Q0l,Q0k,Q0a,Nat.mul_one,wrI,List.mem_cons,List.not_mem_nil,forall_eq_or_imp,forall_eq] at hQ hN);(first|(revert hA;intro hA)|have hA:=trivial);(first|(revert hQ;intro hQ)|have hQ:=trivial);(first|(revert hN;intro hN)|have hN:=trivial);simp(disch:=omega) only[go_sem,w2,Q0l,Q0k,Q0a,Nat.mul_one,wrI,go_sem,hA,hQ,hN];(repeat(refine ndI (by first|assumption|omega|rfl) ?_));(first|apply Q1b|apply Q1a|apply Q0w)))));(simp(disch:=omega) only[St.eff,setO,Q0q,go_sem,w2,Q0l,Q0k,Q0a,Nat.mul_one,wrI]))|((with_reducible apply Q0o);rfl;rfl;rfl;all_goals intro hb;all_goals(simp(disch:=omega) only[St.eff,setO,Q0q,go_sem,w2,Q0l,Q0k,Q0a,Nat.mul_one,wrI]))|((with_reducible refine Q0p ?_ ?_ ?_ ?_);kernel_rfl;kernel_rfl;(first|kernel_rfl|simp[Q0m,Q1j,St.free,Q1i,AV.refsL,AV.refs]);intro R hR))))
    all_goals exact(St.le_of (by simp[leT]) (by simp[leH,hget]))
 have gl:r.lim≤64:=Nat.le_trans rl g4
 clear w2 rl
 refine AW.seqJ (stQ2 n a b r.lim c0 wb wp r.d1 r.c.1 (Q6v r.c.2)) ?_ ?_
 · intro Ψ hΨ hΨ'
   have g:=choose_fn n a b (by omega) g2 hn r.d1 s1
   rw[←Hc rfl] at g
   clear q1 q2 q3 q4 rdec rnot rpy rpn
   (repeat(any_goals(first|((with_reducible refine Q1d ?_ ?_ ?_);rfl;rfl;intro K hK;(apply Q1n (g) (fun r=>r);rfl;rfl;rfl;rfl;exact Try.func67;kernel_rfl;rfl;rfl;(intro r hr q hq h;simp(disch:=omega) only[List.map_cons,List.map_nil,List.cons_append,List.nil_append,List.mem_cons,List.not_mem_nil,or_false] at hr hq;(try dsimp only at h);first|omega|(rcases hr with rfl|rfl|rfl<;>rcases hq with rfl|rfl|rfl<;>simp at h ⊢)|(rcases hr with rfl|rfl<;>rcases hq with rfl|rfl<;>simp at h ⊢)|((repeat' split at h)<;>omega));(simp(disch:=omega) only[Q1t,Q2h,AV.ren,AV.renL,Q1c,List.mem_cons,List.not_mem_nil,forall_eq_or_imp,forall_eq,Q2d,List.contains_cons,List.contains_nil,AV.refsL,AV.refs,Q0z,AV.inN,AV.inNL,inH,Q1k,go_sem,Q0l,Q0k,Q0a,Nat.mul_one,wrI]));(simp(disch:=omega) only[Q0q,Q2k,renH,AV.ren,AV.renL,Q1c,go_sem,Q0l,Q0k,Q0a,Nat.mul_one,wrI];refine hK _ ?_;clear hK K))|((with_reducible refine Q0g ?_ ?_);rfl;intro K hK;simp(disch:=omega) only[go_sem,Q0l,Q0k,Q0a,Nat.mul_one,wrI];((repeat(refine ndI (by first|assumption|omega|rfl) ?_));refine hK _ ?_;clear hK K))|(with_reducible first|(refine Q0i ?_;refine hR _ ?_;clear hR R)|((first|refine Q0h ?_|refine Q0c ?_);intro Ψ hΨ hΨ')|(refine Q0b ?_;intro R hR)|(refine hΨ _ ?_;clear hΨ hΨ' Ψ)|refine Q0d ?_|refine Q0j ?_|refine Q0e ?_)|((with_reducible refine hΨ' _ _ ?_ ?_);(focus(simp;done));clear hΨ hΨ' Ψ)|((with_reducible apply Q1e);rfl;rfl;rfl;(try simp(disch:=omega) only[go_sem,Q0l,Q0k,Q0a,Nat.mul_one,wrI]))|((with_reducible apply Q1l);rfl;rfl;rfl;all_goals(intro hb;first|(cases hb;done)|((try simp only[Bool.not_true,Bool.not_false] at hb);(first|((with_reducible intro K hK);simp(disch:=omega) only[go_sem,Q0l,Q0k,Q0a,Nat.mul_one,wrI];((repeat(refine ndI (by first|assumption|omega|rfl) ?_));refine hK _ ?_;clear hK K))|((fail_if_success (with_reducible intro _));simp(disch:=omega) only[go_sem,Q0l,Q0k,Q0a,Nat.mul_one,wrI])))))|((with_reducible apply Q0f);rfl;rfl;all_goals(intro hc;first|(cases hc;done)|(try simp only at hc)))|((with_reducible refine Q0t ?_ ?_);kernel_rfl;(with_reducible refine hR _ ?_);clear hR R)|((first|((with_reducible apply Q0r);rfl;rfl;rfl;rfl)|((with_reducible apply Q0n);rfl;rfl;rfl)|((first|((with_reducible apply Q0u);rfl;rfl)|((with_reducible apply Q0s);rfl;rfl;rfl;rfl;rfl));(simp(disch:=omega) only[rdE,rdOf,go_sem,Q0l,Q0k,Q0a,Nat.mul_one,wrI];rfl);(intro τ hA hQ hN;((try simp only[Q1h,Op.operands,Call.operands,go_sem,Q0l,Q0k,Q0a,Nat.mul_one,wrI,go_sem,List.mem_cons,List.not_mem_nil,forall_eq_or_imp,forall_eq,List.append_toArray,Option.toArray] at hA);(try simp only[go_sem,Q0l,Q0k,Q0a,Nat.mul_one,wrI,List.mem_cons,List.not_mem_nil,forall_eq_or_imp,forall_eq] at hQ hN);(first|(revert hA;intro hA)|have hA:=trivial);(first|(revert hQ;intro hQ)|have hQ:=trivial);(first|(revert hN;intro hN)|have hN:=trivial);simp(disch:=omega) only[go_sem,Q0l,Q0k,Q0a,Nat.mul_one,wrI,go_sem,hA,hQ,hN];(repeat(refine ndI (by first|assumption|omega|rfl) ?_));(first|apply Q1b|apply Q1a|apply Q0w)))));(simp(disch:=omega) only[St.eff,setO,Q0q,go_sem,Q0l,Q0k,Q0a,Nat.mul_one,wrI]))|((with_reducible apply Q0o);rfl;rfl;rfl;all_goals intro hb;all_goals(simp(disch:=omega) only[St.eff,setO,Q0q,go_sem,Q0l,Q0k,Q0a,Nat.mul_one,wrI]))|((with_reducible refine Q0p ?_ ?_ ?_ ?_);kernel_rfl;kernel_rfl;(first|kernel_rfl|simp[Q0m,Q1j,St.free,Q1i,AV.refsL,AV.refs]);intro R hR))))
   all_goals exact(St.le_of (by simp[leT]) (by simp[leH,hget]))
 refine AW.seqJ (stQ2 n a b r.lim c0 wb wp r.d2 r.pivot (Q6v r.hint)) ?_ ?_
 · intro Ψ hΨ hΨ'
   by_cases hh:r.c.2 = .decreasing
   · obtain⟨e1,e2,e3⟩:=rdec hh
     have k3:(Q6v r.c.2==2)=true:=by rw[hh];rfl
     have g:=rev_fn n a b (by omega) g2 hn r.d1 s1
     rw[←e1] at g
     have w3:(b:Int)-1=((b-1:Nat):Int):=by omega
     have w4:(r.c.1:Int)-(a:Int)=((r.c.1-a:Nat):Int):=by omega
     have w5:((b-1:Nat):Int)-((r.c.1-a:Nat):Int)=((b-1-(r.c.1-a):Nat):Int):=by omega
     rw[e3,e2,show Q6v Sort.Hint.increasing=1 from rfl] at hΨ
     clear e1 e2 e3 hh q1 q2 q3 q4 rdec rnot rpy rpn
     (have W:=ndI k3 (ndI w3 (ndI w4 (ndI w5 @wrI)));(repeat(any_goals(first|((with_reducible refine Q1d ?_ ?_ ?_);rfl;rfl;intro K hK;(apply Q1n (g) (fun r=>r);rfl;rfl;rfl;rfl;exact Try.func68;kernel_rfl;rfl;rfl;(intro r hr q hq h;simp(disch:=omega) only[List.map_cons,List.map_nil,List.cons_append,List.nil_append,List.mem_cons,List.not_mem_nil,or_false] at hr hq;(try dsimp only at h);first|omega|(rcases hr with rfl|rfl|rfl<;>rcases hq with rfl|rfl|rfl<;>simp at h ⊢)|(rcases hr with rfl|rfl<;>rcases hq with rfl|rfl<;>simp at h ⊢)|((repeat' split at h)<;>omega));(simp(disch:=omega) only[Q1t,Q2h,AV.ren,AV.renL,Q1c,List.mem_cons,List.not_mem_nil,forall_eq_or_imp,forall_eq,Q2d,List.contains_cons,List.contains_nil,AV.refsL,AV.refs,Q0z,AV.inN,AV.inNL,inH,Q1k,go_sem,W,Q0l,Q0k,Q0a,Nat.mul_one]));(simp(disch:=omega) only[Q0q,Q2k,renH,AV.ren,AV.renL,Q1c,go_sem,W,Q0l,Q0k,Q0a,Nat.mul_one];refine hK _ ?_;clear hK K))|((with_reducible refine Q0g ?_ ?_);rfl;intro K hK;simp(disch:=omega) only[go_sem,W,Q0l,Q0k,Q0a,Nat.mul_one];((repeat(refine ndI (by first|assumption|omega|rfl) ?_));refine hK _ ?_;clear hK K))|(with_reducible first|(refine Q0i ?_;refine hR _ ?_;clear hR R)|((first|refine Q0h ?_|refine Q0c ?_);intro Ψ hΨ hΨ')|(refine Q0b ?_;intro R hR)|(refine hΨ _ ?_;clear hΨ hΨ' Ψ)|refine Q0d ?_|refine Q0j ?_|refine Q0e ?_)|((with_reducible refine hΨ' _ _ ?_ ?_);(focus(simp;done));clear hΨ hΨ' Ψ)|((with_reducible apply Q1e);rfl;rfl;rfl;(try simp(disch:=omega) only[go_sem,W,Q0l,Q0k,Q0a,Nat.mul_one]))|((with_reducible apply Q1l);rfl;rfl;rfl;all_goals(intro hb;first|(cases hb;done)|((try simp only[Bool.not_true,Bool.not_false] at hb);(first|((with_reducible intro K hK);simp(disch:=omega) only[go_sem,W,Q0l,Q0k,Q0a,Nat.mul_one];((repeat(refine ndI (by first|assumption|omega|rfl) ?_));refine hK _ ?_;clear hK K))|((fail_if_success (with_reducible intro _));simp(disch:=omega) only[go_sem,W,Q0l,Q0k,Q0a,Nat.mul_one])))))|((with_reducible apply Q0f);rfl;rfl;all_goals(intro hc;first|(cases hc;done)|(try simp only at hc)))|((with_reducible refine Q0t ?_ ?_);kernel_rfl;(with_reducible refine hR _ ?_);clear hR R)|((first|((with_reducible apply Q0r);rfl;rfl;rfl;rfl)|((with_reducible apply Q0n);rfl;rfl;rfl)|((first|((with_reducible apply Q0u);rfl;rfl)|((with_reducible apply Q0s);rfl;rfl;rfl;rfl;rfl));(simp(disch:=omega) only[rdE,rdOf,go_sem,W,Q0l,Q0k,Q0a,Nat.mul_one];rfl);(intro τ hA hQ hN;((try simp only[Q1h,Op.operands,Call.operands,go_sem,W,Q0l,Q0k,Q0a,Nat.mul_one,go_sem,List.mem_cons,List.not_mem_nil,forall_eq_or_imp,forall_eq,List.append_toArray,Option.toArray] at hA);(try simp only[go_sem,W,Q0l,Q0k,Q0a,Nat.mul_one,List.mem_cons,List.not_mem_nil,forall_eq_or_imp,forall_eq] at hQ hN);(first|(revert hA;intro hA)|have hA:=trivial);(first|(revert hQ;intro hQ)|have hQ:=trivial);(first|(revert hN;intro hN)|have hN:=trivial);simp(disch:=omega) only[go_sem,W,Q0l,Q0k,Q0a,Nat.mul_one,go_sem,hA,hQ,hN];(repeat(refine ndI (by first|assumption|omega|rfl) ?_));(first|apply Q1b|apply Q1a|apply Q0w)))));(simp(disch:=omega) only[St.eff,setO,Q0q,go_sem,W,Q0l,Q0k,Q0a,Nat.mul_one]))|((with_reducible apply Q0o);rfl;rfl;rfl;all_goals intro hb;all_goals(simp(disch:=omega) only[St.eff,setO,Q0q,go_sem,W,Q0l,Q0k,Q0a,Nat.mul_one]))|((with_reducible refine Q0p ?_ ?_ ?_ ?_);kernel_rfl;kernel_rfl;(first|kernel_rfl|simp[Q0m,Q1j,St.free,Q1i,AV.refsL,AV.refs]);intro R hR)))))
     all_goals exact(St.le_of (by simp[leT]) (by simp[leH,hget]))
   · obtain⟨e1,e2,e3⟩:=rnot hh
     have k3:(Q6v r.c.2==2)=false:=by cases h:r.c.2<;>first|rfl|exact absurd h hh
     rw[e1,e2,e3] at hΨ
     clear e1 e2 e3 hh q1 q2 q3 q4 rdec rnot rpy rpn
     (repeat(any_goals(first|((with_reducible refine Q0g ?_ ?_);rfl;intro K hK;simp(disch:=omega) only[go_sem,k3,Q0l,Q0k,Q0a,Nat.mul_one,wrI];((repeat(refine ndI (by first|assumption|omega|rfl) ?_));refine hK _ ?_;clear hK K))|(with_reducible first|(refine Q0i ?_;refine hR _ ?_;clear hR R)|((first|refine Q0h ?_|refine Q0c ?_);intro Ψ hΨ hΨ')|(refine Q0b ?_;intro R hR)|(refine hΨ _ ?_;clear hΨ hΨ' Ψ)|refine Q0d ?_|refine Q0j ?_|refine Q0e ?_)|((with_reducible refine hΨ' _ _ ?_ ?_);(focus(simp;done));clear hΨ hΨ' Ψ)|((with_reducible apply Q1e);rfl;rfl;rfl;(try simp(disch:=omega) only[go_sem,k3,Q0l,Q0k,Q0a,Nat.mul_one,wrI]))|((with_reducible apply Q1l);rfl;rfl;rfl;all_goals(intro hb;first|(cases hb;done)|((try simp only[Bool.not_true,Bool.not_false] at hb);(first|((with_reducible intro K hK);simp(disch:=omega) only[go_sem,k3,Q0l,Q0k,Q0a,Nat.mul_one,wrI];((repeat(refine ndI (by first|assumption|omega|rfl) ?_));refine hK _ ?_;clear hK K))|((fail_if_success (with_reducible intro _));simp(disch:=omega) only[go_sem,k3,Q0l,Q0k,Q0a,Nat.mul_one,wrI])))))|((with_reducible apply Q0f);rfl;rfl;all_goals(intro hc;first|(cases hc;done)|(try simp only at hc)))|((with_reducible refine Q0t ?_ ?_);kernel_rfl;(with_reducible refine hR _ ?_);clear hR R)|((first|((with_reducible apply Q0r);rfl;rfl;rfl;rfl)|((with_reducible apply Q0n);rfl;rfl;rfl)|((first|((with_reducible apply Q0u);rfl;rfl)|((with_reducible apply Q0s);rfl;rfl;rfl;rfl;rfl));(simp(disch:=omega) only[rdE,rdOf,go_sem,k3,Q0l,Q0k,Q0a,Nat.mul_one,wrI];rfl);(intro τ hA hQ hN;((try simp only[Q1h,Op.operands,Call.operands,go_sem,k3,Q0l,Q0k,Q0a,Nat.mul_one,wrI,go_sem,List.mem_cons,List.not_mem_nil,forall_eq_or_imp,forall_eq,List.append_toArray,Option.toArray] at hA);(try simp only[go_sem,k3,Q0l,Q0k,Q0a,Nat.mul_one,wrI,List.mem_cons,List.not_mem_nil,forall_eq_or_imp,forall_eq] at hQ hN);(first|(revert hA;intro hA)|have hA:=trivial);(first|(revert hQ;intro hQ)|have hQ:=trivial);(first|(revert hN;intro hN)|have hN:=trivial);simp(disch:=omega) only[go_sem,k3,Q0l,Q0k,Q0a,Nat.mul_one,wrI,go_sem,hA,hQ,hN];(repeat(refine ndI (by first|assumption|omega|rfl) ?_));(first|apply Q1b|apply Q1a|apply Q0w)))));(simp(disch:=omega) only[St.eff,setO,Q0q,go_sem,k3,Q0l,Q0k,Q0a,Nat.mul_one,wrI]))|((with_reducible apply Q0o);rfl;rfl;rfl;all_goals intro hb;all_goals(simp(disch:=omega) only[St.eff,setO,Q0q,go_sem,k3,Q0l,Q0k,Q0a,Nat.mul_one,wrI]))|((with_reducible refine Q0p ?_ ?_ ?_ ?_);kernel_rfl;kernel_rfl;(first|kernel_rfl|simp[Q0m,Q1j,St.free,Q1i,AV.refsL,AV.refs]);intro R hR))))
     all_goals exact(St.le_of (by simp[leT]) (by simp[leH,hget]))
 obtain⟨hI,hhI⟩:∃v,decide (r.hint=Sort.Hint.increasing)=v:=⟨_,rfl⟩
 have k4:(Q6v r.hint==1)=hI:=by rw[←hhI];cases h:r.hint<;>rfl
 rw[hhI] at rpy rpn
 clear rdec rnot hhI
 obtain⟨h0,hh0⟩:∃h,Q6v r.hint=h:=⟨_,rfl⟩
 rw[hh0] at k4 ⊢
 clear hh0
 cases hp:r.pi.2 with
 |true=>
  have hb3:(wb&&wp&&hI)=true:=by
   cases h:(wb&&wp&&hI) with
   |true=>rfl
   |false=>rw[rpn h] at hp;cases hp
  have e1:=rpy hb3
  have g:=pins_fn n a b (by omega) g2 hn r.d2 s2
  rw[←e1] at g
  simp only[Bool.and_eq_true] at hb3
  obtain⟨⟨hb1,hb2⟩,hb3⟩:=hb3
  have e2:=(q1 hp).symm
  rw[hp,e2] at g
  subst hb1 hb2 hb3
  clear q1 q2 q3 q4 rpy rpn e1 hp e2 hN
  refine Q2g _ _ _ ?_
  (repeat(any_goals(first|((with_reducible refine Q1d ?_ ?_ ?_);rfl;rfl;intro K hK;(apply Q1n (g) (fun r=>r);rfl;rfl;rfl;rfl;exact Try.func69;kernel_rfl;rfl;rfl;(intro r hr q hq h;simp(disch:=omega) only[List.map_cons,List.map_nil,List.cons_append,List.nil_append,List.mem_cons,List.not_mem_nil,or_false] at hr hq;(try dsimp only at h);first|omega|(rcases hr with rfl|rfl|rfl<;>rcases hq with rfl|rfl|rfl<;>simp at h ⊢)|(rcases hr with rfl|rfl<;>rcases hq with rfl|rfl<;>simp at h ⊢)|((repeat' split at h)<;>omega));(simp(disch:=omega) only[Q1t,Q2h,AV.ren,AV.renL,Q1c,List.mem_cons,List.not_mem_nil,forall_eq_or_imp,forall_eq,Q2d,List.contains_cons,List.contains_nil,AV.refsL,AV.refs,Q0z,AV.inN,AV.inNL,inH,Q1k,go_sem,k4,Q0l,Q0k,Q0a,Nat.mul_one,wrI]));(simp(disch:=omega) only[Q0q,Q2k,renH,AV.ren,AV.renL,Q1c,go_sem,k4,Q0l,Q0k,Q0a,Nat.mul_one,wrI];refine hK _ ?_;clear hK K))|((with_reducible refine Q0g ?_ ?_);rfl;intro K hK;simp(disch:=omega) only[go_sem,k4,Q0l,Q0k,Q0a,Nat.mul_one,wrI];((repeat(refine ndI (by first|assumption|omega|rfl) ?_));refine hK _ ?_;clear hK K))|(with_reducible first|(refine Q0i ?_;refine hR _ ?_;clear hR R)|((first|refine Q0h ?_|refine Q0c ?_);intro Ψ hΨ hΨ')|(refine Q0b ?_;intro R hR)|(refine hΨ _ ?_;clear hΨ hΨ' Ψ)|refine Q0d ?_|refine Q0j ?_|refine Q0e ?_)|((with_reducible refine hΨ' _ _ ?_ ?_);(focus(simp;done));clear hΨ hΨ' Ψ)|((with_reducible apply Q1e);rfl;rfl;rfl;(try simp(disch:=omega) only[go_sem,k4,Q0l,Q0k,Q0a,Nat.mul_one,wrI]))|((with_reducible apply Q1l);rfl;rfl;rfl;all_goals(intro hb;first|(cases hb;done)|((try simp only[Bool.not_true,Bool.not_false] at hb);(first|((with_reducible intro K hK);simp(disch:=omega) only[go_sem,k4,Q0l,Q0k,Q0a,Nat.mul_one,wrI];((repeat(refine ndI (by first|assumption|omega|rfl) ?_));refine hK _ ?_;clear hK K))|((fail_if_success (with_reducible intro _));simp(disch:=omega) only[go_sem,k4,Q0l,Q0k,Q0a,Nat.mul_one,wrI])))))|((with_reducible apply Q0f);rfl;rfl;all_goals(intro hc;first|(cases hc;done)|(try simp only at hc)))|((with_reducible refine Q0t ?_ ?_);kernel_rfl;(with_reducible refine hR _ ?_);clear hR R)|((first|((with_reducible apply Q0r);rfl;rfl;rfl;rfl)|((with_reducible apply Q0n);rfl;rfl;rfl)|((first|((with_reducible apply Q0u);rfl;rfl)|((with_reducible apply Q0s);rfl;rfl;rfl;rfl;rfl));(simp(disch:=omega) only[rdE,rdOf,go_sem,k4,Q0l,Q0k,Q0a,Nat.mul_one,wrI];rfl);(intro τ hA hQ hN;((try simp only[Q1h,Op.operands,Call.operands,go_sem,k4,Q0l,Q0k,Q0a,Nat.mul_one,wrI,go_sem,List.mem_cons,List.not_mem_nil,forall_eq_or_imp,forall_eq,List.append_toArray,Option.toArray] at hA);(try simp only[go_sem,k4,Q0l,Q0k,Q0a,Nat.mul_one,wrI,List.mem_cons,List.not_mem_nil,forall_eq_or_imp,forall_eq] at hQ hN);(first|(revert hA;intro hA)|have hA:=trivial);(first|(revert hQ;intro hQ)|have hQ:=trivial);(first|(revert hN;intro hN)|have hN:=trivial);simp(disch:=omega) only[go_sem,k4,Q0l,Q0k,Q0a,Nat.mul_one,wrI,go_sem,hA,hQ,hN];(repeat(refine ndI (by first|assumption|omega|rfl) ?_));(first|apply Q1b|apply Q1a|apply Q0w)))));(simp(disch:=omega) only[St.eff,setO,Q0q,go_sem,k4,Q0l,Q0k,Q0a,Nat.mul_one,wrI]))|((with_reducible apply Q0o);rfl;rfl;rfl;all_goals intro hb;all_goals(simp(disch:=omega) only[St.eff,setO,Q0q,go_sem,k4,Q0l,Q0k,Q0a,Nat.mul_one,wrI]))|((with_reducible refine Q0p ?_ ?_ ?_ ?_);kernel_rfl;kernel_rfl;(first|kernel_rfl|simp[Q0m,Q1j,St.free,Q1i,AV.refsL,AV.refs]);intro R hR))))
  all_goals(refine⟨by simp,⟨_,?_,AV.le_refl _⟩,Q0y (by simp[leH,hget])⟩;simp only[Try.results52,resL,ldA,Q1o,go_sem])
 |false=>
 clear q1
 refine AW.seqJ (stQ2 n a b r.lim c0 wb wp r.pi.1 r.pivot h0) ?_ ?_
 · intro Ψ hΨ hΨ'
   cases hb3:(wb&&wp&&hI) with
   |false=>
    have e1:=rpn hb3
    rw[e1] at hΨ
    clear q2 q3 q4 rpy rpn e1
    cases wb
    · (repeat(any_goals(first|((with_reducible refine Q0g ?_ ?_);rfl;intro K hK;simp(disch:=omega) only[go_sem,Q0l,Q0k,Q0a,Nat.mul_one,wrI];((repeat(refine ndI (by first|assumption|omega|rfl) ?_));refine hK _ ?_;clear hK K))|(with_reducible first|(refine Q0i ?_;refine hR _ ?_;clear hR R)|((first|refine Q0h ?_|refine Q0c ?_);intro Ψ hΨ hΨ')|(refine Q0b ?_;intro R hR)|(refine hΨ _ ?_;clear hΨ hΨ' Ψ)|refine Q0d ?_|refine Q0j ?_|refine Q0e ?_)|((with_reducible refine hΨ' _ _ ?_ ?_);(focus(simp;done));clear hΨ hΨ' Ψ)|((with_reducible apply Q1e);rfl;rfl;rfl;(try simp(disch:=omega) only[go_sem,Q0l,Q0k,Q0a,Nat.mul_one,wrI]))|((with_reducible apply Q1l);rfl;rfl;rfl;all_goals(intro hb;first|(cases hb;done)|((try simp only[Bool.not_true,Bool.not_false] at hb);(first|((with_reducible intro K hK);simp(disch:=omega) only[go_sem,Q0l,Q0k,Q0a,Nat.mul_one,wrI];((repeat(refine ndI (by first|assumption|omega|rfl) ?_));refine hK _ ?_;clear hK K))|((fail_if_success (with_reducible intro _));simp(disch:=omega) only[go_sem,Q0l,Q0k,Q0a,Nat.mul_one,wrI])))))|((with_reducible apply Q0f);rfl;rfl;all_goals(intro hc;first|(cases hc;done)|(try simp only at hc)))|((with_reducible refine Q0t ?_ ?_);kernel_rfl;(with_reducible refine hR _ ?_);clear hR R)|((first|((with_reducible apply Q0r);rfl;rfl;rfl;rfl)|((with_reducible apply Q0n);rfl;rfl;rfl)|((first|((with_reducible apply Q0u);rfl;rfl)|((with_reducible apply Q0s);rfl;rfl;rfl;rfl;rfl));(simp(disch:=omega) only[rdE,rdOf,go_sem,Q0l,Q0k,Q0a,Nat.mul_one,wrI];rfl);(intro τ hA hQ hN;((try simp only[Q1h,Op.operands,Call.operands,go_sem,Q0l,Q0k,Q0a,Nat.mul_one,wrI,go_sem,List.mem_cons,List.not_mem_nil,forall_eq_or_imp,forall_eq,List.append_toArray,Option.toArray] at hA);(try simp only[go_sem,Q0l,Q0k,Q0a,Nat.mul_one,wrI,List.mem_cons,List.not_mem_nil,forall_eq_or_imp,forall_eq] at hQ hN);(first|(revert hA;intro hA)|have hA:=trivial);(first|(revert hQ;intro hQ)|have hQ:=trivial);(first|(revert hN;intro hN)|have hN:=trivial);simp(disch:=omega) only[go_sem,Q0l,Q0k,Q0a,Nat.mul_one,wrI,go_sem,hA,hQ,hN];(repeat(refine ndI (by first|assumption|omega|rfl) ?_));(first|apply Q1b|apply Q1a|apply Q0w)))));(simp(disch:=omega) only[St.eff,setO,Q0q,go_sem,Q0l,Q0k,Q0a,Nat.mul_one,wrI]))|((with_reducible apply Q0o);rfl;rfl;rfl;all_goals intro hb;all_goals(simp(disch:=omega) only[St.eff,setO,Q0q,go_sem,Q0l,Q0k,Q0a,Nat.mul_one,wrI]))|((with_reducible refine Q0p ?_ ?_ ?_ ?_);kernel_rfl;kernel_rfl;(first|kernel_rfl|simp[Q0m,Q1j,St.free,Q1i,AV.refsL,AV.refs]);intro R hR))))
      all_goals exact(St.le_of (by simp[leT]) (by simp[leH,hget]))
    cases wp
    · (repeat(any_goals(first|((with_reducible refine Q0g ?_ ?_);rfl;intro K hK;simp(disch:=omega) only[go_sem,Q0l,Q0k,Q0a,Nat.mul_one,wrI];((repeat(refine ndI (by first|assumption|omega|rfl) ?_));refine hK _ ?_;clear hK K))|(with_reducible first|(refine Q0i ?_;refine hR _ ?_;clear hR R)|((first|refine Q0h ?_|refine Q0c ?_);intro Ψ hΨ hΨ')|(refine Q0b ?_;intro R hR)|(refine hΨ _ ?_;clear hΨ hΨ' Ψ)|refine Q0d ?_|refine Q0j ?_|refine Q0e ?_)|((with_reducible refine hΨ' _ _ ?_ ?_);(focus(simp;done));clear hΨ hΨ' Ψ)|((with_reducible apply Q1e);rfl;rfl;rfl;(try simp(disch:=omega) only[go_sem,Q0l,Q0k,Q0a,Nat.mul_one,wrI]))|((with_reducible apply Q1l);rfl;rfl;rfl;all_goals(intro hb;first|(cases hb;done)|((try simp only[Bool.not_true,Bool.not_false] at hb);(first|((with_reducible intro K hK);simp(disch:=omega) only[go_sem,Q0l,Q0k,Q0a,Nat.mul_one,wrI];((repeat(refine ndI (by first|assumption|omega|rfl) ?_));refine hK _ ?_;clear hK K))|((fail_if_success (with_reducible intro _));simp(disch:=omega) only[go_sem,Q0l,Q0k,Q0a,Nat.mul_one,wrI])))))|((with_reducible apply Q0f);rfl;rfl;all_goals(intro hc;first|(cases hc;done)|(try simp only at hc)))|((with_reducible refine Q0t ?_ ?_);kernel_rfl;(with_reducible refine hR _ ?_);clear hR R)|((first|((with_reducible apply Q0r);rfl;rfl;rfl;rfl)|((with_reducible apply Q0n);rfl;rfl;rfl)|((first|((with_reducible apply Q0u);rfl;rfl)|((with_reducible apply Q0s);rfl;rfl;rfl;rfl;rfl));(simp(disch:=omega) only[rdE,rdOf,go_sem,Q0l,Q0k,Q0a,Nat.mul_one,wrI];rfl);(intro τ hA hQ hN;((try simp only[Q1h,Op.operands,Call.operands,go_sem,Q0l,Q0k,Q0a,Nat.mul_one,wrI,go_sem,List.mem_cons,List.not_mem_nil,forall_eq_or_imp,forall_eq,List.append_toArray,Option.toArray] at hA);(try simp only[go_sem,Q0l,Q0k,Q0a,Nat.mul_one,wrI,List.mem_cons,List.not_mem_nil,forall_eq_or_imp,forall_eq] at hQ hN);(first|(revert hA;intro hA)|have hA:=trivial);(first|(revert hQ;intro hQ)|have hQ:=trivial);(first|(revert hN;intro hN)|have hN:=trivial);simp(disch:=omega) only[go_sem,Q0l,Q0k,Q0a,Nat.mul_one,wrI,go_sem,hA,hQ,hN];(repeat(refine ndI (by first|assumption|omega|rfl) ?_));(first|apply Q1b|apply Q1a|apply Q0w)))));(simp(disch:=omega) only[St.eff,setO,Q0q,go_sem,Q0l,Q0k,Q0a,Nat.mul_one,wrI]))|((with_reducible apply Q0o);rfl;rfl;rfl;all_goals intro hb;all_goals(simp(disch:=omega) only[St.eff,setO,Q0q,go_sem,Q0l,Q0k,Q0a,Nat.mul_one,wrI]))|((with_reducible refine Q0p ?_ ?_ ?_ ?_);kernel_rfl;kernel_rfl;(first|kernel_rfl|simp[Q0m,Q1j,St.free,Q1i,AV.refsL,AV.refs]);intro R hR))))
      all_goals exact(St.le_of (by simp[leT]) (by simp[leH,hget]))
    cases hI
    · (repeat(any_goals(first|((with_reducible refine Q0g ?_ ?_);rfl;intro K hK;simp(disch:=omega) only[go_sem,k4,Q0l,Q0k,Q0a,Nat.mul_one,wrI];((repeat(refine ndI (by first|assumption|omega|rfl) ?_));refine hK _ ?_;clear hK K))|(with_reducible first|(refine Q0i ?_;refine hR _ ?_;clear hR R)|((first|refine Q0h ?_|refine Q0c ?_);intro Ψ hΨ hΨ')|(refine Q0b ?_;intro R hR)|(refine hΨ _ ?_;clear hΨ hΨ' Ψ)|refine Q0d ?_|refine Q0j ?_|refine Q0e ?_)|((with_reducible refine hΨ' _ _ ?_ ?_);(focus(simp;done));clear hΨ hΨ' Ψ)|((with_reducible apply Q1e);rfl;rfl;rfl;(try simp(disch:=omega) only[go_sem,k4,Q0l,Q0k,Q0a,Nat.mul_one,wrI]))|((with_reducible apply Q1l);rfl;rfl;rfl;all_goals(intro hb;first|(cases hb;done)|((try simp only[Bool.not_true,Bool.not_false] at hb);(first|((with_reducible intro K hK);simp(disch:=omega) only[go_sem,k4,Q0l,Q0k,Q0a,Nat.mul_one,wrI];((repeat(refine ndI (by first|assumption|omega|rfl) ?_));refine hK _ ?_;clear hK K))|((fail_if_success (with_reducible intro _));simp(disch:=omega) only[go_sem,k4,Q0l,Q0k,Q0a,Nat.mul_one,wrI])))))|((with_reducible apply Q0f);rfl;rfl;all_goals(intro hc;first|(cases hc;done)|(try simp only at hc)))|((with_reducible refine Q0t ?_ ?_);kernel_rfl;(with_reducible refine hR _ ?_);clear hR R)|((first|((with_reducible apply Q0r);rfl;rfl;rfl;rfl)|((with_reducible apply Q0n);rfl;rfl;rfl)|((first|((with_reducible apply Q0u);rfl;rfl)|((with_reducible apply Q0s);rfl;rfl;rfl;rfl;rfl));(simp(disch:=omega) only[rdE,rdOf,go_sem,k4,Q0l,Q0k,Q0a,Nat.mul_one,wrI];rfl);(intro τ hA hQ hN;((try simp only[Q1h,Op.operands,Call.operands,go_sem,k4,Q0l,Q0k,Q0a,Nat.mul_one,wrI,go_sem,List.mem_cons,List.not_mem_nil,forall_eq_or_imp,forall_eq,List.append_toArray,Option.toArray] at hA);(try simp only[go_sem,k4,Q0l,Q0k,Q0a,Nat.mul_one,wrI,List.mem_cons,List.not_mem_nil,forall_eq_or_imp,forall_eq] at hQ hN);(first|(revert hA;intro hA)|have hA:=trivial);(first|(revert hQ;intro hQ)|have hQ:=trivial);(first|(revert hN;intro hN)|have hN:=trivial);simp(disch:=omega) only[go_sem,k4,Q0l,Q0k,Q0a,Nat.mul_one,wrI,go_sem,hA,hQ,hN];(repeat(refine ndI (by first|assumption|omega|rfl) ?_));(first|apply Q1b|apply Q1a|apply Q0w)))));(simp(disch:=omega) only[St.eff,setO,Q0q,go_sem,k4,Q0l,Q0k,Q0a,Nat.mul_one,wrI]))|((with_reducible apply Q0o);rfl;rfl;rfl;all_goals intro hb;all_goals(simp(disch:=omega) only[St.eff,setO,Q0q,go_sem,k4,Q0l,Q0k,Q0a,Nat.mul_one,wrI]))|((with_reducible refine Q0p ?_ ?_ ?_ ?_);kernel_rfl;kernel_rfl;(first|kernel_rfl|simp[Q0m,Q1j,St.free,Q1i,AV.refsL,AV.refs]);intro R hR))))
      all_goals exact(St.le_of (by simp[leT]) (by simp[leH,hget]))
    · cases hb3
   |true=>
    have e1:=rpy hb3
    have g:=pins_fn n a b (by omega) g2 hn r.d2 s2
    rw[←e1] at g
    simp only[Bool.and_eq_true] at hb3
    obtain⟨⟨hb1,hb2⟩,hb3⟩:=hb3
    rw[hp] at g
    subst hb1 hb2 hb3
    clear q2 q3 q4 rpy rpn e1 hp
    (repeat(any_goals(first|((with_reducible refine Q1d ?_ ?_ ?_);rfl;rfl;intro K hK;(apply Q1n (g) (fun r=>r);rfl;rfl;rfl;rfl;exact Try.func69;kernel_rfl;rfl;rfl;(intro r hr q hq h;simp(disch:=omega) only[List.map_cons,List.map_nil,List.cons_append,List.nil_append,List.mem_cons,List.not_mem_nil,or_false] at hr hq;(try dsimp only at h);first|omega|(rcases hr with rfl|rfl|rfl<;>rcases hq with rfl|rfl|rfl<;>simp at h ⊢)|(rcases hr with rfl|rfl<;>rcases hq with rfl|rfl<;>simp at h ⊢)|((repeat' split at h)<;>omega));(simp(disch:=omega) only[Q1t,Q2h,AV.ren,AV.renL,Q1c,List.mem_cons,List.not_mem_nil,forall_eq_or_imp,forall_eq,Q2d,List.contains_cons,List.contains_nil,AV.refsL,AV.refs,Q0z,AV.inN,AV.inNL,inH,Q1k,go_sem,k4,Q0l,Q0k,Q0a,Nat.mul_one,wrI]));(simp(disch:=omega) only[Q0q,Q2k,renH,AV.ren,AV.renL,Q1c,go_sem,k4,Q0l,Q0k,Q0a,Nat.mul_one,wrI];refine hK _ ?_;clear hK K))|((with_reducible refine Q0g ?_ ?_);rfl;intro K hK;simp(disch:=omega) only[go_sem,k4,Q0l,Q0k,Q0a,Nat.mul_one,wrI];((repeat(refine ndI (by first|assumption|omega|rfl) ?_));refine hK _ ?_;clear hK K))|(with_reducible first|(refine Q0i ?_;refine hR _ ?_;clear hR R)|((first|refine Q0h ?_|refine Q0c ?_);intro Ψ hΨ hΨ')|(refine Q0b ?_;intro R hR)|(refine hΨ _ ?_;clear hΨ hΨ' Ψ)|refine Q0d ?_|refine Q0j ?_|refine Q0e ?_)|((with_reducible refine hΨ' _ _ ?_ ?_);(focus(simp;done));clear hΨ hΨ' Ψ)|((with_reducible apply Q1e);rfl;rfl;rfl;(try simp(disch:=omega) only[go_sem,k4,Q0l,Q0k,Q0a,Nat.mul_one,wrI]))|((with_reducible apply Q1l);rfl;rfl;rfl;all_goals(intro hb;first|(cases hb;done)|((try simp only[Bool.not_true,Bool.not_false] at hb);(first|((with_reducible intro K hK);simp(disch:=omega) only[go_sem,k4,Q0l,Q0k,Q0a,Nat.mul_one,wrI];((repeat(refine ndI (by first|assumption|omega|rfl) ?_));refine hK _ ?_;clear hK K))|((fail_if_success (with_reducible intro _));simp(disch:=omega) only[go_sem,k4,Q0l,Q0k,Q0a,Nat.mul_one,wrI])))))|((with_reducible apply Q0f);rfl;rfl;all_goals(intro hc;first|(cases hc;done)|(try simp only at hc)))|((with_reducible refine Q0t ?_ ?_);kernel_rfl;(with_reducible refine hR _ ?_);clear hR R)|((first|((with_reducible apply Q0r);rfl;rfl;rfl;rfl)|((with_reducible apply Q0n);rfl;rfl;rfl)|((first|((with_reducible apply Q0u);rfl;rfl)|((with_reducible apply Q0s);rfl;rfl;rfl;rfl;rfl));(simp(disch:=omega) only[rdE,rdOf,go_sem,k4,Q0l,Q0k,Q0a,Nat.mul_one,wrI];rfl);(intro τ hA hQ hN;((try simp only[Q1h,Op.operands,Call.operands,go_sem,k4,Q0l,Q0k,Q0a,Nat.mul_one,wrI,go_sem,List.mem_cons,List.not_mem_nil,forall_eq_or_imp,forall_eq,List.append_toArray,Option.toArray] at hA);(try simp only[go_sem,k4,Q0l,Q0k,Q0a,Nat.mul_one,wrI,List.mem_cons,List.not_mem_nil,forall_eq_or_imp,forall_eq] at hQ hN);(first|(revert hA;intro hA)|have hA:=trivial);(first|(revert hQ;intro hQ)|have hQ:=trivial);(first|(revert hN;intro hN)|have hN:=trivial);simp(disch:=omega) only[go_sem,k4,Q0l,Q0k,Q0a,Nat.mul_one,wrI,go_sem,hA,hQ,hN];(repeat(refine ndI (by first|assumption|omega|rfl) ?_));(first|apply Q1b|apply Q1a|apply Q0w)))));(simp(disch:=omega) only[St.eff,setO,Q0q,go_sem,k4,Q0l,Q0k,Q0a,Nat.mul_one,wrI]))|((with_reducible apply Q0o);rfl;rfl;rfl;all_goals intro hb;all_goals(simp(disch:=omega) only[St.eff,setO,Q0q,go_sem,k4,Q0l,Q0k,Q0a,Nat.mul_one,wrI]))|((with_reducible refine Q0p ?_ ?_ ?_ ?_);kernel_rfl;kernel_rfl;(first|kernel_rfl|simp[Q0m,Q1j,St.free,Q1i,AV.refsL,AV.refs]);intro R hR))))
    all_goals exact(St.le_of (by simp[leT]) (by simp[leH,hget]))
 replace q2:=q2 hp
 replace q3:=q3 hp
 replace q4:=q4 hp
 clear rpy rpn hp k4 B1 B2 hc1 s1 s2 Hc
 generalize r.pi.1=d3 at *
 generalize r.pivot=pv at *
 generalize r.lim=lm at *
 have y0:=Q1z d3
 rw[s3] at y0
 have y2:=Q2o d3 (j:=pv) (by omega)
 cases h87:(decide (a>0) && !ltI d3[a-1]! d3[pv]!) with
 |true=>
  clear q3 q4
  obtain⟨⟨mid,d4⟩,hx⟩:∃q,Sort.partitionEqual ltI d3 a b pv=q:=⟨_,rfl⟩
  have ha0:a>0∧ltI d3[a-1]! d3[pv]! = false:=by simpa using h87
  obtain⟨r1,r2,r3,r4,_⟩:=Sort.round_eq swoI (Sort.partitionEqual_holds ltI) ha0.1 hpv.1 hpv.2 (by omega) B3 ha0.2 hx
  have q5:=q2 h87 (by rw[hx];exact⟨r1,r2⟩)
  have g:=parteq_fn n a b pv hpv.1 hpv.2 g2 hn d3 s3
  rw[hx] at g q5
  dsimp only at g q5
  have hΨ1:=fun (σ':St) (h:σ'.le (stQ0 n ⟨mid,b,lm,wb,wp,d4⟩))=>hN σ' ⟨⟨mid,b,lm,wb,wp,d4⟩,r2,g2,by dsimp only;omega,gl,by rw[←s3];exact r3,r4,q5.symm⟩ (by dsimp only;omega) h
  have y1:=Q2o d3 (j:=a-1) (by omega)
  have k5:decide ((a:Int)>0)=true:=decide_eq_true (by omega)
  have w3:(a:Int)-1=((a-1:Nat):Int):=by omega
  have lf:=Q3a d3[a-1]! d3[pv]!
  rw[show decide (d3[a-1]! < d3[pv]!)=false from ha0.2] at lf
  clear q2 q5 hx ha0 h87 r3 r4 hN
  generalize d3[a-1]! = zx at *
  generalize d3[pv]! = zy at *
  refine Q2g _ _ _ ?_
  (have W:=ndI k5 (ndI w3 (ndI y0 (ndI y1 (ndI y2 @wrI))));(repeat(any_goals(first|((with_reducible refine Q1d ?_ ?_ ?_);rfl;rfl;intro K hK;(apply Q1n (g) (fun r=>r);rfl;rfl;rfl;rfl;exact Try.func71;kernel_rfl;rfl;rfl;(intro r hr q hq h;simp(disch:=omega) only[List.map_cons,List.map_nil,List.cons_append,List.nil_append,List.mem_cons,List.not_mem_nil,or_false] at hr hq;(try dsimp only at h);first|omega|(rcases hr with rfl|rfl|rfl<;>rcases hq with rfl|rfl|rfl<;>simp at h ⊢)|(rcases hr with rfl|rfl<;>rcases hq with rfl|rfl<;>simp at h ⊢)|((repeat' split at h)<;>omega));(simp(disch:=omega) only[Q1t,Q2h,AV.ren,AV.renL,Q1c,List.mem_cons,List.not_mem_nil,forall_eq_or_imp,forall_eq,Q2d,List.contains_cons,List.contains_nil,AV.refsL,AV.refs,Q0z,AV.inN,AV.inNL,inH,Q1k,go_sem,W,Q0l,Q0k,Q0a,Nat.mul_one]));(simp(disch:=omega) only[Q0q,Q2k,renH,AV.ren,AV.renL,Q1c,go_sem,W,Q0l,Q0k,Q0a,Nat.mul_one];refine hK _ ?_;clear hK K))|((with_reducible refine Q0g ?_ ?_);rfl;intro K hK;simp(disch:=omega) only[go_sem,W,Q0l,Q0k,Q0a,Nat.mul_one];((repeat(refine ndI (by first|assumption|omega|rfl) ?_));refine hK _ ?_;clear hK K))|(with_reducible first|(refine Q0i ?_;refine hR _ ?_;clear hR R)|((first|refine Q0h ?_|refine Q0c ?_);intro Ψ hΨ hΨ')|(refine Q0b ?_;intro R hR)|(refine hΨ _ ?_;clear hΨ hΨ' Ψ)|refine Q0d ?_|refine Q0j ?_|refine Q0e ?_)|((with_reducible refine hΨ' _ _ ?_ ?_);(focus(simp;done));clear hΨ hΨ' Ψ)|((with_reducible apply Q1e);rfl;rfl;rfl;(try simp(disch:=omega) only[go_sem,W,Q0l,Q0k,Q0a,Nat.mul_one]))|((with_reducible apply Q1l);rfl;rfl;rfl;all_goals(intro hb;first|(cases hb;done)|((try simp only[Bool.not_true,Bool.not_false] at hb);(first|((with_reducible intro K hK);simp(disch:=omega) only[go_sem,W,Q0l,Q0k,Q0a,Nat.mul_one];((repeat(refine ndI (by first|assumption|omega|rfl) ?_));refine hK _ ?_;clear hK K))|((fail_if_success (with_reducible intro _));simp(disch:=omega) only[go_sem,W,Q0l,Q0k,Q0a,Nat.mul_one])))))|((with_reducible apply Q0f);rfl;rfl;all_goals(intro hc;first|(cases hc;done)|(try simp only at hc)))|((with_reducible refine Q0t ?_ ?_);(apply Q1f);(focus(repeat(first|exact Sims.nil|((apply Sims.cons);(focus(first|((apply Ef.sim_row);assumption)|exact Ef.sim_refl _))))));kernel_rfl;(with_reducible refine hR _ ?_);clear hR R)|((first|((with_reducible apply Q0r);rfl;rfl;rfl;rfl)|((with_reducible apply Q0n);rfl;rfl;rfl)|((first|((with_reducible apply Q1m);rfl;rfl)|((with_reducible apply Q1p);rfl;rfl;rfl;rfl;rfl));((apply Q1g (lf);rfl;rfl;rfl;rfl;exact Try.func70);kernel_rfl;rfl;(focus((simp(disch:=omega) only[go_sem,W,Q0l,Q0k,Q0a,Nat.mul_one]);(try rfl);done));(first|rfl|simp[AV.inNL,AV.inN])))|((first|((with_reducible apply Q0u);rfl;rfl)|((with_reducible apply Q0s);rfl;rfl;rfl;rfl;rfl));(simp(disch:=omega) only[rdE,rdOf,go_sem,W,Q0l,Q0k,Q0a,Nat.mul_one];rfl);(intro τ hA hQ hN;((try simp only[Q1h,Op.operands,Call.operands,go_sem,W,Q0l,Q0k,Q0a,Nat.mul_one,go_sem,List.mem_cons,List.not_mem_nil,forall_eq_or_imp,forall_eq,List.append_toArray,Option.toArray] at hA);(try simp only[go_sem,W,Q0l,Q0k,Q0a,Nat.mul_one,List.mem_cons,List.not_mem_nil,forall_eq_or_imp,forall_eq] at hQ hN);(first|(revert hA;intro hA)|have hA:=trivial);(first|(revert hQ;intro hQ)|have hQ:=trivial);(first|(revert hN;intro hN)|have hN:=trivial);simp(disch:=omega) only[go_sem,W,Q0l,Q0k,Q0a,Nat.mul_one,go_sem,hA,hQ,hN];(repeat(refine ndI (by first|assumption|omega|rfl) ?_));(first|apply Q1b|apply Q1a|apply Q0w)))));(simp(disch:=omega) only[St.eff,setO,Q0q,go_sem,W,Q0l,Q0k,Q0a,Nat.mul_one]))|((with_reducible apply Q0o);rfl;rfl;rfl;all_goals intro hb;all_goals(simp(disch:=omega) only[St.eff,setO,Q0q,go_sem,W,Q0l,Q0k,Q0a,Nat.mul_one]))|((with_reducible refine Q0p ?_ ?_ ?_ ?_);kernel_rfl;kernel_rfl;(simp[Q0m,Q1j,St.free,Q1i,AV.refsL,AV.refs,Q0a]);intro R hR)))))
  all_goals exact hΨ1 _ (St.le_of (by simp[leT]) (by simp[leH,hget]))
 |false=>
 clear q2
 replace q3:=q3 h87
 replace q4:=q4 h87
 refine AW.seqJ (stQ2 n a b lm c0 wb wp d3 pv h0) ?_ ?_
 · intro Ψ hΨ hΨ'
   clear q3 q4
   rcases Nat.eq_zero_or_pos a with ha0|ha0
   · have k5:decide ((a:Int)>0)=false:=decide_eq_false (by omega)
     (have W:=ndI k5 (ndI y0 (ndI y2 @wrI));(repeat(any_goals(first|((with_reducible refine Q0g ?_ ?_);rfl;intro K hK;simp(disch:=omega) only[go_sem,W,Q0a,Nat.mul_one];((repeat(refine ndI (by first|assumption|omega|rfl) ?_));refine hK _ ?_;clear hK K))|(with_reducible first|(refine Q0i ?_;refine hR _ ?_;clear hR R)|((first|refine Q0h ?_|refine Q0c ?_);intro Ψ hΨ hΨ')|(refine Q0b ?_;intro R hR)|(refine hΨ _ ?_;clear hΨ hΨ' Ψ)|refine Q0d ?_|refine Q0j ?_|refine Q0e ?_)|((with_reducible refine hΨ' _ _ ?_ ?_);(focus(simp;done));clear hΨ hΨ' Ψ)|((with_reducible apply Q1e);rfl;rfl;rfl;(try simp(disch:=omega) only[go_sem,W,Q0a,Nat.mul_one]))|((with_reducible apply Q1l);rfl;rfl;rfl;all_goals(intro hb;first|(cases hb;done)|((try simp only[Bool.not_true,Bool.not_false] at hb);(first|((with_reducible intro K hK);simp(disch:=omega) only[go_sem,W,Q0a,Nat.mul_one];((repeat(refine ndI (by first|assumption|omega|rfl) ?_));refine hK _ ?_;clear hK K))|((fail_if_success (with_reducible intro _));simp(disch:=omega) only[go_sem,W,Q0a,Nat.mul_one])))))|((with_reducible apply Q0f);rfl;rfl;all_goals(intro hc;first|(cases hc;done)|(try simp only at hc)))|((with_reducible refine Q0t ?_ ?_);(apply Q1f);(focus(repeat(first|exact Sims.nil|((apply Sims.cons);(focus(first|((apply Ef.sim_row);assumption)|exact Ef.sim_refl _))))));kernel_rfl;(with_reducible refine hR _ ?_);clear hR R)|((first|((with_reducible apply Q0r);rfl;rfl;rfl;rfl)|((with_reducible apply Q0n);rfl;rfl;rfl)|((first|((with_reducible apply Q1m);rfl;rfl)|((with_reducible apply Q1p);rfl;rfl;rfl;rfl;rfl));((apply Q1g (lf);rfl;rfl;rfl;rfl;exact Try.func70);kernel_rfl;rfl;(focus((simp(disch:=omega) only[go_sem,W,Q0a,Nat.mul_one]);(try rfl);done));(first|rfl|simp[AV.inNL,AV.inN])))|((first|((with_reducible apply Q0u);rfl;rfl)|((with_reducible apply Q0s);rfl;rfl;rfl;rfl;rfl));(simp(disch:=omega) only[rdE,rdOf,go_sem,W,Q0a,Nat.mul_one];rfl);(intro τ hA hQ hN;((try simp only[Q1h,Op.operands,Call.operands,go_sem,W,Q0a,Nat.mul_one,go_sem,List.mem_cons,List.not_mem_nil,forall_eq_or_imp,forall_eq,List.append_toArray,Option.toArray] at hA);(try simp only[go_sem,W,Q0a,Nat.mul_one,List.mem_cons,List.not_mem_nil,forall_eq_or_imp,forall_eq] at hQ hN);(first|(revert hA;intro hA)|have hA:=trivial);(first|(revert hQ;intro hQ)|have hQ:=trivial);(first|(revert hN;intro hN)|have hN:=trivial);simp(disch:=omega) only[go_sem,W,Q0a,Nat.mul_one,go_sem,hA,hQ,hN];(repeat(refine ndI (by first|assumption|omega|rfl) ?_));(first|apply Q1b|apply Q1a|apply Q0w)))));(simp(disch:=omega) only[St.eff,setO,Q0q,go_sem,W,Q0a,Nat.mul_one]))|((with_reducible apply Q0o);rfl;rfl;rfl;all_goals intro hb;all_goals(simp(disch:=omega) only[St.eff,setO,Q0q,go_sem,W,Q0a,Nat.mul_one]))|((with_reducible refine Q0p ?_ ?_ ?_ ?_);kernel_rfl;kernel_rfl;(simp[Q0m,Q1j,St.free,Q1i,AV.refsL,AV.refs,Q0a]);intro R hR)))))
     all_goals exact(St.le_of (by simp[leT]) (by simp[leH,hget]))
   · have k5:decide ((a:Int)>0)=true:=decide_eq_true (by omega)
     have y1:=Q2o d3 (j:=a-1) (by omega)
     have w3:(a:Int)-1=((a-1:Nat):Int):=by omega
     have lf:=Q3a d3[a-1]! d3[pv]!
     have hl:d3[a-1]! < d3[pv]!:=by
      rw[decide_eq_true ha0] at h87
      simpa using h87
     rw[show decide (d3[a-1]! < d3[pv]!)=true from decide_eq_true hl] at lf
     clear hl h87
     generalize d3[a-1]! = zx at *
     generalize d3[pv]! = zy at *
     (have W:=ndI k5 (ndI w3 (ndI y0 (ndI y1 (ndI y2 @wrI))));(repeat(any_goals(first|((with_reducible refine Q0g ?_ ?_);rfl;intro K hK;simp(disch:=omega) only[go_sem,W,Q0a,Nat.mul_one];((repeat(refine ndI (by first|assumption|omega|rfl) ?_));refine hK _ ?_;clear hK K))|(with_reducible first|(refine Q0i ?_;refine hR _ ?_;clear hR R)|((first|refine Q0h ?_|refine Q0c ?_);intro Ψ hΨ hΨ')|(refine Q0b ?_;intro R hR)|(refine hΨ _ ?_;clear hΨ hΨ' Ψ)|refine Q0d ?_|refine Q0j ?_|refine Q0e ?_)|((with_reducible refine hΨ' _ _ ?_ ?_);(focus(simp;done));clear hΨ hΨ' Ψ)|((with_reducible apply Q1e);rfl;rfl;rfl;(try simp(disch:=omega) only[go_sem,W,Q0a,Nat.mul_one]))|((with_reducible apply Q1l);rfl;rfl;rfl;all_goals(intro hb;first|(cases hb;done)|((try simp only[Bool.not_true,Bool.not_false] at hb);(first|((with_reducible intro K hK);simp(disch:=omega) only[go_sem,W,Q0a,Nat.mul_one];((repeat(refine ndI (by first|assumption|omega|rfl) ?_));refine hK _ ?_;clear hK K))|((fail_if_success (with_reducible intro _));simp(disch:=omega) only[go_sem,W,Q0a,Nat.mul_one])))))|((with_reducible apply Q0f);rfl;rfl;all_goals(intro hc;first|(cases hc;done)|(try simp only at hc)))|((with_reducible refine Q0t ?_ ?_);(apply Q1f);(focus(repeat(first|exact Sims.nil|((apply Sims.cons);(focus(first|((apply Ef.sim_row);assumption)|exact Ef.sim_refl _))))));kernel_rfl;(with_reducible refine hR _ ?_);clear hR R)|((first|((with_reducible apply Q0r);rfl;rfl;rfl;rfl)|((with_reducible apply Q0n);rfl;rfl;rfl)|((first|((with_reducible apply Q1m);rfl;rfl)|((with_reducible apply Q1p);rfl;rfl;rfl;rfl;rfl));((apply Q1g (lf);rfl;rfl;rfl;rfl;exact Try.func70);kernel_rfl;rfl;(focus((simp(disch:=omega) only[go_sem,W,Q0a,Nat.mul_one]);(try rfl);done));(first|rfl|simp[AV.inNL,AV.inN])))|((first|((with_reducible apply Q0u);rfl;rfl)|((with_reducible apply Q0s);rfl;rfl;rfl;rfl;rfl));(simp(disch:=omega) only[rdE,rdOf,go_sem,W,Q0a,Nat.mul_one];rfl);(intro τ hA hQ hN;((try simp only[Q1h,Op.operands,Call.operands,go_sem,W,Q0a,Nat.mul_one,go_sem,List.mem_cons,List.not_mem_nil,forall_eq_or_imp,forall_eq,List.append_toArray,Option.toArray] at hA);(try simp only[go_sem,W,Q0a,Nat.mul_one,List.mem_cons,List.not_mem_nil,forall_eq_or_imp,forall_eq] at hQ hN);(first|(revert hA;intro hA)|have hA:=trivial);(first|(revert hQ;intro hQ)|have hQ:=trivial);(first|(revert hN;intro hN)|have hN:=trivial);simp(disch:=omega) only[go_sem,W,Q0a,Nat.mul_one,go_sem,hA,hQ,hN];(repeat(refine ndI (by first|assumption|omega|rfl) ?_));(first|apply Q1b|apply Q1a|apply Q0w)))));(simp(disch:=omega) only[St.eff,setO,Q0q,go_sem,W,Q0a,Nat.mul_one]))|((with_reducible apply Q0o);rfl;rfl;rfl;all_goals intro hb;all_goals(simp(disch:=omega) only[St.eff,setO,Q0q,go_sem,W,Q0a,Nat.mul_one]))|((with_reducible refine Q0p ?_ ?_ ?_ ?_);kernel_rfl;kernel_rfl;(simp[Q0m,Q1j,St.free,Q1i,AV.refsL,AV.refs,Q0a]);intro R hR)))))
     all_goals exact(St.le_of (by simp[leT]) (by simp[leH,hget]))
 clear y0 y2 h87
 obtain⟨⟨mid,ap,d4⟩,hx⟩:∃q,Sort.partition ltI d3 a b pv=q:=⟨_,rfl⟩
 obtain⟨r1,r2,r3,r4,r5,r6,r7⟩:=Sort.round_part swoI (Sort.partition_holds ltI) hpv.1 hpv.2 (by omega) B3 hx
 replace q3:=q3 (by rw[hx];exact⟨r1,r2⟩)
 replace q4:=q4 (by rw[hx];exact⟨r1,r2⟩)
 have g:=part_fn n a b pv hpv.1 hpv.2 g2 hn d3 s3
 rw[hx] at g q3 q4
 dsimp only at g q3 q4
 rw[s3] at r3
 have w3:(mid:Int)-(a:Int)=((mid-a:Nat):Int):=by omega
 have w4:(b:Int)-(mid:Int)=((b-mid:Nat):Int):=by omega
 have w5:(c0:Int).tdiv 8=(((b-a)/8:Nat):Int):=by rw[Int.tdiv_eq_ediv_of_nonneg (by omega)];omega
 have w6:(mid:Int)+1=((mid+1:Nat):Int):=by omega
 clear hx B3
 by_cases h4:mid-a<b-mid
 · have k6:decide (((mid-a:Nat):Int)<((b-mid:Nat):Int))=true:=decide_eq_true (by omega)
   have q5:=q3 h4
   have gp:=ih a mid lm d4 (by omega) r1 (by omega) gl r3 r4
   obtain⟨pL,sL⟩:=Sort.pdq_sorts ltI swoI d4 a mid lm true true r1 (by omega) r4
   obtain⟨bal,hbal⟩:∃v,decide (mid-a≥(b-a)/8)=v:=⟨_,rfl⟩
   have k7:decide (((mid-a:Nat):Int)≥(((b-a)/8:Nat):Int))=bal:=by rw[←hbal];exact decide_eq_decide.2 ⟨fun h=>by omega,fun h=>by omega⟩
   rw[hbal] at q5
   have hΨ1:=fun (σ':St) (h:σ'.le (stQ0 n ⟨mid+1,b,lm,bal,ap,Sort.pdq ltI d4 a mid lm true true⟩))=>hN σ' ⟨⟨mid+1,b,lm,bal,ap,Sort.pdq ltI d4 a mid lm true true⟩,by dsimp only;omega,g2,by dsimp only;omega,gl,by dsimp only;rw[←r3];exact pL.1,(r6 _ pL sL).1,q5.symm⟩ (by dsimp only;omega) h
   clear q3 q4 q5 hbal r4 r5 r6 r7 pL sL hN
   generalize Sort.pdq ltI d4 a mid lm true true=d5 at *
   refine Q2g _ _ _ ?_
   (have W:=ndI w3 (ndI w4 (ndI w5 (ndI w6 (ndI k6 (ndI k7 @wrI)))));(repeat(any_goals(first|((with_reducible refine Q1d ?_ ?_ ?_);rfl;rfl;intro K hK;(first|(apply Q1n (g) (fun r=>r);rfl;rfl;rfl;rfl;exact Try.func72;kernel_rfl;rfl;rfl;(intro r hr q hq h;simp(disch:=omega) only[List.map_cons,List.map_nil,List.cons_append,List.nil_append,List.mem_cons,List.not_mem_nil,or_false] at hr hq;(try dsimp only at h);first|omega|(rcases hr with rfl|rfl|rfl<;>rcases hq with rfl|rfl|rfl<;>simp at h ⊢)|(rcases hr with rfl|rfl<;>rcases hq with rfl|rfl<;>simp at h ⊢)|((repeat' split at h)<;>omega));(simp(disch:=omega) only[Q1t,Q2h,AV.ren,AV.renL,Q1c,List.mem_cons,List.not_mem_nil,forall_eq_or_imp,forall_eq,Q2d,List.contains_cons,List.contains_nil,AV.refsL,AV.refs,Q0z,AV.inN,AV.inNL,inH,Q1k,go_sem,W,Q0l,Q0k,Q0a,Nat.mul_one]))|(apply Q1n (gp) (fun r=>r);rfl;rfl;rfl;rfl;exact Try.func52;kernel_rfl;rfl;rfl;(intro r hr q hq h;simp(disch:=omega) only[List.map_cons,List.map_nil,List.cons_append,List.nil_append,List.mem_cons,List.not_mem_nil,or_false] at hr hq;(try dsimp only at h);first|omega|(rcases hr with rfl|rfl|rfl<;>rcases hq with rfl|rfl|rfl<;>simp at h ⊢)|(rcases hr with rfl|rfl<;>rcases hq with rfl|rfl<;>simp at h ⊢)|((repeat' split at h)<;>omega));(simp(disch:=omega) only[Q1t,Q2h,AV.ren,AV.renL,Q1c,List.mem_cons,List.not_mem_nil,forall_eq_or_imp,forall_eq,Q2d,List.contains_cons,List.contains_nil,AV.refsL,AV.refs,Q0z,AV.inN,AV.inNL,inH,Q1k,go_sem,W,Q0l,Q0k,Q0a,Nat.mul_one])));(simp(disch:=omega) only[Q0q,Q2k,renH,AV.ren,AV.renL,Q1c,go_sem,W,Q0l,Q0k,Q0a,Nat.mul_one];refine hK _ ?_;clear hK K))|((with_reducible refine Q0g ?_ ?_);rfl;intro K hK;simp(disch:=omega) only[go_sem,W,Q0l,Q0k,Q0a,Nat.mul_one];((repeat(refine ndI (by first|assumption|omega|rfl) ?_));refine hK _ ?_;clear hK K))|(with_reducible first|(refine Q0i ?_;refine hR _ ?_;clear hR R)|((first|refine Q0h ?_|refine Q0c ?_);intro Ψ hΨ hΨ')|(refine Q0b ?_;intro R hR)|(refine hΨ _ ?_;clear hΨ hΨ' Ψ)|refine Q0d ?_|refine Q0j ?_|refine Q0e ?_)|((with_reducible refine hΨ' _ _ ?_ ?_);(focus(simp;done));clear hΨ hΨ' Ψ)|((with_reducible apply Q1e);rfl;rfl;rfl;(try simp(disch:=omega) only[go_sem,W,Q0l,Q0k,Q0a,Nat.mul_one]))|((with_reducible apply Q1l);rfl;rfl;rfl;all_goals(intro hb;first|(cases hb;done)|((try simp only[Bool.not_true,Bool.not_false] at hb);(first|((with_reducible intro K hK);simp(disch:=omega) only[go_sem,W,Q0l,Q0k,Q0a,Nat.mul_one];((repeat(refine ndI (by first|assumption|omega|rfl) ?_));refine hK _ ?_;clear hK K))|((fail_if_success (with_reducible intro _));simp(disch:=omega) only[go_sem,W,Q0l,Q0k,Q0a,Nat.mul_one])))))|((with_reducible apply Q0f);rfl;rfl;all_goals(intro hc;first|(cases hc;done)|(try simp only at hc)))|((with_reducible refine Q0t ?_ ?_);kernel_rfl;(with_reducible refine hR _ ?_);clear hR R)|((first|((with_reducible apply Q0r);rfl;rfl;rfl;rfl)|((with_reducible apply Q0n);rfl;rfl;rfl)|((first|((with_reducible apply Q0u);rfl;rfl)|((with_reducible apply Q0s);rfl;rfl;rfl;rfl;rfl));(simp(disch:=omega) only[rdE,rdOf,go_sem,W,Q0l,Q0k,Q0a,Nat.mul_one];rfl);(intro τ hA hQ hN;((try simp only[Q1h,Op.operands,Call.operands,go_sem,W,Q0l,Q0k,Q0a,Nat.mul_one,go_sem,List.mem_cons,List.not_mem_nil,forall_eq_or_imp,forall_eq,List.append_toArray,Option.toArray] at hA);(try simp only[go_sem,W,Q0l,Q0k,Q0a,Nat.mul_one,List.mem_cons,List.not_mem_nil,forall_eq_or_imp,forall_eq] at hQ hN);(first|(revert hA;intro hA)|have hA:=trivial);(first|(revert hQ;intro hQ)|have hQ:=trivial);(first|(revert hN;intro hN)|have hN:=trivial);simp(disch:=omega) only[go_sem,W,Q0l,Q0k,Q0a,Nat.mul_one,go_sem,hA,hQ,hN];(repeat(refine ndI (by first|assumption|omega|rfl) ?_));(first|apply Q1b|apply Q1a|apply Q0w)))));(simp(disch:=omega) only[St.eff,setO,Q0q,go_sem,W,Q0l,Q0k,Q0a,Nat.mul_one]))|((with_reducible apply Q0o);rfl;rfl;rfl;all_goals intro hb;all_goals(simp(disch:=omega) only[St.eff,setO,Q0q,go_sem,W,Q0l,Q0k,Q0a,Nat.mul_one]))|((with_reducible refine Q0p ?_ ?_ ?_ ?_);kernel_rfl;kernel_rfl;(first|kernel_rfl|simp[Q0m,Q1j,St.free,Q1i,AV.refsL,AV.refs]);intro R hR)))))
   all_goals exact hΨ1 _ (St.le_of (by simp[leT]) (by simp[leH,hget]))
 · have k6:decide (((mid-a:Nat):Int)<((b-mid:Nat):Int))=false:=decide_eq_false (by omega)
   have q5:=q4 h4
   have gp:=ih (mid+1) b lm d4 (by omega) (by omega) g2 gl r3 r5
   obtain⟨pL,sL⟩:=Sort.pdq_sorts ltI swoI d4 (mid+1) b lm true true (by omega) (by omega) r5
   obtain⟨bal,hbal⟩:∃v,decide (b-mid≥(b-a)/8)=v:=⟨_,rfl⟩
   have k7:decide (((b-mid:Nat):Int)≥(((b-a)/8:Nat):Int))=bal:=by rw[←hbal];exact decide_eq_decide.2 ⟨fun h=>by omega,fun h=>by omega⟩
   rw[hbal] at q5
   have hΨ1:=fun (σ':St) (h:σ'.le (stQ0 n ⟨a,mid,lm,bal,ap,Sort.pdq ltI d4 (mid+1) b lm true true⟩))=>hN σ' ⟨⟨a,mid,lm,bal,ap,Sort.pdq ltI d4 (mid+1) b lm true true⟩,r1,by dsimp only;omega,by dsimp only;omega,gl,by dsimp only;rw[←r3];exact pL.1,(r7 _ pL sL).1,q5.symm⟩ (by dsimp only;omega) h
   clear q3 q4 q5 hbal r4 r5 r6 r7 pL sL hN
   generalize Sort.pdq ltI d4 (mid+1) b lm true true=d5 at *
   refine Q2g _ _ _ ?_
   (have W:=ndI w3 (ndI w4 (ndI w5 (ndI w6 (ndI k6 (ndI k7 @wrI)))));(repeat(any_goals(first|((with_reducible refine Q1d ?_ ?_ ?_);rfl;rfl;intro K hK;(first|(apply Q1n (g) (fun r=>r);rfl;rfl;rfl;rfl;exact Try.func72;kernel_rfl;rfl;rfl;(intro r hr q hq h;simp(disch:=omega) only[List.map_cons,List.map_nil,List.cons_append,List.nil_append,List.mem_cons,List.not_mem_nil,or_false] at hr hq;(try dsimp only at h);first|omega|(rcases hr with rfl|rfl|rfl<;>rcases hq with rfl|rfl|rfl<;>simp at h ⊢)|(rcases hr with rfl|rfl<;>rcases hq with rfl|rfl<;>simp at h ⊢)|((repeat' split at h)<;>omega));(simp(disch:=omega) only[Q1t,Q2h,AV.ren,AV.renL,Q1c,List.mem_cons,List.not_mem_nil,forall_eq_or_imp,forall_eq,Q2d,List.contains_cons,List.contains_nil,AV.refsL,AV.refs,Q0z,AV.inN,AV.inNL,inH,Q1k,go_sem,W,Q0l,Q0k,Q0a,Nat.mul_one]))|(apply Q1n (gp) (fun r=>r);rfl;rfl;rfl;rfl;exact Try.func52;kernel_rfl;rfl;rfl;(intro r hr q hq h;simp(disch:=omega) only[List.map_cons,List.map_nil,List.cons_append,List.nil_append,List.mem_cons,List.not_mem_nil,or_false] at hr hq;(try dsimp only at h);first|omega|(rcases hr with rfl|rfl|rfl<;>rcases hq with rfl|rfl|rfl<;>simp at h ⊢)|(rcases hr with rfl|rfl<;>rcases hq with rfl|rfl<;>simp at h ⊢)|((repeat' split at h)<;>omega));(simp(disch:=omega) only[Q1t,Q2h,AV.ren,AV.renL,Q1c,List.mem_cons,List.not_mem_nil,forall_eq_or_imp,forall_eq,Q2d,List.contains_cons,List.contains_nil,AV.refsL,AV.refs,Q0z,AV.inN,AV.inNL,inH,Q1k,go_sem,W,Q0l,Q0k,Q0a,Nat.mul_one])));(simp(disch:=omega) only[Q0q,Q2k,renH,AV.ren,AV.renL,Q1c,go_sem,W,Q0l,Q0k,Q0a,Nat.mul_one];refine hK _ ?_;clear hK K))|((with_reducible refine Q0g ?_ ?_);rfl;intro K hK;simp(disch:=omega) only[go_sem,W,Q0l,Q0k,Q0a,Nat.mul_one];((repeat(refine ndI (by first|assumption|omega|rfl) ?_));refine hK _ ?_;clear hK K))|(with_reducible first|(refine Q0i ?_;refine hR _ ?_;clear hR R)|((first|refine Q0h ?_|refine Q0c ?_);intro Ψ hΨ hΨ')|(refine Q0b ?_;intro R hR)|(refine hΨ _ ?_;clear hΨ hΨ' Ψ)|refine Q0d ?_|refine Q0j ?_|refine Q0e ?_)|((with_reducible refine hΨ' _ _ ?_ ?_);(focus(simp;done));clear hΨ hΨ' Ψ)|((with_reducible apply Q1e);rfl;rfl;rfl;(try simp(disch:=omega) only[go_sem,W,Q0l,Q0k,Q0a,Nat.mul_one]))|((with_reducible apply Q1l);rfl;rfl;rfl;all_goals(intro hb;first|(cases hb;done)|((try simp only[Bool.not_true,Bool.not_false] at hb);(first|((with_reducible intro K hK);simp(disch:=omega) only[go_sem,W,Q0l,Q0k,Q0a,Nat.mul_one];((repeat(refine ndI (by first|assumption|omega|rfl) ?_));refine hK _ ?_;clear hK K))|((fail_if_success (with_reducible intro _));simp(disch:=omega) only[go_sem,W,Q0l,Q0k,Q0a,Nat.mul_one])))))|((with_reducible apply Q0f);rfl;rfl;all_goals(intro hc;first|(cases hc;done)|(try simp only at hc)))|((with_reducible refine Q0t ?_ ?_);kernel_rfl;(with_reducible refine hR _ ?_);clear hR R)|((first|((with_reducible apply Q0r);rfl;rfl;rfl;rfl)|((with_reducible apply Q0n);rfl;rfl;rfl)|((first|((with_reducible apply Q0u);rfl;rfl)|((with_reducible apply Q0s);rfl;rfl;rfl;rfl;rfl));(simp(disch:=omega) only[rdE,rdOf,go_sem,W,Q0l,Q0k,Q0a,Nat.mul_one];rfl);(intro τ hA hQ hN;((try simp only[Q1h,Op.operands,Call.operands,go_sem,W,Q0l,Q0k,Q0a,Nat.mul_one,go_sem,List.mem_cons,List.not_mem_nil,forall_eq_or_imp,forall_eq,List.append_toArray,Option.toArray] at hA);(try simp only[go_sem,W,Q0l,Q0k,Q0a,Nat.mul_one,List.mem_cons,List.not_mem_nil,forall_eq_or_imp,forall_eq] at hQ hN);(first|(revert hA;intro hA)|have hA:=trivial);(first|(revert hQ;intro hQ)|have hQ:=trivial);(first|(revert hN;intro hN)|have hN:=trivial);simp(disch:=omega) only[go_sem,W,Q0l,Q0k,Q0a,Nat.mul_one,go_sem,hA,hQ,hN];(repeat(refine ndI (by first|assumption|omega|rfl) ?_));(first|apply Q1b|apply Q1a|apply Q0w)))));(simp(disch:=omega) only[St.eff,setO,Q0q,go_sem,W,Q0l,Q0k,Q0a,Nat.mul_one]))|((with_reducible apply Q0o);rfl;rfl;rfl;all_goals intro hb;all_goals(simp(disch:=omega) only[St.eff,setO,Q0q,go_sem,W,Q0l,Q0k,Q0a,Nat.mul_one]))|((with_reducible refine Q0p ?_ ?_ ?_ ?_);kernel_rfl;kernel_rfl;(first|kernel_rfl|simp[Q0m,Q1j,St.free,Q1i,AV.refsL,AV.refs]);intro R hR)))))
   all_goals exact hΨ1 _ (St.le_of (by simp[leT]) (by simp[leH,hget]))
end
section
open Go.RowKit
def forced(l:List Oper)(k:Nat):Bool:=(List.range l.length).all fun i=>decide (i<k)||(List.range i).all fun j=>pre l i j
def Q4p(l:List Oper):Bool:=l.all fun o=>o.guard.isNone
theorem Q6p{l:List Oper}{listed:Array Bool}{i:Nat}(hsz:listed.size=l.length)(hi:i∈Region.ready .any l.toArray listed):∃o,l[i]? = some o∧listed.getD i false=false∧∀e∈o.after,Region.binds .any e=true→listed.getD e.on false=true:=by
 unfold Region.ready at hi
 rw[List.mem_filter] at hi
 obtain⟨h1,h2⟩:=hi
 have hin:i<l.length:=by simpa using h1
 have ho:l[i]? = some l[i]:=List.getElem?_eq_getElem hin
 simp only[Bool.and_eq_true,Bool.not_eq_true',List.getElem?_toArray,ho,Option.map_some,Option.getD_some,Array.all_eq_true_iff_forall_mem] at h2
 refine⟨_,ho,?_,fun e he hb=>?_⟩
 · have:=h2.1
   simp only[Array.getD,hsz,hin,dif_pos] at this ⊢
   exact this
 · have:=h2.2 e he
   simpa [hb] using this
theorem X4o{l:List Oper}{listed:Array Bool}{j:Nat}(hback:Q3r l=true)(hsz:listed.size=l.length)(hjl:j<l.length)(hju:listed.getD j false=false)(hlow:∀k,k<j→listed.getD k false=true):j∈Region.ready .any l.toArray listed:=by
 have ho:l[j]? = some l[j]:=List.getElem?_eq_getElem hjl
 have hb:=List.all_eq_true.1 hback j (by simpa using hjl)
 simp only[ho,Array.all_eq_true_iff_forall_mem,Bool.or_eq_true,Bool.not_eq_true',decide_eq_true_eq] at hb
 unfold Region.ready
 rw[List.mem_filter]
 refine⟨by simpa using hjl,?_⟩
 simp only[Bool.and_eq_true,Bool.not_eq_true',List.getElem?_toArray,ho,Option.map_some,Option.getD_some,Array.all_eq_true_iff_forall_mem]
 refine⟨?_,fun e he=>?_⟩
 · simp only[Array.getD,hsz,hjl,dif_pos] at hju ⊢
   exact hju
 · rcases hb e he with h|h
   · simp[h]
   · simp[hlow e.on h]
theorem X2m{L:Nat→Bool}:∀{n:Nat},(∃j,j<n∧L j=false)→∃j,j<n∧L j=false∧∀k,k<j→L k=true
 |0,⟨j,hj,_⟩=>absurd hj (Nat.not_lt_zero _)
 |n+1,⟨j,hj,hL⟩=>by
  by_cases hlow:∃k,k<n∧L k=false
  · obtain⟨i,h1,h2,h3⟩:=X2m hlow
    exact⟨i,by omega,h2,h3⟩
  · refine⟨j,hj,hL,fun k hk=>Classical.byContradiction fun hn=>hlow ⟨k,by omega,by simpa using hn⟩⟩
theorem Q9p{l:List Oper}{k i j:Nat}(h:forced l k=true)(hk:k≤i)(hi:i<l.length)(hj:j<i):pre l i j=true:=by
 have h1:=List.all_eq_true.1 h i (by simpa using hi)
 rw[Bool.or_eq_true] at h1
 rcases h1 with h1|h1
 · have:=of_decide_eq_true h1;omega
 · exact List.all_eq_true.1 h1 j (by simpa using hj)
theorem Q7s{l:List Oper}{i:Nat}{o:Oper}(h:Q4p l=true)(ho:l[i]? = some o):o.guard=none:=by
 have:=List.all_eq_true.1 h o (List.mem_of_getElem? ho)
 simpa using this
theorem Q9x{P:Program}{E:Env}{Φ : Exit→St→Prop}{l:List Oper}{k:Nat}(hback:Q3r l=true)(hf:forced l k=true)(hg:Q4p l=true):∀(r n:Nat),r+n=l.length→k≤n→∀(fuel:Nat) (listed:Array Bool) (a:Act) (w:World) (ι : Nat→Nat×Nat×Nat) (σ : St),listed.size=l.length→Q3s l (fun j=>listed.getD j false)→cntL (fun j=>listed.getD j false) l.length≤fuel →
 (∀j,j<l.length→listed.getD j false=decide (j<n))→Conc E ι σ a w→evL P l.toArray (l.drop n) σ (Φ .normal)→wpAny P .any l.toArray (fun ex a' w'=>∃ι' σ',Conc E ι' σ' a' w'∧Φ ex σ') fuel listed a w
 |0,n,hr,hk,fuel,listed,a,w,ι,σ,hsz,hcl,hcnt,hL,hc,h=>by
  have hall:∀j,j<l.length→listed.getD j false=true:=fun j hj=>by rw[hL j hj];simp;omega
  rw[List.drop_of_length_le (by omega)] at h
  have hnil:Region.ready .any l.toArray listed=[]:=List.eq_nil_iff_forall_not_mem.2 fun i hi=>by
   obtain⟨o,ho,hu,_⟩:=Q6p hsz hi
   have:=hall i (List.getElem?_eq_some_iff.1 ho).1
   rw[hu] at this;cases this
  cases fuel with
  |zero=>exact⟨hnil,ι,σ,hc,h⟩
  |succ fuel=>exact⟨fun _=>⟨ι,σ,hc,h⟩,fun i hi=>by rw[hnil] at hi;cases hi⟩
 |r+1,n,hr,hk,fuel,listed,a,w,ι,σ,hsz,hcl,hcnt,hL,hc,h=>by
  have hnl:n<l.length:=by omega
  have ho:l[n]? = some l[n]:=List.getElem?_eq_getElem hnl
  have hun:listed.getD n false=false:=by rw[hL n hnl];simp
  have hlow:∀j,j<n→listed.getD j false=true:=fun j hj=>by rw[hL j (by omega)];simp[hj]
  have hrd:=X4o hback hsz hnl hun hlow
  have honly:∀i,i∈Region.ready .any l.toArray listed→i=n:=fun i hi=>by
   obtain⟨o,ho',hu,hpre⟩:=Q6p hsz hi
   have hil:=(List.getElem?_eq_some_iff.1 ho').1
   rcases Nat.lt_trichotomy i n with h1|h1|h1
   · rw[hlow i h1] at hu;cases hu
   · exact h1
   · have:=Q2s hcl i (fun o2 ho2=>by rw[ho'] at ho2;cases ho2;exact hpre) n (Q9p hf (by omega) hil h1)
     rw[hun] at this;cases this
  cases fuel with
  |zero=>
   have:=Q5x (L:=fun j=>listed.getD j false) l.length (by omega) n hnl
   rw[hun] at this;cases this
  |succ fuel=>
   refine⟨fun hnil=>(by rw[hnil] at hrd;cases hrd),fun i hi=>?_⟩
   obtain rfl:=honly i hi
   have hgo:=Q7s hg ho
   rw[List.drop_eq_getElem_cons hnl] at h
   unfold evL at h
   rw[hgo] at h
   unfold wpOp
   simp only[List.getElem?_toArray,ho]
   have hw:Region.wanted l[i] (yielded l.toArray a.tmps)=true:=by simp[Region.wanted,hgo]
   rw[if_pos hw]
   refine .inl (h E ι a w hc _ _ fun ι' σ' a' w' hk' hc'=>?_)
   have hset:∀j,j≠i→(listed.setIfInBounds i true).getD j false=listed.getD j false:=fun j hj=>by
    simp[Array.getD_eq_getD_getElem?,Array.getElem?_setIfInBounds_ne (Ne.symm hj)]
   have hset':(listed.setIfInBounds i true).getD i false=true:=by
    simp[Array.getD,hsz,hnl]
   refine Q9x hback hf hg r (i+1) (by omega) (by omega) fuel _ a' w' ι' σ' (by simpa using hsz) (fun j x hx hLj ed hed hb=>?_) ?_ (fun j hj=>?_) hc' hk'
   · by_cases hji:j=i
     · subst hji
       obtain⟨o2,ho2,_,hpre⟩:=Q6p hsz hi
       rw[ho2] at hx;cases hx
       have:=hpre ed hed hb
       show(listed.setIfInBounds j true).getD ed.on false=true
       by_cases h2:ed.on=j
       · rw[h2];exact hset'
       · rw[hset _ h2];exact this
     · have hLj':listed.getD j false=true:=by rw[←hset j hji];exact hLj
       have:=hcl j x hx hLj' ed hed hb
       show(listed.setIfInBounds i true).getD ed.on false=true
       by_cases h2:ed.on=i
       · rw[h2];exact hset'
       · rw[hset _ h2];exact this
   · have:=(Q7a (L:=fun j=>listed.getD j false) (L':=fun j=>(listed.setIfInBounds i true).getD j false) hun hset' hset l.length).1 hnl
     omega
   · by_cases hji:j=i
     · subst hji;rw[hset'];simp
     · rw[hset j hji,hL j hj]
       exact decide_eq_decide.2 (by omega)
theorem Q8i{P:Program}{id:Nat}{l m:List Oper}{es:List Ef}{σ0:St}{Φ : Exit→St→Prop}(hm:P.follows .mixedOrders=true)(hlen:es.length=l.length)(hok:Q4s l es=true)(hback:Q3r (l++m)=true)(hf:forced (l++m) l.length=true)(hgl:Q4p (l++m)=true)(hnew:∀d∈Q0m l,σ0.free d=true)
 (steps:∀i o e,l[i]? = some o→es[i]? = some e→StepD P l (stL l es (fun _=>true) i σ0) o e) (hrest:evL P (l++m).toArray m (stL l es (fun _=>true) l.length σ0) (Φ .normal)):AW P (.region id (l++m).toArray true) σ0 Φ:=by
 intro E ι a w hc
 refine wp_region_any hm ?_
 have hd0:=hc.drawn (w.drawn+1)
 generalize ({w with drawn:=w.drawn+1}:World)=w0 at hd0
 have pair:∀i j x y ex ey,j<i→l[i]? = some x→l[j]? = some y→es[i]? = some ex→es[j]? = some ey→pre l i j=true∨Q5b l.toArray x y ex ey=true:=fun i j x y ex ey hji hx hy hex hey=>by
  have hi:=(List.getElem?_eq_some_iff.1 hx).1
  have hok2:=hok
  unfold Q4s at hok2
  rw[Bool.and_eq_true] at hok2
  have h1:=List.all_eq_true.1 hok2.2 i (by simpa using hi)
  have h2:=List.all_eq_true.1 h1 j (by simpa using hji)
  simp only[hx,hy,hex,hey,Bool.or_eq_true] at h2
  exact h2
 have ef:∀i x,l[i]? = some x→∃e,es[i]? = some e:=fun i x hx=>⟨es[i]'(by rw[hlen];exact(List.getElem?_eq_some_iff.1 hx).1),List.getElem?_eq_getElem _⟩
 have key:∀(fuel:Nat) (listed:Array Bool) (a:Act) (w:World) (ι : Nat→Nat×Nat×Nat),listed.size=(l++m).length→Q3s (l++m) (fun j=>listed.getD j false)→cntL (fun j=>listed.getD j false) (l++m).length≤fuel→(∀j,l.length≤j→listed.getD j false=false) →
  Conc E ι (stL l es (fun j=>listed.getD j false) l.length σ0) a w→wpAny P .any (l++m).toArray (fun ex a' w'=>∃ι' σ',Conc E ι' σ' a' w'∧Φ ex σ') fuel listed a w:=by
  intro fuel
  induction fuel with
  |zero=>
   intro listed a w ι hsz hclF hcnt hout hc
   have hall:=Q5x (L:=fun j=>listed.getD j false) (l++m).length (by omega)
   refine Q9x hback hf hgl m.length l.length (by rw[List.length_append];omega) (Nat.le_refl _) 0 listed a w ι (stL l es (fun _=>true) l.length σ0) hsz hclF hcnt (fun j hj=>?_) (hc.le ⟨by rw[Q1x,Q1x],fun t=>AV.le_of ?_,fun r cs hr=>?_⟩) (by rw[List.drop_left];exact hrest)
   · rcases Nat.lt_or_ge j l.length with h|h
     · have:=hall j hj
       rw[this];simp[h]
     · rw[hout j h];simp;omega
   · exact X1i _ fun j o hj hne _=>absurd (hall j (by rw[List.length_append];omega)) (by simpa using hne)
   · rw[←hr];exact X1j _ fun j e hj hne _=>absurd (hall j (by rw[List.length_append];omega)) (by simpa using hne)
  |succ fuel ih=>
   intro listed a w ι hsz hclF hcnt hout hc
   by_cases hhead:∃j,j<l.length∧listed.getD j false=false
   · obtain⟨j0,hj0,hu0,hlow0⟩:=X2m (L:=fun j=>listed.getD j false) hhead
     have hrd:=X4o hback hsz (by rw[List.length_append];omega) hu0 hlow0
     refine⟨fun hnil=>(by rw[hnil] at hrd;cases hrd),fun i hi=>?_⟩
     obtain⟨o,hoF,hu,hpre⟩:=Q6p hsz hi
     have hiF:=(List.getElem?_eq_some_iff.1 hoF).1
     have hil:i<l.length:=by
      rcases Nat.lt_or_ge i l.length with h|h
      · exact h
      · have:=Q2s hclF i (fun o2 ho2=>by rw[hoF] at ho2;cases ho2;exact hpre) j0 (Q9p hf h hiF (by omega))
        rw[hu0] at this;cases this
     have ho:l[i]? = some o:=by rw[←hoF,List.getElem?_append_left hil]
     obtain⟨e,he⟩:=ef i o ho
     have hcl:Q3s l (fun j=>listed.getD j false):=fun j x hx=>hclF j x (by rw[List.getElem?_append_left (List.getElem?_eq_some_iff.1 hx).1];exact hx)
     have hdiff:∀j x ex,j<l.length→l[j]? = some x→es[j]? = some ex→(listed.getD j false)≠decide (j<i)→x.dst.toList.all (fun d=>!(o.looksAt l.toArray).contains d)=true∧(∀r∈e.rd,r∉ex.wn):=fun j x ex hj hx hex hne=>by
      rcases Nat.lt_trichotomy j i with hji|hji|hji
      · have hun:listed.getD j false=false:=by
         cases h:listed.getD j false with
         |false=>rfl
         |true=>rw[h] at hne;simp[hji] at hne
        rcases pair i j o x e ex hji ho hx he hex with hr|hr
        · have:=Q2s hcl i (fun o' ho'=>by rw[ho] at ho';cases ho';exact hpre) j hr
          rw[hun] at this;cases this
        · unfold Q5b at hr
          simp only[Bool.and_eq_true] at hr
          obtain⟨_,_,h3⟩:=Oper.apart_spec hr.1.1
          refine⟨?_,fun r hr' hrw=>?_⟩
          · cases hd:x.dst with
            |none=>rfl
            |some d=>simpa using h3 d hd
          · have:=List.all_eq_true.1 hr.1.2 r hrw
            simp at this
            exact this.1 hr'
      · subst hji
        rw[hu] at hne;simp at hne
      · have hli:listed.getD j false=true:=by
         cases h:listed.getD j false with
         |true=>rfl
         |false=>rw[h] at hne;simp at hne;omega
        rcases pair j i x o ex e hji hx ho hex he with hr|hr
        · have:=Q2s hcl j (fun o' ho'=>hcl j o' ho' hli) i hr
          rw[hu] at this;cases this
        · unfold Q5b at hr
          simp only[Bool.and_eq_true] at hr
          obtain⟨h1,_,_⟩:=Oper.apart_spec hr.1.1
          refine⟨?_,fun r hr' hrw=>?_⟩
          · cases hd:x.dst with
            |none=>rfl
            |some d=>simpa using h1 d hd
          · have:=List.all_eq_true.1 hr.2 r hrw
            simp at this
            exact this hr'
     have htext:=stL_all (l:=l) (es:=es) (σ:=σ0) i l.length (by omega)
     have hT:∀t∈o.looksAt l.toArray,(stL l es (fun j=>listed.getD j false) l.length σ0).T.getD t .any=(stL l es (fun _=>true) i σ0).T.getD t .any:=fun t ht=>by
      rw[←htext]
      refine X1i _ fun j x hj hne hx hd=>?_
      obtain⟨ex,hex⟩:=ef j x hx
      have:=(hdiff j x ex hj hx hex hne).1
      rw[hd] at this
      simp at this
      exact this ht
     have hH:∀r∈e.rd,hget (stL l es (fun j=>listed.getD j false) l.length σ0).H r=hget (stL l es (fun _=>true) i σ0).H r:=fun r hr=>by
      rw[←htext]
      refine X1j _ fun j ex hj hne hex hrw=>?_
      have hx:l[j]? = some l[j]:=List.getElem?_eq_getElem hj
      exact(hdiff j _ ex hj hx hex hne).2 r hr hrw
     have hN:∀d∈e.nw,(stL l es (fun j=>listed.getD j false) l.length σ0).free d=true:=fun d hd=>by
      have hf:=hok
      unfold Q4s at hf
      rw[Bool.and_eq_true] at hf
      have h1:=List.all_eq_true.1 hf.1 i (by simpa using hil)
      simp only[he] at h1
      have h2:=List.all_eq_true.1 h1 d hd
      rw[Bool.and_eq_true] at h2
      refine Q9y (hnew d (by simpa using h2.1)) _ fun j ej hj hLj hej=>?_
      have h3:=List.all_eq_true.1 h2.2 j (by simpa using hj)
      simp only[hej,Bool.or_eq_true,Bool.not_eq_true'] at h3
      rcases h3 with(h3|h3)|h3
      · have:j=i:=by simpa using h3
        subst this
        rw[hu] at hLj;cases hLj
      · have hjo:l[j]? = some l[j]:=List.getElem?_eq_getElem hj
        have:=Q2s hcl j (fun o' ho'=>hcl j o' ho' hLj) i h3
        rw[hu] at this;cases this
      · exact h3
     generalize hτ : stL l es (fun j=>listed.getD j false) l.length σ0 = τ at *
     have hag:Q1h o (stL l es (fun _=>true) i σ0).ev τ.ev:=fun x hx=>by
      cases x with
      |tmp t=>exact hT t (List.mem_append_left _ (List.mem_filterMap.2 ⟨.tmp t,hx,rfl⟩))
      |_=>rfl
     have hset:∀j,j≠i→(listed.setIfInBounds i true).getD j false=listed.getD j false:=fun j hj=>by
      simp[Array.getD_eq_getD_getElem?,Array.getElem?_setIfInBounds_ne (Ne.symm hj)]
     have hset':(listed.setIfInBounds i true).getD i false=true:=by
      have:i<listed.size:=by rw[hsz,List.length_append];omega
      simp[Array.getD,this]
     have hclF':Q3s (l++m) (fun j=>(listed.setIfInBounds i true).getD j false):=fun j x hx hLj ed hed hb=>by
      by_cases hj:j=i
      · subst hj
        rw[hoF] at hx;cases hx
        have:=hpre ed hed hb
        show(listed.setIfInBounds j true).getD ed.on false=true
        by_cases h:ed.on=j
        · rw[h];exact hset'
        · rw[hset _ h];exact this
      · have hLj':listed.getD j false=true:=by rw[←hset j hj];exact hLj
        have:=hclF j x hx hLj' ed hed hb
        show(listed.setIfInBounds i true).getD ed.on false=true
        by_cases h:ed.on=i
        · rw[h];exact hset'
        · rw[hset _ h];exact this
     have hcl':Q3s l (fun j=>(listed.setIfInBounds i true).getD j false):=fun j x hx hLj ed hed hb=>by
      by_cases hj:j=i
      · subst hj
        rw[ho] at hx;cases hx
        have:=hpre ed hed hb
        show(listed.setIfInBounds j true).getD ed.on false=true
        by_cases h:ed.on=j
        · rw[h];exact hset'
        · rw[hset _ h];exact this
      · have hLj':listed.getD j false=true:=by rw[←hset j hj];exact hLj
        have:=hcl j x hx hLj' ed hed hb
        show(listed.setIfInBounds i true).getD ed.on false=true
        by_cases h:ed.on=i
        · rw[h];exact hset'
        · rw[hset _ h];exact this
     have hcnt':cntL (fun j=>(listed.setIfInBounds i true).getD j false) (l++m).length≤fuel:=by
      have:=(Q7a (L:=fun j=>listed.getD j false) (L':=fun j=>(listed.setIfInBounds i true).getD j false) hu hset' hset (l++m).length).1 (by rw[List.length_append];omega)
      omega
     have hlater:∀j x ex,i<j→l[j]? = some x→es[j]? = some ex→(listed.setIfInBounds i true).getD j false=true→x.dst≠o.dst∨x.dst=none:=fun j x ex hij hx hex hLj=>by
      rw[hset j (by omega)] at hLj
      rcases pair j i x o ex e hij hx ho hex he with hr|hr
      · have:=Q2s hcl j (fun o' ho'=>hcl j o' ho' hLj) i hr
        rw[hu] at this;cases this
      · unfold Q5b at hr
        simp only[Bool.and_eq_true] at hr
        obtain⟨_,h2,_⟩:=Oper.apart_spec hr.1.1
        cases hd:x.dst with
        |none=>exact .inr rfl
        |some d=>exact .inl fun e=>h2 d hd e.symm
     have hlaterH:∀j x ex,i<j→l[j]? = some x→es[j]? = some ex→(listed.setIfInBounds i true).getD j false=true→∀r∈e.wn,r∉ex.wn:=fun j x ex hij hx hex hLj r hr hrw=>by
      rw[hset j (by omega)] at hLj
      rcases pair j i x o ex e hij hx ho hex he with hr'|hr'
      · have:=Q2s hcl j (fun o' ho'=>hcl j o' ho' hLj) i hr'
        rw[hu] at this;cases this
      · unfold Q5b at hr'
        simp only[Bool.and_eq_true] at hr'
        have:=List.all_eq_true.1 hr'.1.2 r hr
        simp at this
        exact this.2 hrw
     have hle:(τ.eff o.dst e.v e.wr).le (stL l es (fun j=>(listed.setIfInBounds i true).getD j false) l.length σ0):=by
      have hstep:stL l es (fun j=>(listed.setIfInBounds i true).getD j false) (i+1) σ0=(stL l es (fun j=>(listed.setIfInBounds i true).getD j false) i σ0).eff o.dst e.v e.wr:=by
       conv=>lhs;unfold stL
       simp only[hset',if_true,ho,he]
      refine⟨by show(setO τ.T o.dst e.v).length=_;rw[Q6k,←hτ,Q1x,Q1x],fun t=>AV.le_of ?_,fun r cs hr=>?_⟩
      · by_cases hd:o.dst=some t
        · have h1:∀k,i+1≤k→k≤l.length→(stL l es (fun j=>(listed.setIfInBounds i true).getD j false) k σ0).T.getD t .any=(stL l es (fun j=>(listed.setIfInBounds i true).getD j false) (i+1) σ0).T.getD t .any:=by
           intro k
           induction k with
           |zero=>intro h;omega
           |succ k ihk=>
            intro h1 h2
            by_cases hk:k=i
            · subst hk;rfl
            · rw[←ihk (by omega) (by omega)]
              conv=>lhs;unfold stL
              simp only
              split
              · rename_i hLk
                split
                · rename_i x ex hx hex
                  refine Q5g ?_
                  rcases hlater k x ex (by omega) hx hex hLk with h|h
                  · rwa [hd] at h
                  · rw[h];simp
                · rfl
              · rfl
          rw[h1 l.length (by omega) (Nat.le_refl _),hstep]
          show(setO τ.T o.dst e.v).getD t .any=(setO _ o.dst e.v).getD t .any
          rw[hd]
          exact Q8f (by rw[←hτ,Q1x,Q1x])
        · show(setO τ.T o.dst e.v).getD t .any=_
          rw[Q5g hd,←hτ]
          refine X1i _ fun j x hj hne hx hdx=>?_
          by_cases hji:j=i
          · subst hji;rw[ho] at hx;cases hx;exact hd hdx
          · exact hne (hset j hji).symm
      · show hget (Q0q τ.H e.wr) r=some cs
        rw[←hr]
        by_cases hrw:r∈e.wn
        · have h1:∀k,i+1≤k→k≤l.length→hget (stL l es (fun j=>(listed.setIfInBounds i true).getD j false) k σ0).H r=hget (stL l es (fun j=>(listed.setIfInBounds i true).getD j false) (i+1) σ0).H r:=by
           intro k
           induction k with
           |zero=>intro h;omega
           |succ k ihk=>
            intro h1 h2
            by_cases hk:k=i
            · subst hk;rfl
            · rw[←ihk (by omega) (by omega)]
              conv=>lhs;unfold stL
              simp only
              split
              · rename_i hLk
                split
                · rename_i x ex hx hex
                  show hget (Q0q _ ex.wr) r=_
                  rw[Q2u,Q7h (hlaterH k x ex (by omega) hx hex hLk r hrw)]
                · rfl
              · rfl
          rw[h1 l.length (by omega) (Nat.le_refl _),hstep]
          show hget (Q0q τ.H e.wr) r=hget (Q0q _ e.wr) r
          rw[Q2u,Q2u]
          obtain⟨ds,hds⟩:=Q1v hrw
          rw[hds]
        · rw[Q2u,Q7h hrw,←hτ]
          refine X1j _ fun j ex hj hne hex hrx=>?_
          by_cases hji:j=i
          · subst hji;rw[he] at hex;cases hex;exact hrw hrx
          · exact hne (hset j hji).symm
     have hnext:∀ι' a' w',Conc E ι' (τ.eff o.dst e.v e.wr) a' w'→wpAny P .any (l++m).toArray (fun ex a' w'=>∃ι' σ',Conc E ι' σ' a' w'∧Φ ex σ') fuel (listed.setIfInBounds i true) a' w':=fun ι' a' w' hc'=>
      ih _ a' w' ι' (by simpa using hsz) hclF' hcnt' (fun j hj=>by rw[hset j (by omega)];exact hout j hj) (hc'.le hle)
     have hgo:=Q7s hgl hoF
     unfold wpOp
     simp only[List.getElem?_toArray,hoF]
     have run:OpN P o (stL l es (fun _=>true) i σ0).ev (hget (stL l es (fun _=>true) i σ0).H) e→o.wp P a w (wpAny P .any (l++m).toArray (fun ex a' w'=>∃ι' σ',Conc E ι' σ' a' w'∧Φ ex σ') fuel (listed.setIfInBounds i true)) (fun ex a' w'=>∃ι' σ',Conc E ι' σ' a' w'∧Φ ex σ'):=fun hF=>
      hF τ hag hH hN E ι a w hc _ _ fun ι' σ' a' w' hk hc'=>hnext ι' a' w' (by rw[←hk];exact hc')
     have hw:Region.wanted o (yielded (l++m).toArray a.tmps)=true:=by simp[Region.wanted,hgo]
     rw[if_pos hw]
     rcases steps i o e ho he with⟨hg,hF⟩|⟨j,want,d,b,hg,hd,_⟩
     · exact .inl (run hF)
     · rw[hgo] at hg;cases hg
   · have hall:∀j,j<l.length→listed.getD j false=true:=fun j hj=>by
      cases h:listed.getD j false with
      |true=>rfl
      |false=>exact absurd ⟨j,hj,h⟩ hhead
     refine Q9x hback hf hgl m.length l.length (by rw[List.length_append];omega) (Nat.le_refl _) (fuel+1) listed a w ι (stL l es (fun _=>true) l.length σ0) hsz hclF hcnt (fun j hj=>?_) (hc.le ⟨by rw[Q1x,Q1x],fun t=>AV.le_of ?_,fun r cs hr=>?_⟩) (by rw[List.drop_left];exact hrest)
     · rcases Nat.lt_or_ge j l.length with h|h
       · rw[hall j h];simp[h]
       · rw[hout j h];simp;omega
     · exact X1i _ fun j o hj hne _=>absurd (hall j hj) (by simpa using hne)
     · rw[←hr];exact X1j _ fun j e hj hne _=>absurd (hall j hj) (by simpa using hne)
 have hrep:∀j,(Array.replicate (l++m).length false).getD j false=false:=fun j=>by
  simp[Array.getD_eq_getD_getElem?,Array.getElem?_replicate]
  split<;>rfl
 have hempty:∀k,stL l es (fun j=>(Array.replicate (l++m).length false).getD j false) k σ0 = σ0:=by
  intro k
  induction k with
  |zero=>rfl
  |succ k ih=>
   unfold stL
   simp only[hrep k,Bool.false_eq_true,if_false,ih]
 have hsz:(l++m).toArray.size=(l++m).length:=by simp
 rw[hsz]
 refine key (l++m).length _ a w0 ι (by simp) (fun j o ho hL=>?_) ?_ (fun j _=>hrep j) (by rw[hempty];exact hd0)
 · simp only[hrep j] at hL;cases hL
 · have:∀k,cntL (fun j=>(Array.replicate (l++m).length false).getD j false) k≤k:=by
    intro k
    induction k with
    |zero=>exact Nat.le_refl _
    |succ k ih=>unfold cntL;split<;>omega
   exact this _
theorem X2n{P:Program}{σ : St}{Φ : Exit→St→Prop}{id:Nat}(l m:List Oper)(hm:P.follows .mixedOrders=true)(hback:Q3r (l++m)=true)(hf:forced (l++m) l.length=true)(hgl:Q4p (l++m)=true)(hnew:(Q0m l).all (fun d=>σ.free d)=true)(h:∀R:St→Prop,(∀σ',evL P (l++m).toArray m σ' (Φ .normal)→R σ')→evD P l l σ [] R):evC P (.region id (l++m).toArray true) σ Φ:=by
 obtain⟨es,h1,_,h3,h4,h5⟩:=X0t (P:=P) (l0:=l) (σ0:=σ) l σ [] 0 rfl rfl (Nat.zero_le _) (fun _ _=>rfl) (h _ fun _ h=>h)
 exact Q8i hm h1 h3 hback hf hgl (fun d hd=>List.all_eq_true.1 hnew d hd) (fun i o e ho he=>h4 i o e (Nat.zero_le _) ho he) h5
theorem X3t{P:Program}{σ : St}{Φ : Exit→St→Prop}{id:Nat}{ops:List Oper}(k:Nat)(hk:k≤ops.length)(hm:P.follows .mixedOrders=true)(hback:Q3r ops=true)(hf:forced ops k=true)(hgl:Q4p ops=true)(hnew:(Q0m (ops.take k)).all (fun d=>σ.free d)=true)(h:∀R:St→Prop,(∀σ',evL P ops.toArray (ops.drop k) σ' (Φ .normal)→R σ')→evD P (ops.take k) (ops.take k) σ [] R):evC P (.region id ops.toArray true) σ Φ:=by
 have e:=List.take_append_drop k ops
 have hl:(ops.take k).length=k:=by rw[List.length_take];omega
 have:=X2n (P:=P) (σ:=σ) (Φ:=Φ) (id:=id) (ops.take k) (ops.drop k) hm (by rw[e];exact hback) (by rw[e,hl];exact hf) (by rw[e];exact hgl) hnew (by rw[e];exact h)
 rwa [e] at this
section
variable {P:Program} {o:Oper} {σ : St}
theorem X1s{f:FuncId}{fn:Func}{cargs:List AV}{d r e sz n:Nat}{pcs:List PV}{fo:Operand}{cas:Array Operand}{ts:Array TypeId}{caps:List AV}(hF:Fn P f cargs [] (.row r e sz n) [(r,pcs.map .c)])(ho:o.op = .call {callee:=.value fo,args:=cas,argTypes:=ts})(hfo:Q0v fo=true)(has:cas.toList.all Q0v=true)(hf:σ.ev fo = .fn f caps)
 (hfn:P.funcs[f]? = some fn) (hname:(fn.name == "runtime.NumGoroutine")=false) (hbody:fn.body.isNone=false) (hargs:Q1t (fun _=>d) cargs (cas.toList.map σ.ev++caps)) (hd:o.dst=some d) (hd2:d<1000) :
 OpN P o σ.ev (hget σ.H) ⟨.row d e sz n,[],[(d,pcs.map .c)],[d]⟩:=fun τ hA _ hN=>by
 have h1:τ.ev fo = σ.ev fo:=hA fo (by rw[ho];simp[Op.operands,Call.operands])
 have h2:cas.toList.map τ.ev=cas.toList.map σ.ev:=List.map_congr_left fun x hx=>hA x (by rw[ho];simp[Op.operands,Call.operands];first|exact .inr (by simpa using hx)|simpa using hx)
 have hrn:AV.renL (fun _=>d) (pcs.map .c)=pcs.map .c:=by simp
 refine X0o hF (fun _=>d) ho hfo has (by rw[h1];exact hf) hfn hname hbody rfl (by rw[h2];exact hargs) (fun r hr=>by cases hr) (fun a ha b hb _=>?_) ⟨.inr ⟨hN d (by simp),hd2⟩,trivial⟩ (by simp[AV.inN]) (by simp[inH]) ?_
 · simp at ha hb
   rw[ha,hb]
 · rw[hd]
   simp only[renH,Q2k,Q0q,hrn,AV.ren]
   rfl
theorem Q7t{f:FuncId}{fn:Func}{cargs:List AV}{d r e sz n:Nat}{pcs:List PV}{fo:Operand}{cas:Array Operand}{ts:Array TypeId}{caps:List AV}{l0 rest:List Oper}{acc:List Ef}{K:St→Prop}(hF:Fn P f cargs [] (.row r e sz n) [(r,pcs.map .c)])(hg:o.guard=none)(ho:o.op = .call {callee:=.value fo,args:=cas,argTypes:=ts})(hfo:Q0v fo=true)(has:cas.toList.all Q0v=true)(hf:σ.ev fo = .fn f caps)
 (hfn:P.funcs[f]? = some fn) (hname:(fn.name == "runtime.NumGoroutine")=false) (hbody:fn.body.isNone=false) (hargs:Q1t (fun _=>d) cargs (cas.toList.map σ.ev++caps)) (hd:o.dst=some d) (hd2:d<1000)
 (h:evD P l0 rest (σ.eff o.dst (.row d e sz n) [(d,pcs.map .c)]) (⟨.row d e sz n,[],[(d,pcs.map .c)],[d]⟩::acc) K):evD P l0 (o::rest) σ acc K:=
 ⟨_,.inl ⟨hg,X1s hF ho hfo has hf hfn hname hbody hargs hd hd2⟩,h⟩
end
end
section
open Go.RowKit Go.MapKept
mutual
def PV.hasMp:PV→Bool
 |.v _=>false
 |.sl _ _ _ cs=>PV.hasMpL cs
 |.mp _ _=>true
def PV.hasMpL:List PV→Bool
 |[]=>false
 |x::l=>PV.hasMp x||PV.hasMpL l
end
theorem Q7j:∀{l:List PV},PV.hasMpL l=false→∀(j:Nat) (x:PV),l[j]? = some x→PV.hasMp x=false
 |[],_,j,x,hx=>by simp at hx
 |y::l,h,j,x,hx=>by
  unfold PV.hasMpL at h
  rw[Bool.or_eq_false_iff] at h
  cases j with
  |zero=>simp at hx;subst hx;exact h.1
  |succ j=>exact Q7j h.2 j x (by simpa using hx)
theorem X5k(l r:List PV):PV.hasMpL (l++r)=(PV.hasMpL l||PV.hasMpL r):=by
 induction l with
 |nil=>simp[PV.hasMpL]
 |cons x l ih=>simp[PV.hasMpL,ih,Bool.or_assoc]
theorem X3p{α : Type}(f:α→List PV)(h:∀x,PV.hasMpL (f x)=false)(l:List α):PV.hasMpL (l.flatMap f)=false:=by
 induction l with
 |nil=>rfl
 |cons x l ih=>rw[List.flatMap_cons,X5k,h,ih];rfl
mutual
def AV.hasMp:AV→Bool
 |.any=>false
 |.c p=>PV.hasMp p
 |.agg cs=>AV.hasMpA cs
 |.tup cs=>AV.hasMpA cs
 |.ptr _ _=>false
 |.row _ _ _ _=>false
 |.cut _ _ _ _ _ _ _=>false
 |.ep cs=>PV.hasMpL cs
 |.fn _ cs=>AV.hasMpA cs
 |.fnb _ cs=>AV.hasMpA cs
 |.amp _ _ _=>true
def AV.hasMpA:List AV→Bool
 |[]=>false
 |x::l=>AV.hasMp x||AV.hasMpA l
end
theorem Q4b:∀{l:List AV},AV.hasMpA l=false→∀(j:Nat) (x:AV),l[j]? = some x→AV.hasMp x=false
 |[],_,j,x,hx=>by simp at hx
 |y::l,h,j,x,hx=>by
  unfold AV.hasMpA at h
  rw[Bool.or_eq_false_iff] at h
  cases j with
  |zero=>simp at hx;subst hx;exact h.1
  |succ j=>exact Q4b h.2 j x (by simpa using hx)
theorem Q9n(l:List PV):AV.hasMpA (l.map .c)=PV.hasMpL l:=by
 induction l with
 |nil=>rfl
 |cons x l ih=>simp[AV.hasMpA,AV.hasMp,PV.hasMpL,ih]
def Q6w(H:List (Nat×List AV)):Bool:=
 match H with
 |[]=>false
 |(_,cs)::H=>AV.hasMpA cs||Q6w H
theorem Q9m:∀{H:List (Nat×List AV)},Q6w H=false→∀(r:Nat) (cs:List AV),hget H r=some cs→AV.hasMpA cs=false
 |[],_,r,cs,h=>by cases h
 |(k,ds)::H,hm,r,cs,h=>by
  unfold Q6w at hm
  rw[Bool.or_eq_false_iff] at hm
  unfold hget at h
  split at h
  · cases h;exact hm.1
  · exact Q9m hm.2 r cs h
section
variable {S S':Nat→Prop} {ι : Nat→Nat×Nat×Nat} {w w':World}
theorem RVp.nmono(hS:∀b cur e z,S b→w.heap[b]? = some (Obj.cells cur e z)→S' b∧w'.heap[b]? = w.heap[b]?){v:Value}{p:PV}(h:RVp S w v p):PV.hasMp p=false→RVp S' w' v p:=by
 induction h with
 |v x h=>exact fun _=>.v x h
 |sl ex sz A n c us cs h1 h2 h3 hx hl hn h4 _ ih=>
  intro hm
  refine .sl ex sz A n c us cs h1 h2 h3 hx hl hn (fun hne=>?_) fun j u x hu hx'=>ih j u x hu hx' (Q7j (by unfold PV.hasMp at hm;exact hm) j x hx')
  obtain⟨b,o,hA,hb,hc⟩:=h4 hne
  obtain⟨u,rest,hu⟩:=List.exists_cons_of_ne_nil hne
  obtain⟨cur,e,z,hh0⟩:=Q3z (hc 0 u (by rw[hu];rfl))
  obtain⟨hS',hh⟩:=hS b cur e z hb hh0
  exact⟨b,o,hA,hS',fun j u hu=>(World.cell?_of_block (w:=w) (a:=⟨b,o+j,none⟩) hh).trans (hc j u hu)⟩
 |mp=>intro hm;cases hm
theorem RV.nmono(hS:∀b cur e z,S b→w.heap[b]? = some (Obj.cells cur e z)→S' b∧w'.heap[b]? = w.heap[b]?){v:Value}{x:AV}(h:RV S ι w v x):AV.hasMp x=false→RV S' ι w' v x:=by
 induction h with
 |any x=>exact fun _=>.any x
 |c x p h=>exact fun hm=>.c x p (h.nmono hS (by unfold AV.hasMp at hm;exact hm))
 |agg us cs hl h1 _ ih=>exact fun hm=>.agg us cs hl h1 fun j u x hu hx=>ih j u x hu hx (Q4b (by unfold AV.hasMp at hm;exact hm) j x hx)
 |tup us cs hl _ ih=>exact fun hm=>.tup us cs hl fun j u x hu hx=>ih j u x hu hx (Q4b (by unfold AV.hasMp at hm;exact hm) j x hx)
 |ptr r off=>exact fun _=>.ptr r off
 |row r e sz n c h1 h2 h3 h4 h0=>exact fun _=>.row r e sz n c h1 h2 h3 h4 h0
 |rnil A r e sz h=>exact fun _=>.rnil A r e sz h
 |cut r e sz lo n c ex h1 h2 h3 hx h4 h0=>exact fun _=>.cut r e sz lo n c ex h1 h2 h3 hx h4 h0
 |cnil A r e sz lo ex h=>exact fun _=>.cnil A r e sz lo ex h
 |ep b o us cs hl hne hb h4 h5=>
  intro hm
  obtain⟨u0,rest,hu0⟩:=List.exists_cons_of_ne_nil hne
  obtain⟨cur,e,z,hh0⟩:=Q3z (h4 0 u0 (by rw[hu0];rfl))
  obtain⟨hS',hh⟩:=hS b cur e z hb hh0
  exact .ep b o _ cs hl hne hS' (fun j u hu=>(World.cell?_of_block (w:=w) (a:=⟨b,o+j,none⟩) hh).trans (h4 j u hu)) (fun j u x hu hx=>(h5 j u x hu hx).nmono hS (Q7j (by unfold AV.hasMp at hm;exact hm) j x hx))
 |fn f us cs hl _ ih=>exact fun hm=>.fn f us cs hl fun j u x hu hx=>ih j u x hu hx (Q4b (by unfold AV.hasMp at hm;exact hm) j x hx)
 |fnb f us cs hl _ ih=>exact fun hm=>.fnb f us cs hl fun j u x hu hx=>ih j u x hu hx (Q4b (by unfold AV.hasMp at hm;exact hm) j x hx)
 |amp b X clk ks us cs hb hh hk hu hl _ ih=>exact fun hm=>by cases hm
end
def AV.mpU(b:Nat)(es:List (Value×Value))(x:AV):AV:=
 match x with
 |.c (.mp b0 _)=>if b0=b then .c (.mp b es) else .any
 |x=>if AV.hasMp x then .any else x
theorem X5j{X:Array MapEntry}{clk:Nat}{e:MapEntry}(h:Q9d X clk)(he:e.born=clk):Q9d (X.push e) (clk+1):=by
 unfold Q9d
 rw[Array.toList_push,List.map_append]
 refine⟨fun n hn=>?_,List.nodup_append.2 ⟨h.2,by simp,fun x hx y hy=>?_⟩⟩
 · rcases List.mem_append.1 hn with hn|hn
   · have:=h.1 n hn;omega
   · simp at hn;omega
 · have:=h.1 x hx
   simp at hy
   omega
theorem X2f{X:Array MapEntry}{clk j:Nat}{f:MapEntry→MapEntry}(h:Q9d X clk)(hf:∀e,(f e).born=e.born):Q9d (X.modify j f) clk:=by
 have e:(X.modify j f).toList.map (·.born)=X.toList.map (·.born):=by
  refine List.ext_getElem? fun i=>?_
  rw[List.getElem?_map,List.getElem?_map,Array.getElem?_toList,Array.getElem?_toList,Array.getElem?_modify]
  by_cases hij:j=i
  · subst hij
    rw[if_pos rfl]
    cases X[j]? <;> simp[hf]
  · rw[if_neg hij]
 unfold Q9d
 rw[e]
 exact h
section
variable {E:Env} {ι : Nat→Nat×Nat×Nat} {σ : St} {a:Act} {w:World} {b clk clk':Nat} {X X':Array MapEntry}
theorem X4j(hb:w.heap[b]? = some (.map X clk))(o':Obj){b':Nat}{o:Obj}(h:w.heap[b']? = some o)(hn:∀Y c,o≠.map Y c):(w.putObj b o').heap[b']? = w.heap[b']?:=
 World.putObj_heap_other fun e=>by subst e;rw[hb] at h;cases h;exact hn _ _ rfl
theorem RV.mpU{S:Nat→Prop}{v:Value}{x:AV}(h:RV S ι w v x)(hb:w.heap[b]? = some (.map X clk))(hw:Q9d X' clk'):RV S ι (w.putObj b (.map X' clk')) v (x.mpU b (X'.toList.map fun e=>(e.key,e.val))):=by
 have hlt:=(Array.getElem?_eq_some_iff.1 hb).1
 unfold AV.mpU
 split
 · rename_i b0 es0
   split
   · rename_i e
     subst e
     cases h with
     |c _ _ hp=>cases hp with
      |mp _ _ Y c hS hh he _=>exact .c _ _ (.mp _ _ X' clk' hS (World.putObj_heap_same hlt) rfl hw)
   · exact .any _
 · split
   · exact .any _
   · rename_i hm
     exact h.nmono (fun b' cur e z hS hh=>⟨hS,X4j hb _ hh fun _ _ h=>by cases h⟩) (by simpa using hm)
theorem Conc.remap(h:Conc E ι σ a w)(hb:w.heap[b]? = some (.map X clk))(hE:E.w.heap.size≤b)(hH:Q6w σ.H=false)(hw:Q9d X' clk'):Conc E ι ⟨σ.T.map (AV.mpU b (X'.toList.map fun e=>(e.key,e.val))),σ.H⟩ a (w.putObj b (.map X' clk')):=by
 have hlt:=(Array.getElem?_eq_some_iff.1 hb).1
 refine⟨?_,by rw[List.length_map];exact h.size,fun i=>?_,⟨fun r cs hr=>?_,h.heap.inj⟩,⟨h.keep.os,h.keep.tape,h.keep.output,by simpa using h.keep.size,fun b' hb' hbD=>?_,h.keep.mine⟩⟩
 · obtain⟨Ds,h1,h2,h3⟩:=h.defers
   refine⟨Ds,h1,h2,fun D hD=>?_⟩
   obtain⟨g1,g2,g3⟩:=h3 D hD
   exact⟨g1,g2,(X4j hb _ g3 fun _ _ h=>by cases h).trans g3⟩
 · have e:(σ.T.map (AV.mpU b (X'.toList.map fun e=>(e.key,e.val)))).getD i .any=(σ.T.getD i .any).mpU b (X'.toList.map fun e=>(e.key,e.val)):=by
    rw[List.getD_eq_getElem?_getD,List.getD_eq_getElem?_getD,List.getElem?_map]
    cases σ.T[i]? <;> rfl
   rw[e]
   exact(h.tmp i).mpU hb hw
 · rcases h.heap.blk r cs hr with h0|⟨cur,hh,hs,hlen,hc,hone1⟩
   · exact .inl h0
   · have hm:=Q9m hH r cs hr
     exact .inr ⟨cur,(X4j hb _ hh fun _ _ h=>by cases h).trans hh,hs,hlen,fun j u x hu hx=>⟨(hc j u x hu hx).1.nmono (fun b' cur e z hS hh=>⟨hS,X4j hb _ hh fun _ _ h=>by cases h⟩) (Q4b hm j x hx),(hc j u x hu hx).2⟩,hone1⟩
 · rw[World.putObj_heap_other (by omega)];exact h.keep.block b' hb' hbD
end
section
variable {V:Type}
def im(f:V→Value)(m:List (Int×V)):List (Value×Value):=m.map fun p=>(Value.int .u64 p.1,f p.2)
def Q6h(k:Int):List (Int×V)→Nat→Option (Nat×V)
 |[],_=>none
 |p::m,i=>if k=p.1 then some (i,p.2) else Q6h k m (i+1)
def mget(z:V)(m:List (Int×V))(k:Int):V:=match Q6h k m 0 with|some (_,v)=>v|none=>z
def mput(m:List (Int×V))(k:Int)(v:V):List (Int×V):=
 match m with
 |[]=>[(k,v)]
 |p::m=>if k=p.1 then(k,v)::m else p::mput m k v
theorem Q5q(k:Int):∀(m:List (Int×V)) (i:Nat),Q6h k m i=(Q6h k m 0).map fun p=>(p.1+i,p.2)
 |[],_=>rfl
 |p::m,i=>by
  unfold Q6h
  split
  · simp
  · rw[Q5q k m (i+1),Q5q k m (0+1),Option.map_map]
    congr 1
    funext q
    simp;omega
theorem mget_nil(z:V)(k:Int):mget z [] k=z:=rfl
theorem Q5p(z:V)(p:Int×V)(m:List (Int×V))(k:Int):mget z (p::m) k=if k=p.1 then p.2 else mget z m k:=by
 have e:Q6h k (p::m) 0=if k=p.1 then some (0,p.2) else Q6h k m (0+1):=rfl
 unfold mget
 rw[e]
 by_cases h:k=p.1
 · rw[if_pos h,if_pos h]
 · rw[if_neg h,if_neg h,Q5q k m (0+1)]
   cases Q6h k m 0<;>rfl
theorem Q6e(z:V)(k:Int)(v:V)(q:Int):∀m:List (Int×V),mget z (mput m k v) q=if q=k then v else mget z m q
 |[]=>by
  unfold mput
  rw[Q5p,mget_nil]
 |p::m=>by
  unfold mput
  split
  · rename_i h
    rw[Q5p,Q5p,←h]
    split<;>rfl
  · rename_i h
    rw[Q5p,Q6e z k v q m,Q5p]
    by_cases h1:q=p.1
    · rw[if_pos h1,if_pos h1,if_neg (by omega)]
    · rw[if_neg h1,if_neg h1]
theorem X2d{k:Int}{v:V}:∀{m:List (Int×V)},Q6h k m 0=none→mput m k v=m++[(k,v)]
 |[],_=>rfl
 |p::m,h=>by
  unfold Q6h at h
  split at h
  · cases h
  · rename_i hk
    rw[Q5q] at h
    unfold mput
    rw[if_neg hk,X2d (by simpa using h)];rfl
theorem X2c{k:Int}{v u:V}:∀{m:List (Int×V)} {j:Nat},Q6h k m 0=some (j,u)→j<m.length∧(m[j]?).map (·.1)=some k∧mput m k v=m.set j (k,v)
 |[],_,h=>by cases h
 |p::m,j,h=>by
  unfold Q6h at h
  unfold mput
  split at h
  · rename_i hk
    cases h
    rw[if_pos hk]
    exact⟨by simp,by simp[hk],rfl⟩
  · rename_i hk
    rw[Q5q] at h
    obtain⟨⟨j',u'⟩,h1,h2⟩:=Option.map_eq_some_iff.1 h
    cases h2
    obtain⟨g1,g2,g3⟩:=X2c (v:=v) h1
    rw[if_neg hk,g3]
    exact⟨by simp;omega,by simpa using g2,by simp⟩
theorem Q7k(f:V→Value)(k:Int):∀(l:List MapEntry) (m:List (Int×V)) (i:Nat),l.map (fun e=>(e.key,e.val))=im f m→Instr.findNow (.int .u64) (.int .u64 k) l i=some ((Q6h k m i).map fun p=>(p.1,f p.2))
 |[],[],i,_=>rfl
 |[],p::m,i,h=>by cases h
 |e::l,[],i,h=>by cases h
 |e::l,p::m,i,h=>by
  simp only[im,List.map_cons,List.cons.injEq,Prod.mk.injEq] at h
  obtain⟨⟨h1,h2⟩,h3⟩:=h
  have ih:=Q7k f k l m (i+1) h3
  unfold Instr.findNow Q6h
  rw[h1]
  unfold Instr.sameNow
  by_cases hk:k=p.1
  · have:(k==p.1)=true:=by simpa using hk
    simp[this,hk,h2]
  · have:(k==p.1)=false:=by simpa using hk
    simp[this,hk,ih]
theorem keys_im{f:V→Value}{l:List MapEntry}{m:List (Int×V)}(h:l.map (fun e=>(e.key,e.val))=im f m):∀e∈l,∃i,e.key = .int .u64 i:=fun e he=>by
 have h1:(e.key,e.val)∈im f m:=by rw[←h];exact List.mem_map.2 ⟨e,he,rfl⟩
 obtain⟨p,_,hp⟩:=List.mem_map.1 h1
 simp only[Prod.mk.injEq] at hp
 exact⟨p.1,hp.1.symm⟩
end
section
variable {P:Program} {o:Oper} {σ : St} {K:St→Prop} {V:Type}
theorem run_zeroV{t:TypeId}{z:Value}(h:(P.info? t).bind (·.zero)=some z)(w:World):(zeroValue t).run P w = .ok z w:=by
 cases hi:P.info? t with
 |none=>simp[hi] at h
 |some i=>
  cases hz:i.zero with
  |none=>simp[hi,hz] at h
  |some v=>simp[hi,hz] at h;subst h;simp[zeroValue,typeInfo,hi,hz]
theorem Q5s(k:Int):IsKey (.int .u64) (.int .u64 k):=by simp[IsKey]
theorem Q3c{E0:Env}{t:TypeId}(ho:o.op = .makeMap t none)(hK:∀b,E0.w.heap.size≤b→K (σ.put o.dst (.c (.mp b [])))):OpE (fun E=>E=E0) P o σ K:=by
 intro E ι a w hE hc K' Q hK'
 subst hE
 have hS:Sx E ι σ.H w.heap.size:=by
  refine⟨.inr (.inl hc.keep.size),fun r cs hr hz e=>?_⟩
  rcases hc.heap.blk r cs hr with⟨h0,_⟩|⟨cur,hh,_⟩
  · exact hz h0
  · have:=(Array.getElem?_eq_some_iff.1 hh).1
    omega
 have hc1:=hc.alloc (.map #[] 0)
 have hnew:(w.alloc (.map #[] 0)).heap[w.heap.size]? = some (.map #[] 0):=World.alloc_heap_new w _
 have hr:(execOp a.eval o).run P w = .ok (.value (.map (some w.heap.size))) (w.alloc (.map #[] 0)):=by
  unfold execOp
  simp only[ho]
  rfl
 have h2:=hK' ι _ _ _ (hK w.heap.size hc.keep.size) (hc1.put o.dst (.c _ _ (.mp w.heap.size [] #[] 0 hS hnew rfl ⟨fun n h=>by simp at h,by simp⟩)))
 refine Q4a (by unfold opNd;rw[ho]) ?_
 unfold Oper.wp
 rw[hr]
 exact h2
def OpW(p:Env→Prop)(P:Program)(o:Oper)(σ : St)(K:St→Prop):Prop:=
 ∀(E:Env) (ι : Nat→Nat×Nat×Nat) (a:Act) (w:World),p E→Conc E ι σ a w→∀(K':Act→World→Prop) (Q:Exit→Act→World→Prop),(∀ι' σ' a' w',K σ'→Conc E ι' σ' a' w'→K' a' w')→o.wp P a w K' Q
theorem OpA.toW{p:Env→Prop}(h:OpA P o σ K):OpW p P o σ K:=fun E ι a w _ hc=>h E ι a w hc
theorem Q9e{E0:Env}(f:V→Value)(m:List (Int×V)){t kt et:TypeId}{x ix vx:Operand}{b:Nat}{k:Int}{v:V}(ho:o.op = .mapUpdate t x ix vx)(hd:o.dst=none)(hi:Q0v ix=true)(hm:P.underlying t=some (.map kt et))(hkt:P.underlying kt=some (.int .u64))
 (h1:∀E ι a w,Conc E ι σ a w→a.eval x = .map (some b)∧∃X clk,w.heap[b]? = some (.map X clk)∧X.toList.map (fun e=>(e.key,e.val))=im f m∧Q9d X clk) (h2:σ.ev ix = .c (.v (.int .u64 k))) (h3:∀E ι a w,Conc E ι σ a w→a.eval vx=f v) (hb:E0.w.heap.size≤b) (hH:Q6w σ.H=false) (hK:K ⟨σ.T.map (AV.mpU b (im f (mput m k v))),σ.H⟩):OpW (fun E=>E=E0) P o σ K:=by
 intro E ι a w hE hc K' Q hK'
 subst hE
 have hiv:=hc.ev ix hi
 rw[h2] at hiv
 obtain⟨ei,_⟩:=hiv.v_inv
 have ev:=h3 E ι a w hc
 obtain⟨he,X,clk,hh,hE,hw⟩:=h1 E ι a w hc
 have hfn:=Q7k f k X.toList m 0 hE
 obtain⟨X',clk',hrun,hX',hw'⟩:∃X' clk',(execOp a.eval o).run P w = .ok .skip (w.putObj b (.map X' clk'))∧X'.toList.map (fun e=>(e.key,e.val))=im f (mput m k v)∧Q9d X' clk':=by
  cases hr:Q6h k m 0 with
  |none=>
   rw[hr] at hfn
   refine⟨X.push {key:=.int .u64 k,val:=f v,born:=clk},clk+1,?_,?_,X5j hw rfl⟩
   · unfold execOp
     simp[ho,he,ei,ev,Instr.mapUpdate,run_underlying hm,MapKept.run_getObj_map hh,MapKept.run_checkKey hkt (Q5s k),MapKept.run_findKey hkt hfn,MapKept.run_setObj_map _ hh,Result.andThen,World.putObj]
   · rw[X2d hr,Array.toList_push,List.map_append,hE]
     simp[im]
  |some p=>
   obtain⟨j,u⟩:=p
   rw[hr] at hfn
   obtain⟨g1,g2,g3⟩:=X2c (v:=v) hr
   have hj:j<X.size:=by
    have:=congrArg List.length hE
    simp[im] at this
    omega
   have hkey:X[j].key = .int .u64 k:=by
    have h4:(X.toList.map fun e=>(e.key,e.val))[j]? = (im f m)[j]?:=by rw[hE]
    rw[List.getElem?_map] at h4
    unfold im at h4
    rw[List.getElem?_map] at h4
    obtain⟨q,hq,hq1⟩:=Option.map_eq_some_iff.1 g2
    rw[hq] at h4
    simp[hj] at h4
    rw[h4.1,hq1]
   refine⟨X.modify j fun e=>{e with key:=.int .u64 k,val:=f v},clk,?_,?_,X2f hw fun _=>rfl⟩
   · unfold execOp
     simp[ho,he,ei,ev,Instr.mapUpdate,run_underlying hm,MapKept.run_getObj_map hh,MapKept.run_checkKey hkt (Q5s k),MapKept.run_findKey hkt hfn,hj,hkey,MapKept.run_keyThatStays (Q5s k),MapKept.run_setObj_map _ hh,Result.andThen,World.putObj]
   · rw[g3]
     have h5:im f (m.set j (k,v))=(im f m).set j (.int .u64 k,f v):=by unfold im;rw[List.map_set]
     rw[h5,←hE]
     refine List.ext_getElem? fun i=>?_
     rw[List.getElem?_map,List.getElem?_set,List.getElem?_map,Array.getElem?_toList,Array.getElem?_toList]
     by_cases hij:j=i
     · subst hij
       rw[if_pos rfl]
       simp[hj,Array.getElem?_modify,Array.getElem_modify]
     · rw[if_neg hij]
       simp[Array.getElem?_modify,hij]
 have h4:=hK' ι _ _ _ hK (hX'▸hc.remap (X':=X') (clk':=clk') hh hb hH hw')
 unfold Oper.wp
 rw[hrun]
 simpa [Oper.upon,hd,Act.put] using h4
end
theorem RV.vals{S:Nat→Prop}{ι : Nat→Nat×Nat×Nat}{w:World}{v:Value}{xs:List Value}(h:RV S ι w v (.agg (xs.map fun x=>.c (.v x)))):v = .agg xs.toArray:=by
 cases h with
 |agg us _ hl _ hu=>
  have:us=xs:=by
   refine List.ext_getElem? fun j=>?_
   rw[List.length_map] at hl
   rcases Nat.lt_or_ge j us.length with h|h
   · have h1:=hu j us[j] (.c (.v xs[j])) (List.getElem?_eq_getElem h) (by simp[show j<xs.length by omega])
     rw[List.getElem?_eq_getElem h,List.getElem?_eq_getElem (show j<xs.length by omega),h1.v_inv.1]
   · rw[List.getElem?_eq_none h,List.getElem?_eq_none (by omega)]
  rw[this]
section
variable {P:Program} {o:Oper} {σ : St} {K:St→Prop} {κ : Type}
end
section
variable {p:Env→Prop} {P:Program} {σ : St} {Φ : Exit→St→Prop}
theorem AWE.seqI{x y:Code}(h:∀Ψ : Exit→St→Prop,(∀σ',AWE p P y σ' Φ→Ψ .normal σ')→(∀ex σ',ex≠.normal→Φ ex σ'→Ψ ex σ')→AWE p P x σ Ψ):AWE p P (.seq x y) σ Φ:=
 AWE.seq (h _ (fun _ h=>h) fun ex σ' hne h'=>by
  cases ex with
  |normal=>exact absurd rfl hne
  |_=>exact h')
theorem AWE.blockI{id:Nat}{x:Code}(h:∀Ψ : Exit→St→Prop,(∀σ',Φ .normal σ'→Ψ (.exit id) σ')→(∀ex σ',(∀j,ex = .exit j→j≠id)→Φ ex σ'→Ψ ex σ')→AWE p P x σ Ψ):AWE p P (.block id x) σ Φ:=
 AWE.block (h _ (fun σ' h'=>by show(if id=id then _ else _);rw[if_pos rfl];exact h') fun ex σ' hne h'=>by
  cases ex with
  |exit j=>show(if j=id then _ else _);rw[if_neg (hne j rfl)];exact h'
  |_=>exact h')
theorem AWE.loopI{c:Code}{α : Type}(I:α→St)(μ : α→Nat)(x0:α)(h0:σ.to (I x0))
 (round:∀(x:α) (Ψ : Exit→St→Prop),(∀σ' y,μ y < μ x→σ'.to (I y)→Ψ .normal σ')→(∀ex σ',ex≠.normal→Φ ex σ'→Ψ ex σ')→AWE p P c (I x) Ψ):AWE p P (.loop c) σ Φ:=
 AWE.loop I μ x0 h0 fun x=>round x _ (fun σ' y h1 h2=>⟨y,h1,h2⟩) fun ex σ' hne h'=>by
  cases ex with
  |normal=>exact absurd rfl hne
  |_=>exact h'
theorem AWE.regionI{id:Nat}{l:List Oper}(k:Nat){o:Oper}(hk:l[k]? = some o)(n0:l.all (fun x=>opNd x)=true)(hg:o.guard=none)
 (h:∀R:St→Prop,(∀σ1,(OpE p P o σ1 fun σ2=>∀R2:St→Prop,(∀σ',Φ .normal σ'→R2 σ')→evL P l.toArray (l.drop (k+1)) σ2 R2)→R σ1)→evL P l.toArray (l.take k) σ R):AWE p P (.region id l.toArray false) σ Φ:=
 AWE.region_at k hk n0 fun R hR=>h R fun σ1 h1=>hR σ1 ⟨.inl hg,h1⟩
end
def X4r(o:Oper):Bool:=match o.op with | .mapUpdate _ _ _ _=>true | .makeMap _ _=>true|_=>false
section
variable {p:Env→Prop} {P:Program} {σ : St} {Φ : Exit→St→Prop}
theorem AWE.regionM{id:Nat}{l:List Oper}{k:Nat}{o:Oper}(hf:l.findIdx? X4r=some k)(hk:l[k]? = some o)(n0:l.all (fun x=>opNd x)=true)(hg:o.guard=none)
 (h:∀R:St→Prop,(∀σ1,(OpE p P o σ1 fun σ2=>∀R2:St→Prop,(∀σ',Φ .normal σ'→R2 σ')→evL P l.toArray (l.drop (k+1)) σ2 R2)→R σ1)→evL P l.toArray (l.take k) σ R):AWE p P (.region id l.toArray false) σ Φ:=
 AWE.regionI k hk n0 hg h
theorem AWE.ofR{id:Nat}{ops:Array Oper}(h:evC P (.region id ops false) σ Φ):AWE p P (.region id ops false) σ Φ:=AWE.of h
theorem AWE.ofRD{id:Nat}{ops:Array Oper}(h:evC P (.region id ops true) σ Φ):AWE p P (.region id ops true) σ Φ:=AWE.of h
theorem AWE.ofSkip(h:Φ .normal σ):AWE p P .skip σ Φ:=AWE.of (Q0d h)
theorem AWE.ofRet(h:Φ .ret σ):AWE p P .ret σ Φ:=AWE.of (Q0j h)
theorem AWE.ofExit{id:Nat}(h:Φ (.exit id) σ):AWE p P (.exit id) σ Φ:=AWE.of (Q0e h)
end
theorem AWE.drawJ{p:Env→Prop}{P:Program}{id:Nat}{l:List Oper}{σ0:St}{Φ : Exit→St→Prop}(hm:P.follows .mixedOrders=true)(hback:Q3r l=true)(hgl:Q4p l=true)(J:(Nat→Bool)→St)(h0:σ0.to (J fun _=>false))
 (hE:∀(L:Nat→Bool) (i:Nat) (o:Oper),l[i]? = some o→L i=false→Q3s l L→(∀e∈o.after,Region.binds .any e=true→L e.on=true)→X4r o=false→∀R:St→Prop,(∀σ',σ'.to (J fun j=>if j=i then true else L j)→R σ')→evL P #[] [o] (J L) R)
 (hW:∀(L:Nat→Bool) (i:Nat) (o:Oper),l[i]? = some o→L i=false→Q3s l L→(∀e∈o.after,Region.binds .any e=true→L e.on=true)→X4r o=true→OpW p P o (J L) fun σ'=>σ'.to (J fun j=>if j=i then true else L j))
 (hΦ : ∀L,(∀j,j<l.length→L j=true)→Φ .normal (J L)):AWE p P (.region id l.toArray true) σ0 Φ:=by
 intro E ι a w hp hc
 refine wp_region_any hm ?_
 obtain⟨ι0,hc0⟩:=h0 E ι a w hc
 have hd0:=hc0.drawn (w.drawn+1)
 generalize ({w with drawn:=w.drawn+1}:World)=w0 at hd0
 have step:∀(L:Nat→Bool) (i:Nat) (o:Oper),l[i]? = some o→L i=false→Q3s l L→(∀e∈o.after,Region.binds .any e=true→L e.on=true)→OpW p P o (J L) fun σ'=>σ'.to (J fun j=>if j=i then true else L j):=fun L i o h1 h2 h3 h4=>by
  cases hk:X4r o with
  |true=>exact hW L i o h1 h2 h3 h4 hk
  |false=>
   have hg:o.guard=none:=by
    have:=List.all_eq_true.1 hgl o (List.mem_of_getElem? h1)
    simpa using this
   have:=hE L i o h1 h2 h3 h4 hk _ fun _ h=>h
   unfold evL at this
   rw[hg] at this
   exact OpA.toW this
 have hready:∀(listed:Array Bool) (i:Nat),listed.size=l.length→i∈Region.ready .any l.toArray listed→∃o,l[i]? = some o∧listed.getD i false=false∧∀e∈o.after,Region.binds .any e=true→listed.getD e.on false=true:=fun listed i hsz hi=>Q6p hsz hi
 have key:∀(fuel:Nat) (listed:Array Bool) (a:Act) (w:World) (ι : Nat→Nat×Nat×Nat),listed.size=l.length→Q3s l (fun j=>listed.getD j false)→cntL (fun j=>listed.getD j false) l.length≤fuel →
  Conc E ι (J fun j=>listed.getD j false) a w→wpAny P .any l.toArray (fun ex a' w'=>∃ι' σ',Conc E ι' σ' a' w'∧Φ ex σ') fuel listed a w:=by
  intro fuel
  induction fuel with
  |zero=>
   intro listed a w ι hsz hcl hcnt hc
   have hall:=Q5x (L:=fun j=>listed.getD j false) l.length (by omega)
   refine⟨?_,ι,_,hc,hΦ _ hall⟩
   refine List.eq_nil_iff_forall_not_mem.2 fun i hi=>?_
   obtain⟨o,ho,hu,_⟩:=hready listed i hsz hi
   have:listed.getD i false=true:=hall i (List.getElem?_eq_some_iff.1 ho).1
   rw[hu] at this;cases this
  |succ fuel ih=>
   intro listed a w ι hsz hcl hcnt hc
   refine⟨fun hnil=>⟨ι,_,hc,hΦ _ fun j hj=>?_⟩,fun i hi=>?_⟩
   · refine Classical.byContradiction fun hn=>?_
     have key2:∀m,(∃j,j<m∧j<l.length∧listed.getD j false=false)→∃j,j<l.length∧listed.getD j false=false∧∀k,k<j→listed.getD k false=true:=by
      intro m
      induction m with
      |zero=>rintro ⟨j,hj,_⟩;omega
      |succ m ihm=>
       rintro ⟨j,hj,hjl,hju⟩
       by_cases hlow:∃k,k<m∧k<l.length∧listed.getD k false=false
       · exact ihm hlow
       · refine⟨j,hjl,hju,fun k hk=>Classical.byContradiction fun hku=>hlow ⟨k,by omega,by omega,by simpa using hku⟩⟩
     obtain⟨j,hjl,hju,hlow⟩:=key2 l.length ⟨j,hj,hj,by simpa using hn⟩
     have ho:l[j]? = some l[j]:=List.getElem?_eq_getElem hjl
     have hb:=List.all_eq_true.1 hback j (by simpa using hjl)
     simp only[ho,Array.all_eq_true_iff_forall_mem,Bool.or_eq_true,Bool.not_eq_true',decide_eq_true_eq] at hb
     have hmem:j∈Region.ready .any l.toArray listed:=by
      unfold Region.ready
      rw[List.mem_filter]
      refine⟨by simpa using hjl,?_⟩
      simp only[Bool.and_eq_true,Bool.not_eq_true',List.getElem?_toArray,ho,Option.map_some,Option.getD_some,Array.all_eq_true_iff_forall_mem]
      refine⟨?_,fun e he=>?_⟩
      · simp only[Array.getD,hsz,hjl,dif_pos] at hju ⊢
        exact hju
      · rcases hb e he with h|h
        · simp[h]
        · simp[hlow e.on h]
     rw[hnil] at hmem;cases hmem
   · obtain⟨o,ho,hu,hpre⟩:=hready listed i hsz hi
     have hil:=(List.getElem?_eq_some_iff.1 ho).1
     have hset:∀j,j≠i→(listed.setIfInBounds i true).getD j false=listed.getD j false:=fun j hj=>by
      simp[Array.getD_eq_getD_getElem?,Array.getElem?_setIfInBounds_ne (Ne.symm hj)]
     have hset':(listed.setIfInBounds i true).getD i false=true:=by
      simp[Array.getD,hsz,hil]
     have hcl':Q3s l (fun j=>(listed.setIfInBounds i true).getD j false):=fun j x hx hLj ed hed hb=>by
      by_cases hj:j=i
      · subst hj
        rw[ho] at hx;cases hx
        have:=hpre ed hed hb
        show(listed.setIfInBounds j true).getD ed.on false=true
        by_cases h:ed.on=j
        · rw[h];exact hset'
        · rw[hset _ h];exact this
      · have hLj':listed.getD j false=true:=by rw[←hset j hj];exact hLj
        have:=hcl j x hx hLj' ed hed hb
        show(listed.setIfInBounds i true).getD ed.on false=true
        by_cases h:ed.on=i
        · rw[h];exact hset'
        · rw[hset _ h];exact this
     have hcnt':cntL (fun j=>(listed.setIfInBounds i true).getD j false) l.length≤fuel:=by
      have:=(Q7a (L:=fun j=>listed.getD j false) (L':=fun j=>(listed.setIfInBounds i true).getD j false) hu hset' hset l.length).1 hil
      omega
     have hfun:(fun j=>(listed.setIfInBounds i true).getD j false)=fun j=>if j=i then true else listed.getD j false:=by
      funext j
      by_cases hj:j=i
      · rw[if_pos hj,hj];exact hset'
      · rw[if_neg hj];exact hset j hj
     have hg:o.guard=none:=by
      have:=List.all_eq_true.1 hgl o (List.mem_of_getElem? ho)
      simpa using this
     unfold wpOp
     simp only[List.getElem?_toArray,ho]
     have hw:Region.wanted o (yielded l.toArray a.tmps)=true:=by simp[Region.wanted,hg]
     rw[if_pos hw]
     refine .inl (step _ i o ho hu hcl hpre E ι a w hp hc _ _ fun ι' σ' a' w' hk hc'=>?_)
     obtain⟨ι2,hc2⟩:=hk E ι' a' w' hc'
     exact ih _ a' w' ι2 (by simpa using hsz) hcl' hcnt' (by rw[hfun];exact hc2)
 have hempty:(fun j=>(Array.replicate l.length false).getD j false)=fun _=>false:=by
  funext j
  simp[Array.getD_eq_getD_getElem?,Array.getElem?_replicate]
  split<;>rfl
 have hkey:=key l.length (Array.replicate l.length false) a w0 ι0 (by simp) (by rw[hempty];intro j x hx hL;cases hL) (by
  rw[hempty]
  have:∀k,cntL (fun _=>false) k≤k:=by
   intro k
   induction k with
   |zero=>exact Nat.le_refl _
   |succ k ih=>unfold cntL;split<;>omega
  exact this _) (by rw[hempty];exact hd0)
 simpa using hkey
def ifv(c:Bool)(x:AV):AV:=if c=true then x else .any
theorem Q2q(x:AV):ifv true x=x:=rfl
theorem Fn.known{P:Program}{f:FuncId}{args:List AV}{H0 H1:List (Nat×List AV)}{res:AV}(h:∀E0,FnW (fun E=>E=E0) P f args H0 res H1):Fn P f args H0 res H1:=fun E vs=>h E E vs rfl
end
section
open Go.RowKit Go.Lib
def FnWX(p:Env→Prop)(P:Program)(f:FuncId)(args:List AV)(H0:List (Nat×List AV)){X:Type}(res:X→AV)(H1:X→List (Nat×List AV)):Prop:=
 ∀(E:Env) (vs:List Value),p E→E.D=H0.map (·.1)→(∀r cs b,hget H0 r=some cs→(E.ι r).2.1≠0→E.S b→(E.ι r).1≠b)→ConcH E.S E.ι H0 E.w→vs.length=args.length→(∀(j:Nat) (v:Value) (x:AV),vs[j]? = some v→args[j]? = some x→RV E.S E.ι E.w v x) →
  Calls P f vs.toArray E.w fun e w'=>∃x v ι',e = .returned v∧RV (Sx E ι' (H1 x)) ι' w' v (res x)∧ConcH (Sx E ι' (H1 x)) ι' (H1 x) w'∧Keep E ι' (H1 x) w'
def FnX(P:Program)(f:FuncId)(args:List AV)(H0:List (Nat×List AV)){X:Type}(res:X→AV)(H1:X→List (Nat×List AV)):Prop:=FnWX (fun _=>True) P f args H0 res H1
theorem X3q{p:Env→Prop}{P:Program}{f:FuncId}{fn:Func}{c:Code}{args:List AV}{H0:List (Nat×List AV)}{X:Type}{res:X→AV}{H1:X→List (Nat×List AV)}(hf:P.funcs[f]? = some fn)(hb:fn.body=some c)(hD:H0.all (fun x=>decide (1000≤x.1))=true)
 (h:AWE p P c ⟨args++List.replicate (fn.ntmps-args.length) AV.any,H0⟩ (fun ex σ=>∃x,FnEnd P fn.results.toList (res x) (H1 x) ex σ)):FnWX p P f args H0 res H1:=by
 intro E vs hpE hED hS hH hlen hargs
 refine(callsIn_wide (n:=0)).1 (callsIn_of_wp_marks hf hb trivial (wpIn_wide.2 ?_))
 have hc0:Conc E E.ι ⟨args++List.replicate (fn.ntmps-args.length) AV.any,H0⟩ {tmps:=vs.toArray++Array.replicate (fn.ntmps-vs.toArray.size) undef,defers:=[]} E.w:=by
  have hSx:∀b,E.S b→b<E.w.heap.size→Sx E E.ι H0 b∧E.w.heap[b]? = E.w.heap[b]?:=fun b hb _=>⟨⟨.inl hb,fun r cs hr hz=>hS r cs b hr hz hb⟩,rfl⟩
  have hR:∀{v:Value} {x:AV},RV E.S E.ι E.w v x→RV (Sx E E.ι H0) E.ι E.w v x:=fun hv=>hv.mono hSx fun _ _=>rfl
  refine⟨.nil,by simp[hlen],fun i=>?_,⟨fun r cs hr=>?_,hH.inj⟩,⟨rfl,rfl,rfl,Nat.le_refl _,fun _ _ _=>rfl,fun r cs hr=>⟨fun _=>rfl,fun hn=>?_⟩⟩⟩
  · show RV (Sx E E.ι H0) E.ι E.w ((vs.toArray++Array.replicate (fn.ntmps-vs.toArray.size) undef).getD i undef) ((args++List.replicate (fn.ntmps-args.length) AV.any).getD i .any)
    by_cases hi:i<args.length
    · have e1:(vs.toArray++Array.replicate (fn.ntmps-vs.toArray.size) undef).getD i undef=vs[i]'(by omega):=by
       rw[Array.getD_eq_getD_getElem?,Array.getElem?_append_left (by simp;omega)]
       simp[show i<vs.length by omega]
      have e2:(args++List.replicate (fn.ntmps-args.length) AV.any).getD i .any=args[i]:=by
       rw[List.getD_eq_getElem?_getD,List.getElem?_append_left hi];simp[hi]
      rw[e1,e2]
      exact hR (hargs i _ _ (List.getElem?_eq_getElem (by omega)) (List.getElem?_eq_getElem hi))
    · have e2:(args++List.replicate (fn.ntmps-args.length) AV.any).getD i .any = .any:=by
       rw[List.getD_eq_getElem?_getD,List.getElem?_append_right (by omega),List.getElem?_replicate]
       split<;>rfl
      rw[e2];exact .any _
  · rcases hH.blk r cs hr with h0|⟨cur,hh,hs,hl,hc,hone1⟩
    · exact .inl h0
    · exact .inr ⟨cur,hh,hs,hl,fun j u x hu hx=>⟨hR (hc j u x hu hx).1,(hc j u x hu hx).2⟩,hone1⟩
  · exfalso
    apply hn
    rw[hED]
    have:∀(H:List (Nat×List AV)) (r:Nat) (cs:List AV),hget H r=some cs→r∈H.map (·.1):=by
     intro H
     induction H with
     |nil=>intro r cs h;cases h
     |cons x H ih=>
      obtain⟨k,ds⟩:=x
      intro r cs h
      unfold hget at h
      split at h
      · rename_i e;simp[e]
      · simp[ih r cs h]
    exact this H0 r cs hr
 refine wp_mono (h E E.ι _ E.w hpE hc0) fun ex a' w'=>?_
 rintro ⟨ι',σ',hc',x0,hex,⟨r,hres,hler⟩,hH1⟩
 have key:LeavesInM Fence.wide 0 P fn a'.tmps (fun e w'=>∃x v ι',e=Ending.returned v∧RV (Sx E ι' (H1 x)) ι' w' v (res x)∧ConcH (Sx E ι' (H1 x)) ι' (H1 x) w'∧Keep E ι' (H1 x) w') a'.defers .returning w':=by
  obtain⟨Ds,hnd,hds,hDs⟩:=hc'.defers
  rw[hds]
  refine Q5r (E:=E) (ι:=ι') (σ:=σ') (fun w' hc'=>?_) Ds w' hnd (fun D hD=>⟨(hDs D hD).1,(hDs D hD).2.2⟩) hc'.bare
  rw[Option.map_eq_some_iff] at hres
  obtain⟨ys,hys,rfl⟩:=hres
  obtain⟨us,hrun,hul,hrv⟩:=Q8a hc' fn.results.toList ys hys
  have hle:=hc'.leH hH1
  have hSx:∀b,Sx E ι' σ'.H b→b<w'.heap.size→Sx E ι' (H1 x0) b∧w'.heap[b]? = w'.heap[b]?:=fun b ⟨h1,h2⟩ _=>⟨⟨h1,fun r cs hr=>h2 r cs (hH1 r cs hr)⟩,rfl⟩
  have hR:∀{v:Value} {x:AV},RV (Sx E ι' σ'.H) ι' w' v x→RV (Sx E ι' (H1 x0)) ι' w' v x:=fun hv=>hv.mono hSx fun _ _=>rfl
  have hres':(results fn a'.tmps).run P w' = .ok (if h:us.toArray.size=1 then us.toArray[0] else .tuple us.toArray) w':=by
   have e0:results fn a'.tmps=(fn.results.mapM (X1o {tmps:=a'.tmps,defers:=[]}) >>= fun vs=>pure (if h:vs.size=1 then vs[0] else .tuple vs)):=by
    unfold results
    congr 2
   have e:fn.results=fn.results.toList.toArray:=by simp
   rw[e0,Sem.run_bind,e,List.mapM_toArray,Sem.run_map,hrun]
   simp only[Result.andThen_ok,Sem.run_pure]
  refine⟨_,hres',x0,_,ι',rfl,hler _ _ _ _ ?_,hle.heap,hle.keep⟩
  rcases ys with _|⟨y1,_|⟨y2,ys⟩⟩
  · obtain rfl:=List.eq_nil_of_length_eq_zero hul
    exact .tup [] [] rfl fun j u x hu=>by cases hu
  · rcases us with _|⟨u1,_|⟨u2,us⟩⟩
    · simp at hul
    · simpa [Q1o] using hR (hrv 0 u1 y1 rfl rfl)
    · simp at hul
  · rcases us with _|⟨u1,_|⟨u2,us⟩⟩
    · simp at hul
    · simp at hul
    · have:¬(u1::u2::us).toArray.size=1:=by simp
      rw[dif_neg this]
      exact .tup _ _ hul fun j u x hu hx=>hR (hrv j u x hu hx)
 rcases hex with rfl|rfl
 · exact key
 · exact key
theorem X1z{P:Program}{o:Oper}{σ : St}{K:St→Prop}{f:FuncId}{fn:Func}{cargs:List AV}{H0:List (Nat×List AV)}{X:Type}(x0:X){res:X→AV}{H1:X→List (Nat×List AV)}(hF:FnX P f cargs H0 res H1)(ρ : Nat→Nat)
 {fo:Operand} {cas:Array Operand} {ts:Array TypeId} {caps:List AV} (ho:o.op = .call {callee:=.value fo,args:=cas,argTypes:=ts}) (hfo:Q0v fo=true) (has:cas.toList.all Q0v=true) (hf:σ.ev fo = .fn f caps)
 (hfn:P.funcs[f]? = some fn) (hname:(fn.name == "runtime.NumGoroutine")=false) (hbody:fn.body.isNone=false)
 (hD0:H0.all (fun x=>decide (1000≤x.1))=true) (hargs:Q1t ρ cargs (cas.toList.map σ.ev++caps)) (hH0:∀r∈H0.map (·.1),hget σ.H (ρ r)=(hget H0 r).map (AV.renL ρ)) (hinj:∀x,∀r∈H0.map (·.1)++(H1 x).map (·.1),∀q∈H0.map (·.1)++(H1 x).map (·.1),ρ r = ρ q→r=q)
 (hnew:∀x,Q2d σ ρ H0 (H1 x)) (hin:∀x,AV.inN ((H1 x).map (·.1)) (res x)=true) (hinH:∀x,inH ((H1 x).map (·.1)) (H1 x)=true)
 (hK:∀x,K ((St.mk σ.T (Q0q (Q2k σ.H (renH ρ H0)) (renH ρ (H1 x)))).put o.dst (AV.ren ρ (res x)))):OpA P o σ K:=by
 intro E ι a w hc K' Q hK'
 have hfv:=hc.ev fo hfo
 rw[hf] at hfv
 generalize hfe:a.eval fo=fv at hfv
 cases hfv with
 |fn _ us _ hul hus=>
  have hSx:∀b,Sx E ι σ.H b→b<w.heap.size→Sx E ι σ.H b∧w.heap[b]? = w.heap[b]?:=fun b hb _=>⟨hb,rfl⟩
  have hD0':∀r∈H0.map (·.1),1000≤r:=fun r hr=>by
   obtain⟨x,hx,rfl⟩:=List.mem_map.1 hr
   have:=List.all_eq_true.1 hD0 x hx
   simpa using this
  have hvs:∀(j:Nat) (v:Value) (y:AV),(cas.toList.map a.eval++us)[j]? = some v→(cas.toList.map σ.ev++caps)[j]? = some y→RV (Sx E ι σ.H) ι w v y:=fun j v y hv hy=>by
   rw[List.getElem?_append] at hv hy
   simp only[List.length_map] at hv hy
   split at hv
   · rename_i hj
     rw[if_pos hj] at hy
     rw[List.getElem?_map,Option.map_eq_some_iff] at hv hy
     obtain⟨x1,hx1,rfl⟩:=hv
     obtain⟨x2,hx2,rfl⟩:=hy
     rw[hx1] at hx2;cases hx2
     exact hc.ev x1 (List.all_eq_true.1 has x1 (List.mem_of_getElem? hx1))
   · rename_i hj
     rw[if_neg hj] at hy
     exact hus _ v y hv hy
  obtain⟨hal,hag⟩:=Q3v hargs
  have hlen:(cas.toList.map a.eval++us).length=cargs.length:=by rw[hal];simp[hul]
  have hH0':∀r cs,hget H0 r=some cs→hget σ.H (ρ r)=some (AV.renL ρ cs):=fun r cs hr=>by rw[hH0 r (Q3d hr),hr];rfl
  obtain⟨E',hE'⟩:∃E':Env,E'={w:=w,S:=Sx E ι σ.H,ι:=fun r=>ι (ρ r),D:=H0.map (·.1),hD:=hD0',hG:=hc.glob hH0'}:=⟨_,rfl⟩
  have hconcH:ConcH E'.S E'.ι H0 E'.w:=by
   subst hE'
   exact hc.enter ρ hH0' fun r hr q hq=>hinj x0 r (List.mem_append_left _ hr) q (List.mem_append_left _ hq)
  have hcall:=hF E' (cas.toList.map a.eval++us) trivial (by rw[hE']) (fun r cs b hr hz hS=>by
   subst hE'
   exact hS.2 (ρ r) _ (hH0' r cs hr) hz) hconcH hlen (fun j v x hv hx=>by
   subst hE'
   have hlt:=(List.getElem?_eq_some_iff.1 hv).1
   have hy:(cas.toList.map σ.ev++caps)[j]? = some ((cas.toList.map σ.ev++caps)[j]'(by rw[←hal,←hlen];exact hlt)):=List.getElem?_eq_getElem _
   rcases hag j x _ hx hy with rfl|e
   · exact .any _
   · exact(hvs j v _ hv hy).unren x e)
  have hwE:E'.w=w:=by rw[hE']
  rw[hwE] at hcall
  have hrun:(execOp a.eval o).run P w = .ok (.enter f (cas.toList.map a.eval++us).toArray) w:=by
   have h1:cas.map a.eval=(cas.toList.map a.eval).toArray:=by rw[←Array.toList_map]
   have hen:=Q5h hfn hname hbody ((cas.toList.map a.eval).toArray++us.toArray) w
   simp only[List.append_toArray] at hen
   simp only[execOp,ho,resolve,hfe,Deferred.ofValue,h1,Sem.run_bind,Sem.run_pure,Result.andThen_ok,invoke,Array.empty_append,List.append_toArray,List.nil_append,hen]
  unfold Oper.wp
  rw[hrun,Oper.upon_enter]
  refine hcall.mono fun e w'=>?_
  rintro ⟨x,v,ι',rfl,hres,hcH,hk⟩
  simp only
  obtain⟨ι2,hcn,hrv⟩:=hc.back ρ hD0' hH0' (hinj x) (hnew x) (hin x) (hinH x) hE' hres hcH hk
  exact hK' ι2 _ _ _ (hK x) (hcn.put o.dst hrv)
theorem AW.rangeX{P:Program}{σ : St}{Φ : Exit→St→Prop}{g:Operand}{t:Tmp}{assign body:Code}{gf:FuncId}{fn:Func}{caps:List AV}{cargs:List AV}{H0:List (Nat×List AV)}{X:Type}(x0:X){H1:X→List (Nat×List AV)}{res:X→AV}{T0:List AV}(ρ : Nat→Nat)
 (hF:∀l,FnWX (LoopAt t assign body T0 (H0.map (·.1)) l) P gf (yv l::cargs) H0 res H1) (hg0:Q0v g=true) (hg:σ.ev g = .fn gf caps) (hfn:P.funcs[gf]? = some fn) (hname:(fn.name == "runtime.NumGoroutine")=false) (hbody:fn.body.isNone=false)
 (hD0:H0.all (fun x=>decide (1000≤x.1))=true) (hargs:Q1t ρ cargs caps) (hT0:Q1t ρ T0 σ.T) (hH0:∀r∈H0.map (·.1),hget σ.H (ρ r)=(hget H0 r).map (AV.renL ρ)) (hinj:∀x,∀r∈H0.map (·.1)++(H1 x).map (·.1),∀q∈H0.map (·.1)++(H1 x).map (·.1),ρ r = ρ q→r=q)
 (hnew:∀x,Q2d σ ρ H0 (H1 x)) (hin:∀x,AV.inN ((H1 x).map (·.1)) (res x)=true) (hinH:∀x,inH ((H1 x).map (·.1)) (H1 x)=true)
 (hK:∀x,Φ .normal ⟨σ.T,Q0q (Q2k σ.H (renH ρ H0)) (renH ρ (H1 x))⟩):AW P (.rangeFunc g #[t] assign body) σ Φ:=by
 intro E ι a w hc
 have hfv:=hc.ev g hg0
 rw[hg] at hfv
 generalize hge:a.eval g=fv at hfv
 cases hfv with
 |fn _ us _ hul hus=>
  refine(wpIn_wide (n:=0)).1 (wpIn_rangeFunc fun f _=>?_)
  obtain⟨w1,hw1⟩:∃w1,(w.alloc (.deferred (some []))).alloc (.loop (Q4d #[t] assign body f a.tmps w.heap.size))=w1:=⟨_,rfl⟩
  have hc1:Conc E ι σ a w1:=hw1▸(hc.alloc _).alloc _
  have hL:w1.heap[w.heap.size+1]? = some (.loop (Q4d #[t] assign body f a.tmps w.heap.size)):=by
   rw[←hw1]
   have:=World.alloc_heap_new (w.alloc (.deferred (some []))) (.loop (Q4d #[t] assign body f a.tmps w.heap.size))
   rwa [World.size_alloc] at this
  have hB:w1.heap[w.heap.size]? = some (.deferred (some [])):=by
   rw[←hw1,Below.heap_alloc _ _ _ (by rw[World.size_alloc];omega)]
   exact World.alloc_heap_new _ _
  have hD0':∀r∈H0.map (·.1),1000≤r:=fun r hr=>by
   obtain⟨y,hy,rfl⟩:=List.mem_map.1 hr
   have:=List.all_eq_true.1 hD0 y hy
   simpa using this
  have hH0':∀r cs,hget H0 r=some cs→hget σ.H (ρ r)=some (AV.renL ρ cs):=fun r cs hr=>by rw[hH0 r (Q3d hr),hr];rfl
  obtain⟨E',hE'⟩:∃E':Env,E'={w:=w1,S:=Sx E ι σ.H,ι:=fun r=>ι (ρ r),D:=H0.map (·.1),hD:=hD0',hG:=hc1.glob hH0'}:=⟨_,rfl⟩
  have hwE:E'.w=w1:=by rw[hE']
  have hED:E'.D=H0.map (·.1):=by rw[hE']
  have hconcH:ConcH E'.S E'.ι H0 E'.w:=by
   subst hE'
   exact hc1.enter ρ hH0' fun r hr q hq=>hinj x0 r (List.mem_append_left _ hr) q (List.mem_append_left _ hq)
  have hdis:∀r cs b,hget H0 r=some cs→(E'.ι r).2.1≠0→E'.S b→(E'.ι r).1≠b:=fun r cs b hr hz hS=>by
   subst hE'
   exact hS.2 (ρ r) _ (hH0' r cs hr) hz
  have hneL:∀r∈E'.D,(E'.ι r).2.1≠0→(E'.ι r).1≠w.heap.size+1:=by
   rw[hED];exact X2v hconcH (by rw[hwE];exact hL) rfl
  have hneB:∀r∈E'.D,(E'.ι r).2.1≠0→(E'.ι r).1≠w.heap.size:=by
   rw[hED];exact X2v hconcH (by rw[hwE];exact hB) rfl
  obtain⟨hTl,hTg⟩:=Q3v hT0
  obtain⟨hal,hag⟩:=Q3v hargs
  have hat:LoopAt t assign body T0 (H0.map (·.1)) (w.heap.size+1) E':=by
   refine⟨⟨f,a.tmps,w.heap.size,by rw[hwE];exact hL,hc1.size.trans hTl.symm,fun i=>?_⟩,hneL,fun r hr hz b hb=>?_,hED⟩
   · subst hE'
     have hv:=hc1.tmp i
     rw[List.getD_eq_getElem?_getD] at hv ⊢
     cases hi:T0[i]? with
     |none=>exact .any _
     |some x=>
      have hlt:=(List.getElem?_eq_some_iff.1 hi).1
      rw[List.getElem?_eq_getElem (by omega)] at hv
      rcases hTg i x _ hi (List.getElem?_eq_getElem (by omega)) with rfl|e
      · exact .any _
      · exact hv.unren x e
   · obtain⟨cs,hcs⟩:=Q1v (hED▸hr)
     exact hdis r cs b hcs hz hb
  have hcall:=hF (w.heap.size+1) E' (.func (.yield (w.heap.size+1)) #[] #[]::us) hat hED hdis hconcH (by simp[hul,hal]) (fun j v x hv hx=>by
   cases j with
   |zero=>cases hv;cases hx;exact .c _ _ (.v _ rfl)
   |succ j=>
    simp only[List.getElem?_cons_succ] at hv hx
    have hlt:=(List.getElem?_eq_some_iff.1 hx).1
    subst hE'
    rcases hag j x _ hx (List.getElem?_eq_getElem (by omega)) with rfl|e
    · exact .any _
    · have:=hus j v _ hv (List.getElem?_eq_getElem (by omega))
      exact(this.mono (S':=Sx E ι σ.H) (w':=w1) (fun b hb hlt=>⟨hb,by rw[←hw1,Below.heap_alloc _ _ _ (by rw[World.size_alloc];omega),Below.heap_alloc _ _ _ hlt]⟩) fun _ _=>rfl).unren x e)
  rw[hwE] at hcall
  refine⟨w.heap.size+1,[{target:=.collected w.heap.size,args:=#[]}],w1,{target:=.fn (.func gf) us.toArray,args:=#[.func (.yield (w.heap.size+1)) #[] #[]]},w1,gf,(.func (.yield (w.heap.size+1)) #[] #[]::us:List Value).toArray,w1,?_,?_,fun _ _=>trivial,?_,fun e=>(by cases e),(callsIn_wide (n:=0-1)).2 (hcall.mono fun e w'=>?_)⟩
  · rw[←hw1];exact run_enterLoop_outer f a.tmps #[t] assign body
  · simp only[resolve,hge,Deferred.ofValue,List.map_toArray,List.map_cons,List.map_nil,Sem.run_bind,Sem.run_pure,Result.andThen_ok,Array.empty_append]
    rfl
  · have hen:=Q5h hfn hname hbody (.func (.yield (w.heap.size+1)) #[] #[]::us:List Value).toArray w1
    simpa only[invoke,List.append_toArray,List.cons_append,List.nil_append] using hen
  · rintro ⟨y0,v,ι',rfl,hres,hcH,hk⟩
    obtain⟨ι2,hcn,-⟩:=hc1.back ρ hD0' hH0' (hinj y0) (hnew y0) (hin y0) (hinH y0) hE' hres hcH hk
    have hlt1:w.heap.size+1<w1.heap.size:=(Array.getElem?_eq_some_iff.1 hL).1
    have hL':w'.heap[w.heap.size+1]? = some (.loop (Q4d #[t] assign body f a.tmps w.heap.size)):=by
     rw[hk.block _ (by rw[hwE];exact hlt1) hneL,hwE];exact hL
    have hB':w'.heap[w.heap.size]? = some (.deferred (some [])):=by
     rw[hk.block _ (by rw[hwE];omega) hneB,hwE];exact hB
    refine⟨none,_,run_endLoop hL' (by simp),?_⟩
    have hE0:=hc.keep.size
    have hMk:Marks E (Sx E ι2 (Q0q (Q2k σ.H (renH ρ H0)) (renH ρ (H1 y0)))) (w'.putObj (w.heap.size+1) (.loop {Q4d #[t] assign body f a.tmps w.heap.size with state:=.exhausted})) ({target:=.collected w.heap.size,args:=#[]}::a.defers):=by
     obtain⟨Ds,g1,g2,g3⟩:=hcn.defers
     obtain⟨Ds0,k1,k2,k3⟩:=hc.defers
     have hinjm:Ds=Ds0:=by
      have:=g2.symm.trans k2
      exact(List.map_inj_right (fun x y e=>by simpa using e)).1 this
     subst hinjm
     refine⟨w.heap.size::Ds,List.nodup_cons.2 ⟨fun hm=>?_,g1⟩,by rw[List.map_cons,←g2],fun D hD=>?_⟩
     · have:=(Array.getElem?_eq_some_iff.1 (k3 _ hm).2.2).1;omega
     · rcases List.mem_cons.1 hD with rfl|hD
       · refine⟨hE0,⟨.inr (.inl hE0),fun r cs hr hz e=>?_⟩,(World.putObj_heap_other (by omega)).trans hB'⟩
         rcases hcn.heap.blk r cs hr with⟨h0,_⟩|⟨cur,hh,_⟩
         · exact hz h0
         · rw[e,hB'] at hh;cases hh
       · obtain⟨m1,m2,m3⟩:=g3 D hD
         have:=(Array.getElem?_eq_some_iff.1 (k3 D hD).2.2).1
         exact⟨m1,m2,(World.putObj_heap_other (by omega)).trans m3⟩
    exact⟨ι2,_,hcn.turn _ hL' rfl (by omega) hMk,hK y0⟩
theorem X5h{P:Program}{o:Oper}{σ : St}{t:Tmp}{assign body:Code}{T0:List AV}{DD:List Nat}{l:Nat}{x:AV}{H0 H1:List (Nat×List AV)}(hY:YC P t assign body T0 l x H0 H1)(ρ : Nat→Nat)
 {fo ao:Operand} {ts:Array TypeId} (ho:o.op = .call {callee:=.value fo,args:=#[ao],argTypes:=ts}) (hfo:Q0v fo=true) (hao:Q0v ao=true) (hf:σ.ev fo = .c (.v (.func (.yield l) #[] #[]))) (hx:Q2h ρ x (σ.ev ao))
 (hD0:H0.all (fun x=>decide (1000≤x.1))=true) (hH0:∀r∈H0.map (·.1),hget σ.H (ρ r)=(hget H0 r).map (AV.renL ρ)) (hinj:∀r∈H0.map (·.1)++H1.map (·.1),∀q∈H0.map (·.1)++H1.map (·.1),ρ r = ρ q→r=q)
 (hnew:Q2d σ ρ H0 H1) (hinH:inH (H1.map (·.1)) H1=true) (NT:List Nat) (hT0:AV.inNL NT T0=true) (hNT:∀r∈NT,r∈DD∧ρ r=r∧(hget σ.H r).isSome=true)
 {E:Env} {ι : Nat→Nat×Nat×Nat} {a:Act} {w:World} (hp:LoopAt t assign body T0 DD l E) (hc:Conc E ι σ a w) {K':Act→World→Prop} {Q:Exit→Act→World→Prop}
 (hK':∀ι' a' w',Conc E ι' ((St.mk σ.T (Q0q (Q2k σ.H (renH ρ H0)) (renH ρ H1))).put o.dst (.c (.v (.bool true)))) a' w'→(∀(q:Nat) (u:Obj),w.heap[q]? = some u→(∀cs e z,u≠.cells cs e z)→w'.heap[q]? = some u)→K' a' w'):o.wpIn Fence.wide 0 P a w K' Q:=by
 obtain⟨⟨f,tt,D,hl,hsz,htt⟩,hfree,hdis,hnames⟩:=hp
 have hlt:=(Array.getElem?_eq_some_iff.1 hl).1
 have hlw:w.heap[l]? = some (.loop (Q4d #[t] assign body f tt D)):=(hc.keep.block l hlt hfree).trans hl
 have hfv:=hc.ev fo hfo
 rw[hf] at hfv
 obtain⟨hfe,_⟩:=hfv.v_inv
 have hav:=hc.ev ao hao
 have hD0':∀r∈H0.map (·.1),1000≤r:=fun r hr=>by
  obtain⟨y,hy,rfl⟩:=List.mem_map.1 hr
  have:=List.all_eq_true.1 hD0 y hy
  simpa using this
 have hH0':∀r cs,hget H0 r=some cs→hget σ.H (ρ r)=some (AV.renL ρ cs):=fun r cs hr=>by rw[hH0 r (Q3d hr),hr];rfl
 obtain⟨E',hE'⟩:∃E':Env,E'={w:=w,S:=Sx E ι σ.H,ι:=fun r=>ι (ρ r),D:=H0.map (·.1),hD:=hD0',hG:=hc.glob hH0'}:=⟨_,rfl⟩
 have hconcH:ConcH E'.S E'.ι H0 E'.w:=by
  subst hE'
  exact hc.enter ρ hH0' fun r hr q hq=>hinj r (List.mem_append_left _ hr) q (List.mem_append_left _ hq)
 have hSE:∀b,E.S b→b<E.w.heap.size→Sx E ι σ.H b∧w.heap[b]? = E.w.heap[b]?:=fun b hb hlt=>by
  refine⟨⟨.inl hb,fun r cs hr hz=>?_⟩,hc.keep.block b hlt fun r hr hz=>hdis r hr hz b hb⟩
  obtain⟨m1,m2⟩:=hc.keep.mine r cs hr
  by_cases hm:r∈E.D
  · rw[m1 hm] at hz ⊢;exact hdis r hm hz b hb
  · rcases m2 hm hz with h1|⟨q,hq,hqz,h1⟩
    · omega
    · rw[←h1];exact hdis q hq hqz b hb
 have hround:=hY E' (a.eval ao) f tt D (by rw[hE']) (fun r cs b hr hz hS=>by
  subst hE'
  exact hS.2 (ρ r) _ (hH0' r cs hr) hz) hconcH (by
   subst hE'
   rcases hx with rfl|e
   · exact .any _
   · exact hav.unren x e) (by rw[hE'];exact hlw) hsz (fun i=>by
     subst hE'
     refine(htt i).mono hSE fun r hr=>?_
     have hin:AV.inN NT (T0.getD i .any)=true:=X3n hT0 i
     obtain⟨g1,g2,g3⟩:=hNT r (X0e _ hin hr)
     obtain⟨cs,hcs⟩:=Option.isSome_iff_exists.1 g3
     show ι (ρ r)=E.ι r
     rw[g2]
     exact(hc.keep.mine r cs hcs).1 (by rw[hnames];exact g1))
 have hwE:E'.w=w:=by rw[hE']
 rw[hwE] at hround
 have hrun:(execOp a.eval o).run P w = .ok (.round l f (tt.setIfInBounds t (a.eval ao)) assign body) w:=by
  have hy:=run_yield (P:=P) (args:=#[a.eval ao]) hlw rfl
  simp only[execOp,ho,resolve,hfe,Deferred.ofValue,List.map_toArray,List.map_cons,List.map_nil,Sem.run_bind,Sem.run_pure,Result.andThen_ok,invoke,callFunc,Array.empty_append,List.append_toArray,List.nil_append,List.append_nil]
  simpa using hy
 refine⟨fun _ _=>trivial,?_⟩
 rw[Oper.semAt_eq _ _ _ (fun c e=>by rw[ho] at e;cases e),hrun,Oper.uponIn_round]
 refine⟨fun e=>(by cases e),RoundIn.mono hround fun e w'=>?_⟩
 rintro ⟨v,ι',rfl,hres,hcH,hk⟩
 simp only
 obtain⟨ι2,hcn,hrv⟩:=hc.back ρ hD0' hH0' hinj hnew rfl hinH hE' hres hcH hk
 refine hK' ι2 _ _ (hcn.put o.dst hrv) fun q u hq hu=>?_
 refine(hk.block q (by rw[hwE];exact(Array.getElem?_eq_some_iff.1 hq).1) fun r hr hz e=>?_).trans (by rw[hwE];exact hq)
 rw[show E'.D=H0.map (·.1) by rw[hE']] at hr
 obtain⟨cs,hcs⟩:=Q1v hr
 rcases hconcH.blk r cs hcs with⟨h0,_⟩|⟨cur,hh,_⟩
 · exact hz h0
 · rw[e,hwE,hq] at hh
   cases hh
   exact hu _ _ _ rfl
theorem Conc.step{E:Env}{ι : Nat→Nat×Nat×Nat}{σ : St}{a:Act}{w w':World}(h:Conc E ι σ a w){r:Nat}{o:Obj}(hl:w.heap[r]? = some o)(hn:Q8q o=false)(hnd:∀d,o≠.deferred d)(hE:E.w.heap.size≤r)
 (e1:w'.os=w.os) (e2:w'.tape=w.tape) (e3:w'.output=w.output) (e4:w'.heap.size=w.heap.size) (e5:∀b,b≠r→w'.heap[b]? = w.heap[b]?):Conc E ι σ a w':=by
 have hne:∀b o1,w.heap[b]? = some o1→Q8q o1=true→w'.heap[b]? = w.heap[b]?:=fun b o1 hb h1=>e5 b fun e=>by
  subst e;rw[hb] at hl;cases hl;rw[hn] at h1;cases h1
 have hR:∀{v:Value} {x:AV},RV (Sx E ι σ.H) ι w v x→RV (Sx E ι σ.H) ι w' v x:=fun hv=>hv.cmono fun b o1 hS hb h1=>⟨hS,hne b o1 hb h1⟩
 refine⟨?_,h.size,fun i=>hR (h.tmp i),⟨fun r cs hr=>?_,h.heap.inj⟩,⟨e1.trans h.keep.os,e2.trans h.keep.tape,e3.trans h.keep.output,by rw[e4];exact h.keep.size,fun b hb hbD=>?_,h.keep.mine⟩⟩
 · obtain⟨Ds,h1,h2,h3⟩:=h.defers
   refine⟨Ds,h1,h2,fun D hD=>?_⟩
   obtain⟨g1,g2,g3⟩:=h3 D hD
   exact⟨g1,g2,(e5 D fun e=>by subst e;rw[g3] at hl;cases hl;exact hnd _ rfl).trans g3⟩
 · rcases h.heap.blk r cs hr with h0|⟨cur,hh,hs,hlen,hc,hone1⟩
   · exact .inl h0
   · exact .inr ⟨cur,(hne _ _ hh rfl).trans hh,hs,hlen,fun j u x hu hx=>⟨hR (hc j u x hu hx).1,(hc j u x hu hx).2⟩,hone1⟩
 · rw[e5 b (by omega)];exact h.keep.block b hb hbD
section
variable {P:Program} {E:Env} {ι : Nat→Nat×Nat×Nat} {σ : St} {a:Act} {w:World} {ops:Array Oper} {o:Oper} {rest:List Oper} {Q:Exit→Act→World→Prop} {x:AV}
def PureO(P:Program)(o:Oper)(σ : St)(x:AV):Prop:=∀E ι a w,Conc E ι σ a w→∃v,(execOp a.eval o).run P w = .ok (.value v) w∧RV (Sx E ι σ.H) ι w v x
theorem Q8l{y:Operand}(ho:o.op = .move y∨o.op = .assign y)(hy:Q0v y=true):PureO P o σ (σ.ev y):=fun E ι a w hc=>⟨a.eval y,by rcases ho with h|h<;>simp[execOp,h],hc.ev y hy⟩
theorem pure_not{t:TypeId}{y:Operand}{b:Bool}(ho:o.op = .unOp .not t y)(hy:Q0v y=true)(h1:σ.ev y = .c (.v (.bool b))):PureO P o σ (.c (.v (.bool (!b)))):=fun E ι a w h=>by
 have hxv:=h.ev y hy
 rw[h1] at hxv
 obtain⟨e1,_⟩:=hxv.v_inv
 exact⟨.bool (!b),by simp[execOp,ho,e1,Op.unary],Q2n _ rfl⟩
theorem Q5j{y:Operand}{k:Nat}{xs:List AV}(ho:o.op = .extract y k)(hy:Q0v y=true)(h1:σ.ev y = .tup xs)(hx:xs[k]? = some x):PureO P o σ x:=fun E ι a w h=>by
 have hxv:=h.ev y hy
 rw[h1] at hxv
 generalize he:a.eval y=v at hxv
 cases hxv with
 |tup us cs hl hr=>
  have hlt:k<us.length:=by have:=(List.getElem?_eq_some_iff.1 hx).1;omega
  have hu:us[k]? = some us[k]:=List.getElem?_eq_getElem hlt
  exact⟨us[k],by simp[execOp,ho,he,Instr.extract,hu],hr k _ _ hu hx⟩
theorem X1e{v:Value}{w':World}(hg:o.guard=none)(hnd:opNd o=true)(hr:(execOp a.eval o).run P w = .ok (.value v) w')(h:wpListIn Fence.wide 0 P ops Q rest (a.put o.dst v) w'):wpListIn Fence.wide 0 P ops Q (o::rest) a w:=
 wpListIn_plain hg fun K' hK'=>by
  refine Q4a (ro:=none) hnd ?_
  unfold Oper.wp
  rw[hr]
  exact hK' _ _ h
theorem Q6j(hp:PureO P o σ x)(hc:Conc E ι σ a w)(hg:o.guard=none)(hnd:opNd o=true)(h:∀a',Conc E ι (σ.put o.dst x) a' w→wpListIn Fence.wide 0 P ops Q rest a' w):wpListIn Fence.wide 0 P ops Q (o::rest) a w:=by
 obtain⟨v,hr,hv⟩:=hp E ι a w hc
 exact X1e hg hnd hr (h _ (hc.put o.dst hv))
theorem wp_loopI{c:Code}(I:Nat→Act→World→Prop)(hround:∀n a w,I n a w→c.wp P (fun ex a' w'=>match ex with | .normal=>∃m,m<n∧I m a' w'|ex=>Q ex a' w') a w):∀n a w,I n a w→(Code.loop c).wp P Q a w:=by
 intro n a w hI b k cs
 have key:∀n a w,I n a w→∃e a' w',Q e a' w'∧Arrives P (lone (b.at a (.code c :: .inLoop c::k)) cs w) b k cs e a' w':=by
  intro n
  induction n using Nat.strongRecOn with
  |_ n ih=>
   intro a w hI
   obtain⟨e,a₁,w₁,hq,harr⟩:=hround n a w hI b (.inLoop c::k) cs
   cases e with
   |normal=>
    obtain⟨m,hlt,hI2⟩:=hq
    obtain⟨e₂,a₂,w₂,hq₂,harr₂⟩:=ih m hlt a₁ w₁ hI2
    exact⟨e₂,a₂,w₂,hq₂,.of_steps (Steps.trans harr (.one step_inLoop)) harr₂⟩
   |exit id=>exact⟨_,a₁,w₁,hq,.pass (x:=.inLoop c) rfl (fun _ _=>.inl (by simp)) harr⟩
   |goto l=>exact⟨_,a₁,w₁,hq,.pass (x:=.inLoop c) rfl (fun _ _=>.inl (by simp)) harr⟩
   |ret=>exact⟨_,a₁,w₁,hq,.pass (x:=.inLoop c) rfl (fun _ _=>.inl (by simp)) harr⟩
   |panic ch=>exact⟨_,a₁,w₁,hq,.pass (x:=.inLoop c) rfl (fun _ _=>.inl (by simp)) harr⟩
   |outgrown=>exact⟨_,a₁,w₁,hq,.pass (x:=.inLoop c) rfl (fun _ _=>.inl (by simp)) harr⟩
 obtain⟨e,a',w',hq,harr⟩:=key n a w hI
 exact⟨e,a',w',hq,.of_steps (.one step_loop) harr⟩
end
end
end Go.Proofs.Ytbmcdemnnbndeaa
