/-
  Three swaps at drawn places. Printed by gen_pqk.py.
-/
import Derived.Test.YtbmcdemnnbndeaaPqh
import Derived.Test.YtbmcdemnnbndeaaPqf
import Derived.Sort.LotD5
namespace Go.Proofs.Ytbmcdemnnbndeaa
set_option linter.unusedSimpArgs false
set_option linter.unusedVariables false
section
open Go.RowKit
open Nat (reduceBEq)
attribute [-go_sem] IntKind.bits
set_option maxRecDepth 20000
set_option maxHeartbeats 2000000
attribute [local simp] Q0l Q0a Q0k
theorem srt_go{d:Array Int}{b i:Nat}(h:i<b)(hp:¬d[i]! < d[i-1]!):Sort.scanSorted ltI d b i=Sort.scanSorted ltI d b (i+1):=by
 conv=>lhs;unfold Sort.scanSorted
 rw[if_pos (by simp[h];omega)]
theorem Q7w{d:Array Int}{b i:Nat}(h:¬(i<b∧¬d[i]! < d[i-1]!)):Sort.scanSorted ltI d b i=i:=by
 unfold Sort.scanSorted
 rw[if_neg (by simpa using h)]
theorem srt_bd{d:Array Int}{b:Nat}:∀(m i:Nat),b-i≤m→i≤b→i≤Sort.scanSorted ltI d b i∧Sort.scanSorted ltI d b i≤b:=by
 intro m
 induction m with
 |zero=>
  intro i h1 h2
  rw[Q7w (by omega)]
  omega
 |succ m ih=>
  intro i h1 h2
  by_cases h:i<b∧¬d[i]! < d[i-1]!
  · rw[srt_go h.1 h.2]
    have:=ih (i+1) (by omega) (by omega)
    omega
  · rw[Q7w h]
    omega
theorem shd_go{d:Array Int}{j:Nat}(h:d[j+1]! < d[j]!):Sort.shiftDown ltI (j+1) d=Sort.shiftDown ltI j (Sort.swp d (j+1) j):=by
 conv=>lhs;unfold Sort.shiftDown
 rw[if_neg (by simp[h])]
theorem X4h{d:Array Int}{j:Nat}(h:¬d[j+1]! < d[j]!):Sort.shiftDown ltI (j+1) d=d:=by
 unfold Sort.shiftDown
 rw[if_pos (by simpa using h)]
theorem X4i:∀(j:Nat) (d:Array Int),(Sort.shiftDown ltI j d).size=d.size
 |0,d=>rfl
 |j+1,d=>by
  by_cases h:d[j+1]! < d[j]!
  · rw[shd_go h,X4i j,Q2m]
  · rw[X4h h]
theorem shu_go{d:Array Int}{b j:Nat}(hj:j<b)(h:d[j]! < d[j-1]!):Sort.shiftUp ltI b j d=Sort.shiftUp ltI b (j+1) (Sort.swp d j (j-1)):=by
 conv=>lhs;unfold Sort.shiftUp
 rw[if_pos hj,if_neg (by simp[h])]
theorem Q6c{d:Array Int}{b j:Nat}(h:¬(j<b∧d[j]! < d[j-1]!)):Sort.shiftUp ltI b j d=d:=by
 unfold Sort.shiftUp
 by_cases hj:j<b
 · rw[if_pos hj,if_pos (by simpa using fun h2=>h ⟨hj,h2⟩)]
 · rw[if_neg hj]
theorem X4g{b:Nat}:∀(m j:Nat) (d:Array Int),b-j≤m→(Sort.shiftUp ltI b j d).size=d.size:=by
 intro m
 induction m with
 |zero=>
  intro j d h
  rw[Q6c (by omega)]
 |succ m ih=>
  intro j d h
  by_cases h2:j<b∧d[j]! < d[j-1]!
  · rw[shu_go h2.1 h2.2,ih _ _ (by omega),Q2m]
  · rw[Q6c h2]
abbrev stPi(d:Array Int)(n a b s i:Nat):St:=⟨[.row 1000 adT 1 n,vi .i64 (a:Int),vi .i64 (b:Int),.any,.any,.any,.any,vi .i64 (i:Int),vi .i64 (s:Int),.any,.any,.any,.any,.any,.any,.any,.any,.any,.any,.any,.any,.any,.any,.any,.any,.any,.any,.any,.any,.any,.any,.any,.any,.any,.any,.any,.any,.any,.any,.any,.any,.any,.any,.any,.any,.any,.any,.any,.any,.any,.any,.any,.any,.any,.any,.any,.any,.any,.any,.any,.any,.any,.any,.any,.any,.any,.any,.any,.any,.any,.any,.any,.any,.any,.any,.any,.any,.any,.any,.any,.any,.any,.any,.any,.any,.any,.any,.any,.any,.any,.any,.any,.any,.any,.any,.any,.any,.any,.any,.any,.any,.any,.any,.any,.any,.any,.any,.any,.any,.any,.any,.any,.any,.any,.any,.any,.any,.any,.any,.any,.any,.any,.any,.any,.any,.any,.any,.any,.any,.any,.any,.any,.any],[(1000,rI d)]⟩
abbrev stPd(d:Array Int)(n a b s i j:Nat):St:=⟨[.row 1000 adT 1 n,vi .i64 (a:Int),vi .i64 (b:Int),.any,.any,.any,.any,vi .i64 (i:Int),vi .i64 (s:Int),vi .i64 (j:Int),.any,.any,.any,.any,.any,.any,.any,.any,.any,.any,.any,.any,.any,.any,.any,.any,.any,.any,.any,.any,.any,.any,.any,.any,.any,.any,.any,.any,.any,.any,.any,.any,.any,.any,.any,.any,.any,.any,.any,.any,.any,.any,.any,.any,.any,.any,.any,.any,.any,.any,.any,.any,.any,.any,.any,.any,.any,.any,.any,.any,.any,.any,.any,.any,.any,.any,.any,.any,.any,.any,.any,.any,.any,.any,.any,.any,.any,.any,.any,.any,.any,.any,.any,.any,.any,.any,.any,.any,.any,.any,.any,.any,.any,.any,.any,.any,.any,.any,.any,.any,.any,.any,.any,.any,.any,.any,.any,.any,.any,.any,.any,.any,.any,.any,.any,.any,.any,.any,.any,.any,.any,.any,.any],[(1000,rI d)]⟩
abbrev stPw(d:Array Int)(n a b s i j:Nat):St:=⟨[.row 1000 adT 1 n,vi .i64 (a:Int),vi .i64 (b:Int),.any,.any,.any,.any,vi .i64 (i:Int),vi .i64 (s:Int),.any,vi .i64 (j:Int),.any,.any,.any,.any,.any,.any,.any,.any,.any,.any,.any,.any,.any,.any,.any,.any,.any,.any,.any,.any,.any,.any,.any,.any,.any,.any,.any,.any,.any,.any,.any,.any,.any,.any,.any,.any,.any,.any,.any,.any,.any,.any,.any,.any,.any,.any,.any,.any,.any,.any,.any,.any,.any,.any,.any,.any,.any,.any,.any,.any,.any,.any,.any,.any,.any,.any,.any,.any,.any,.any,.any,.any,.any,.any,.any,.any,.any,.any,.any,.any,.any,.any,.any,.any,.any,.any,.any,.any,.any,.any,.any,.any,.any,.any,.any,.any,.any,.any,.any,.any,.any,.any,.any,.any,.any,.any,.any,.any,.any,.any,.any,.any,.any,.any,.any,.any,.any,.any,.any,.any,.any,.any],[(1000,rI d)]⟩
theorem pins_fn(n a b:Nat)(hab:a<b)(hb:b≤n)(hn:n≤1000000)(d0:Array Int)(h0:d0.size=n):Fn Try.prog 69 [.row 1000 adT 1 n,vi .i64 (a:Int),vi .i64 (b:Int)] [(1000,rI d0)] (vb (Sort.partialInsertionSort ltI d0 a b).2) [(1000,rI (Sort.partialInsertionSort ltI d0 a b).1)]:=by
 unfold Sort.partialInsertionSort
 obtain⟨⟨rd,rb⟩,hres⟩:∃q,Sort.partialIns ltI a b 5 (a+1) d0=q:=⟨_,rfl⟩
 rw[hres]
 dsimp only
 have w2:(a:Int)+1=((a+1:Nat):Int):=by omega
 (refine Q1q Try.func69 rfl (by rfl) ?_;simp only[Try.ntmps69,List.length_cons,List.length_nil,Nat.reduceAdd,Nat.reduceSub,List.replicate,List.cons_append,List.nil_append])
 (repeat(any_goals(first|((with_reducible refine Q0g ?_ ?_);rfl;intro K hK;simp(disch:=omega) only[go_sem,w2,wrI];((repeat(refine ndI (by first|assumption|omega|rfl) ?_));refine hK _ ?_;clear hK K))|(with_reducible first|(refine Q0i ?_;refine hR _ ?_;clear hR R)|((first|refine Q0h ?_|refine Q0c ?_);intro Ψ hΨ hΨ')|(refine Q0b ?_;intro R hR)|(refine hΨ _ ?_;clear hΨ hΨ' Ψ)|refine Q0d ?_|refine Q0j ?_|refine Q0e ?_)|((with_reducible refine hΨ' _ _ ?_ ?_);(focus(simp;done));clear hΨ hΨ' Ψ)|((with_reducible apply Q0f);rfl;rfl;all_goals(intro hc;first|(cases hc;done)|(try simp only at hc)))|((with_reducible refine Q0t ?_ ?_);kernel_rfl;(with_reducible refine hR _ ?_);clear hR R)|((first|((with_reducible apply Q0r);rfl;rfl;rfl;rfl)|((with_reducible apply Q0n);rfl;rfl;rfl)|((first|((with_reducible apply Q0u);rfl;rfl)|((with_reducible apply Q0s);rfl;rfl;rfl;rfl;rfl));(simp(disch:=omega) only[rdE,rdOf,go_sem,w2,wrI];rfl);(intro τ hA hQ hN;((try simp only[Q1h,Op.operands,Call.operands,go_sem,w2,wrI,go_sem,List.mem_cons,List.not_mem_nil,forall_eq_or_imp,forall_eq,List.append_toArray,Option.toArray] at hA);(try simp only[go_sem,w2,wrI,List.mem_cons,List.not_mem_nil,forall_eq_or_imp,forall_eq] at hQ hN);(first|(revert hA;intro hA)|have hA:=trivial);(first|(revert hQ;intro hQ)|have hQ:=trivial);(first|(revert hN;intro hN)|have hN:=trivial);simp(disch:=omega) only[go_sem,w2,wrI,go_sem,hA,hQ,hN];(repeat(refine ndI (by first|assumption|omega|rfl) ?_));(first|apply Q1b|apply Q1a|apply Q0w)))));(simp(disch:=omega) only[St.eff,setO,Q0q,go_sem,w2,wrI]))|((with_reducible apply Q0o);rfl;rfl;rfl;all_goals intro hb;all_goals(simp(disch:=omega) only[St.eff,setO,Q0q,go_sem,w2,wrI]))|((with_reducible refine Q0p ?_ ?_ ?_ ?_);kernel_rfl;kernel_rfl;(first|kernel_rfl|simp[Q0m,Q1j,St.free,Q1i,AV.refsL,AV.refs]);intro R hR))))
 refine Q2v (α:={q:(Nat×Nat)×Array Int // q.1.1≤5∧a+1≤q.1.2∧q.1.2≤b∧q.2.size=n∧Sort.partialIns ltI a b (5-q.1.1) q.1.2 q.2=(rd,rb)}) (fun q=>stPi q.1.2 n a b q.1.1.1 q.1.1.2) (fun q=>5-q.1.1.1) ⟨((0,a+1),d0),by dsimp only;omega,by dsimp only;omega,by dsimp only;omega,h0,hres⟩ (St.le_of (by simp[leT]) (by simp[leH,hget])) ?_
 rintro ⟨⟨⟨s,i0⟩,d⟩,g1,g2,g3,hs,hr⟩ Ψr hN0 hΨ'
 (try dsimp only at g1 g2 g3 hs hr hN0 ⊢)
 have hΨ:=trivial
 clear hres h0
 rcases Nat.lt_or_ge s 5 with h5|h5
 · have k5:decide ((s:Int)<5)=true:=decide_eq_true (by omega)
   obtain⟨i,hi⟩:∃i,Sort.scanSorted ltI d b i0=i:=⟨_,rfl⟩
   have bd:=srt_bd (d:=d) _ i0 (Nat.le_refl (b-i0)) g3
   rw[hi] at bd
   (repeat(any_goals(first|((with_reducible refine Q0g ?_ ?_);rfl;intro K hK;simp(disch:=omega) only[go_sem,k5];((repeat(refine ndI (by first|assumption|omega|rfl) ?_));refine hK _ ?_;clear hK K))|(with_reducible first|(refine Q0i ?_;refine hR _ ?_;clear hR R)|((first|refine Q0h ?_|refine Q0c ?_);intro Ψ hΨ hΨ')|(refine Q0b ?_;intro R hR)|(refine hΨ _ ?_;clear hΨ hΨ' Ψ)|refine Q0d ?_|refine Q0j ?_|refine Q0e ?_)|((with_reducible refine hΨ' _ _ ?_ ?_);(focus(simp;done));clear hΨ hΨ' Ψ)|((with_reducible apply Q0f);rfl;rfl;all_goals(intro hc;first|(cases hc;done)|(try simp only at hc)))|((with_reducible refine Q0t ?_ ?_);kernel_rfl;(with_reducible refine hR _ ?_);clear hR R)|((first|((with_reducible apply Q0r);rfl;rfl;rfl;rfl)|((with_reducible apply Q0n);rfl;rfl;rfl)|((first|((with_reducible apply Q0u);rfl;rfl)|((with_reducible apply Q0s);rfl;rfl;rfl;rfl;rfl));(simp(disch:=omega) only[rdE,rdOf,go_sem,k5];rfl);(intro τ hA hQ hN;((try simp only[Q1h,Op.operands,Call.operands,go_sem,k5,go_sem,List.mem_cons,List.not_mem_nil,forall_eq_or_imp,forall_eq,List.append_toArray,Option.toArray] at hA);(try simp only[go_sem,k5,List.mem_cons,List.not_mem_nil,forall_eq_or_imp,forall_eq] at hQ hN);(first|(revert hA;intro hA)|have hA:=trivial);(first|(revert hQ;intro hQ)|have hQ:=trivial);(first|(revert hN;intro hN)|have hN:=trivial);simp(disch:=omega) only[go_sem,k5,go_sem,hA,hQ,hN];(repeat(refine ndI (by first|assumption|omega|rfl) ?_));(first|apply Q1b|apply Q1a|apply Q0w)))));(simp(disch:=omega) only[St.eff,setO,Q0q,go_sem,k5]))|((with_reducible apply Q0o);rfl;rfl;rfl;all_goals intro hb;all_goals(simp(disch:=omega) only[St.eff,setO,Q0q,go_sem,k5]))|((with_reducible refine Q0p ?_ ?_ ?_ ?_);kernel_rfl;kernel_rfl;(first|kernel_rfl|simp[Q0m,Q1j,St.free,Q1i,AV.refsL,AV.refs]);intro R hR))))
   refine Q2z 2 (stPi d n a b s i) (α:={u:Nat // a+1≤u∧u≤b∧Sort.scanSorted ltI d b u=i}) (fun q=>stPi d n a b s q.1) (fun q=>b-q.1) ⟨i0,g2,g3,hi⟩ (St.le_of (by simp[leT]) (by simp[leH,hget])) ?_ ?_
   rotate_left
   · rintro ⟨u,c1,c2,hu⟩ Ψ hN hJ
     (try dsimp only at c1 c2 hu hN ⊢)
     have y0:=Q1z d
     rw[hs] at y0
     by_cases hub:u<b
     · have k1:decide ((u:Int)<(b:Int))=true:=decide_eq_true (by omega)
       have y1:=Q2o d (j:=u) (by omega)
       have y2:=Q2o d (j:=u-1) (by omega)
       have w1:(u:Int)-1=((u-1:Nat):Int):=by omega
       have w3:(u:Int)+1=((u+1:Nat):Int):=by omega
       have lf:=Q3a d[u]! d[u-1]!
       by_cases hlt:d[u]! < d[u-1]!
       · have hu2:=(Q7w (d:=d) (fun h=>h.2 hlt)).symm.trans hu
         rw[←hu2] at hJ
         rw[show decide (d[u]! < d[u-1]!)=true from decide_eq_true hlt] at lf
         clear hu hu2 hlt
         generalize d[u]! = zx at *
         generalize d[u-1]! = zy at *
         (have W:=ndI k1 (ndI w1 (ndI w3 (ndI y0 (ndI y1 (ndI y2 @wrI)))));(repeat(any_goals(first|((with_reducible refine Q0g ?_ ?_);rfl;intro K hK;simp(disch:=omega) only[go_sem,W,Q0a,Nat.mul_one];((repeat(refine ndI (by first|assumption|omega|rfl) ?_));refine hK _ ?_;clear hK K))|(with_reducible first|(refine Q0i ?_;refine hR _ ?_;clear hR R)|((first|refine Q0h ?_|refine Q0c ?_);intro Ψ hΨ hΨ')|(refine Q0b ?_;intro R hR)|(refine hΨ _ ?_;clear hΨ hΨ' Ψ)|refine Q0d ?_|refine Q0j ?_|refine Q0e ?_)|((with_reducible refine hΨ' _ _ ?_ ?_);(focus(simp;done));clear hΨ hΨ' Ψ)|((with_reducible apply Q0f);rfl;rfl;all_goals(intro hc;first|(cases hc;done)|(try simp only at hc)))|((with_reducible refine Q0t ?_ ?_);(apply Q1f);(focus(repeat(first|exact Sims.nil|((apply Sims.cons);(focus(first|((apply Ef.sim_row);assumption)|exact Ef.sim_refl _))))));kernel_rfl;(with_reducible refine hR _ ?_);clear hR R)|((first|((with_reducible apply Q0r);rfl;rfl;rfl;rfl)|((with_reducible apply Q0n);rfl;rfl;rfl)|((first|((with_reducible apply Q1m);rfl;rfl)|((with_reducible apply Q1p);rfl;rfl;rfl;rfl;rfl));((apply Q1g (lf);rfl;rfl;rfl;rfl;exact Try.func70);kernel_rfl;rfl;(focus((simp(disch:=omega) only[go_sem,W,Q0a,Nat.mul_one]);(try rfl);done));(first|rfl|simp[AV.inNL,AV.inN])))|((first|((with_reducible apply Q0u);rfl;rfl)|((with_reducible apply Q0s);rfl;rfl;rfl;rfl;rfl));(simp(disch:=omega) only[rdE,rdOf,go_sem,W,Q0a,Nat.mul_one];rfl);(intro τ hA hQ hN;((try simp only[Q1h,Op.operands,Call.operands,go_sem,W,Q0a,Nat.mul_one,go_sem,List.mem_cons,List.not_mem_nil,forall_eq_or_imp,forall_eq,List.append_toArray,Option.toArray] at hA);(try simp only[go_sem,W,Q0a,Nat.mul_one,List.mem_cons,List.not_mem_nil,forall_eq_or_imp,forall_eq] at hQ hN);(first|(revert hA;intro hA)|have hA:=trivial);(first|(revert hQ;intro hQ)|have hQ:=trivial);(first|(revert hN;intro hN)|have hN:=trivial);simp(disch:=omega) only[go_sem,W,Q0a,Nat.mul_one,go_sem,hA,hQ,hN];(repeat(refine ndI (by first|assumption|omega|rfl) ?_));(first|apply Q1b|apply Q1a|apply Q0w)))));(simp(disch:=omega) only[St.eff,setO,Q0q,go_sem,W,Q0a,Nat.mul_one]))|((with_reducible apply Q0o);rfl;rfl;rfl;all_goals intro hb;all_goals(simp(disch:=omega) only[St.eff,setO,Q0q,go_sem,W,Q0a,Nat.mul_one]))|((with_reducible refine Q0p ?_ ?_ ?_ ?_);kernel_rfl;kernel_rfl;(simp[Q0m,Q1j,St.free,Q1i,AV.refsL,AV.refs,Q0a]);intro R hR)))))
         all_goals exact hJ _ (St.le_of (by simp[leT]) (by simp[leH,hget]))
       · have hu2:=(srt_go (d:=d) hub hlt).symm.trans hu
         have hN1:∀σ':St,σ'.le (stPi d n a b s (u+1))→Ψ .normal σ':=fun σ' h=>hN σ' ⟨u+1,by omega,by omega,hu2⟩ (by dsimp only;omega) h
         rw[show decide (d[u]! < d[u-1]!)=false from decide_eq_false hlt] at lf
         clear hu hu2 hlt
         generalize d[u]! = zx at *
         generalize d[u-1]! = zy at *
         (have W:=ndI k1 (ndI w1 (ndI w3 (ndI y0 (ndI y1 (ndI y2 @wrI)))));(repeat(any_goals(first|((with_reducible refine Q0g ?_ ?_);rfl;intro K hK;simp(disch:=omega) only[go_sem,W,Q0a,Nat.mul_one];((repeat(refine ndI (by first|assumption|omega|rfl) ?_));refine hK _ ?_;clear hK K))|(with_reducible first|(refine Q0i ?_;refine hR _ ?_;clear hR R)|((first|refine Q0h ?_|refine Q0c ?_);intro Ψ hΨ hΨ')|(refine Q0b ?_;intro R hR)|(refine hΨ _ ?_;clear hΨ hΨ' Ψ)|refine Q0d ?_|refine Q0j ?_|refine Q0e ?_)|((with_reducible refine hΨ' _ _ ?_ ?_);(focus(simp;done));clear hΨ hΨ' Ψ)|((with_reducible apply Q0f);rfl;rfl;all_goals(intro hc;first|(cases hc;done)|(try simp only at hc)))|((with_reducible refine Q0t ?_ ?_);(apply Q1f);(focus(repeat(first|exact Sims.nil|((apply Sims.cons);(focus(first|((apply Ef.sim_row);assumption)|exact Ef.sim_refl _))))));kernel_rfl;(with_reducible refine hR _ ?_);clear hR R)|((first|((with_reducible apply Q0r);rfl;rfl;rfl;rfl)|((with_reducible apply Q0n);rfl;rfl;rfl)|((first|((with_reducible apply Q1m);rfl;rfl)|((with_reducible apply Q1p);rfl;rfl;rfl;rfl;rfl));((apply Q1g (lf);rfl;rfl;rfl;rfl;exact Try.func70);kernel_rfl;rfl;(focus((simp(disch:=omega) only[go_sem,W,Q0a,Nat.mul_one]);(try rfl);done));(first|rfl|simp[AV.inNL,AV.inN])))|((first|((with_reducible apply Q0u);rfl;rfl)|((with_reducible apply Q0s);rfl;rfl;rfl;rfl;rfl));(simp(disch:=omega) only[rdE,rdOf,go_sem,W,Q0a,Nat.mul_one];rfl);(intro τ hA hQ hN;((try simp only[Q1h,Op.operands,Call.operands,go_sem,W,Q0a,Nat.mul_one,go_sem,List.mem_cons,List.not_mem_nil,forall_eq_or_imp,forall_eq,List.append_toArray,Option.toArray] at hA);(try simp only[go_sem,W,Q0a,Nat.mul_one,List.mem_cons,List.not_mem_nil,forall_eq_or_imp,forall_eq] at hQ hN);(first|(revert hA;intro hA)|have hA:=trivial);(first|(revert hQ;intro hQ)|have hQ:=trivial);(first|(revert hN;intro hN)|have hN:=trivial);simp(disch:=omega) only[go_sem,W,Q0a,Nat.mul_one,go_sem,hA,hQ,hN];(repeat(refine ndI (by first|assumption|omega|rfl) ?_));(first|apply Q1b|apply Q1a|apply Q0w)))));(simp(disch:=omega) only[St.eff,setO,Q0q,go_sem,W,Q0a,Nat.mul_one]))|((with_reducible apply Q0o);rfl;rfl;rfl;all_goals intro hb;all_goals(simp(disch:=omega) only[St.eff,setO,Q0q,go_sem,W,Q0a,Nat.mul_one]))|((with_reducible refine Q0p ?_ ?_ ?_ ?_);kernel_rfl;kernel_rfl;(simp[Q0m,Q1j,St.free,Q1i,AV.refsL,AV.refs,Q0a]);intro R hR)))))
         all_goals exact hN1 _ (St.le_of (by simp[leT]) (by simp[leH,hget]))
     · have k1:decide ((u:Int)<(b:Int))=false:=decide_eq_false (by omega)
       have hu2:=(Q7w (d:=d) (fun h=>hub h.1)).symm.trans hu
       rw[←hu2] at hJ
       clear hu hu2
       (repeat(any_goals(first|((with_reducible refine Q0g ?_ ?_);rfl;intro K hK;simp(disch:=omega) only[go_sem,k1,Q0a,Nat.mul_one,wrI];((repeat(refine ndI (by first|assumption|omega|rfl) ?_));refine hK _ ?_;clear hK K))|(with_reducible first|(refine Q0i ?_;refine hR _ ?_;clear hR R)|((first|refine Q0h ?_|refine Q0c ?_);intro Ψ hΨ hΨ')|(refine Q0b ?_;intro R hR)|(refine hΨ _ ?_;clear hΨ hΨ' Ψ)|refine Q0d ?_|refine Q0j ?_|refine Q0e ?_)|((with_reducible refine hΨ' _ _ ?_ ?_);(focus(simp;done));clear hΨ hΨ' Ψ)|((with_reducible apply Q0f);rfl;rfl;all_goals(intro hc;first|(cases hc;done)|(try simp only at hc)))|((with_reducible refine Q0t ?_ ?_);(apply Q1f);(focus(repeat(first|exact Sims.nil|((apply Sims.cons);(focus(first|((apply Ef.sim_row);assumption)|exact Ef.sim_refl _))))));kernel_rfl;(with_reducible refine hR _ ?_);clear hR R)|((first|((with_reducible apply Q0r);rfl;rfl;rfl;rfl)|((with_reducible apply Q0n);rfl;rfl;rfl)|((first|((with_reducible apply Q0u);rfl;rfl)|((with_reducible apply Q0s);rfl;rfl;rfl;rfl;rfl));(simp(disch:=omega) only[rdE,rdOf,go_sem,k1,Q0a,Nat.mul_one,wrI];rfl);(intro τ hA hQ hN;((try simp only[Q1h,Op.operands,Call.operands,go_sem,k1,Q0a,Nat.mul_one,wrI,go_sem,List.mem_cons,List.not_mem_nil,forall_eq_or_imp,forall_eq,List.append_toArray,Option.toArray] at hA);(try simp only[go_sem,k1,Q0a,Nat.mul_one,wrI,List.mem_cons,List.not_mem_nil,forall_eq_or_imp,forall_eq] at hQ hN);(first|(revert hA;intro hA)|have hA:=trivial);(first|(revert hQ;intro hQ)|have hQ:=trivial);(first|(revert hN;intro hN)|have hN:=trivial);simp(disch:=omega) only[go_sem,k1,Q0a,Nat.mul_one,wrI,go_sem,hA,hQ,hN];(repeat(refine ndI (by first|assumption|omega|rfl) ?_));(first|apply Q1b|apply Q1a|apply Q0w)))));(simp(disch:=omega) only[St.eff,setO,Q0q,go_sem,k1,Q0a,Nat.mul_one,wrI]))|((with_reducible apply Q0o);rfl;rfl;rfl;all_goals intro hb;all_goals(simp(disch:=omega) only[St.eff,setO,Q0q,go_sem,k1,Q0a,Nat.mul_one,wrI]))|((with_reducible refine Q0p ?_ ?_ ?_ ?_);kernel_rfl;kernel_rfl;(simp[Q0m,Q1j,St.free,Q1i,AV.refsL,AV.refs,Q0a]);intro R hR))))
       all_goals exact hJ _ (St.le_of (by simp[leT]) (by simp[leH,hget]))
   obtain⟨t,ht⟩:∃t,5-s=t+1:=⟨4-s,by omega⟩
   rw[ht] at hr
   have hr2:(if i=b then(d,true) else if b-a<50 then(d,false) else Sort.partialIns ltI a b t i (if b-i≥2 then Sort.shiftUp ltI b (i+1) (if i-a≥2 then Sort.shiftDown ltI (i-1) (Sort.swp d i (i-1)) else Sort.swp d i (i-1)) else(if i-a≥2 then Sort.shiftDown ltI (i-1) (Sort.swp d i (i-1)) else Sort.swp d i (i-1))))=(rd,rb):=by
    rw[←hi]
    exact hr
   clear hr hi
   by_cases e1:i=b
   · rw[if_pos e1] at hr2
     simp only[Prod.mk.injEq] at hr2
     obtain⟨p1,p2⟩:=hr2
     have kE:((i:Int)==(b:Int))=true:=by simp[e1]
     (repeat(any_goals(first|((with_reducible refine Q0g ?_ ?_);rfl;intro K hK;simp(disch:=omega) only[go_sem,kE];((repeat(refine ndI (by first|assumption|omega|rfl) ?_));refine hK _ ?_;clear hK K))|(with_reducible first|(refine Q0i ?_;refine hR _ ?_;clear hR R)|((first|refine Q0h ?_|refine Q0c ?_);intro Ψ hΨ hΨ')|(refine Q0b ?_;intro R hR)|(refine hΨ _ ?_;clear hΨ hΨ' Ψ)|refine Q0d ?_|refine Q0j ?_|refine Q0e ?_)|((with_reducible refine hΨ' _ _ ?_ ?_);(focus(simp;done));clear hΨ hΨ' Ψ)|((with_reducible apply Q0f);rfl;rfl;all_goals(intro hc;first|(cases hc;done)|(try simp only at hc)))|((with_reducible refine Q0t ?_ ?_);kernel_rfl;(with_reducible refine hR _ ?_);clear hR R)|((first|((with_reducible apply Q0r);rfl;rfl;rfl;rfl)|((with_reducible apply Q0n);rfl;rfl;rfl)|((first|((with_reducible apply Q0u);rfl;rfl)|((with_reducible apply Q0s);rfl;rfl;rfl;rfl;rfl));(simp(disch:=omega) only[rdE,rdOf,go_sem,kE];rfl);(intro τ hA hQ hN;((try simp only[Q1h,Op.operands,Call.operands,go_sem,kE,go_sem,List.mem_cons,List.not_mem_nil,forall_eq_or_imp,forall_eq,List.append_toArray,Option.toArray] at hA);(try simp only[go_sem,kE,List.mem_cons,List.not_mem_nil,forall_eq_or_imp,forall_eq] at hQ hN);(first|(revert hA;intro hA)|have hA:=trivial);(first|(revert hQ;intro hQ)|have hQ:=trivial);(first|(revert hN;intro hN)|have hN:=trivial);simp(disch:=omega) only[go_sem,kE,go_sem,hA,hQ,hN];(repeat(refine ndI (by first|assumption|omega|rfl) ?_));(first|apply Q1b|apply Q1a|apply Q0w)))));(simp(disch:=omega) only[St.eff,setO,Q0q,go_sem,kE]))|((with_reducible apply Q0o);rfl;rfl;rfl;all_goals intro hb;all_goals(simp(disch:=omega) only[St.eff,setO,Q0q,go_sem,kE]))|((with_reducible refine Q0p ?_ ?_ ?_ ?_);kernel_rfl;kernel_rfl;(first|kernel_rfl|simp[Q0m,Q1j,St.free,Q1i,AV.refsL,AV.refs]);intro R hR))))
     all_goals refine hΨ' _ _ (by simp) ?_
     all_goals clear hΨ hΨ' hN0 Ψr
     (repeat(any_goals(first|((with_reducible refine Q0g ?_ ?_);rfl;intro K hK;simp(disch:=omega) only[go_sem,kE];((repeat(refine ndI (by first|assumption|omega|rfl) ?_));refine hK _ ?_;clear hK K))|(with_reducible first|(refine Q0i ?_;refine hR _ ?_;clear hR R)|((first|refine Q0h ?_|refine Q0c ?_);intro Ψ hΨ hΨ')|(refine Q0b ?_;intro R hR)|(refine hΨ _ ?_;clear hΨ hΨ' Ψ)|refine Q0d ?_|refine Q0j ?_|refine Q0e ?_)|((with_reducible refine hΨ' _ _ ?_ ?_);(focus(simp;done));clear hΨ hΨ' Ψ)|((with_reducible apply Q0f);rfl;rfl;all_goals(intro hc;first|(cases hc;done)|(try simp only at hc)))|((with_reducible refine Q0t ?_ ?_);kernel_rfl;(with_reducible refine hR _ ?_);clear hR R)|((first|((with_reducible apply Q0r);rfl;rfl;rfl;rfl)|((with_reducible apply Q0n);rfl;rfl;rfl)|((first|((with_reducible apply Q0u);rfl;rfl)|((with_reducible apply Q0s);rfl;rfl;rfl;rfl;rfl));(simp(disch:=omega) only[rdE,rdOf,go_sem,kE];rfl);(intro τ hA hQ hN;((try simp only[Q1h,Op.operands,Call.operands,go_sem,kE,go_sem,List.mem_cons,List.not_mem_nil,forall_eq_or_imp,forall_eq,List.append_toArray,Option.toArray] at hA);(try simp only[go_sem,kE,List.mem_cons,List.not_mem_nil,forall_eq_or_imp,forall_eq] at hQ hN);(first|(revert hA;intro hA)|have hA:=trivial);(first|(revert hQ;intro hQ)|have hQ:=trivial);(first|(revert hN;intro hN)|have hN:=trivial);simp(disch:=omega) only[go_sem,kE,go_sem,hA,hQ,hN];(repeat(refine ndI (by first|assumption|omega|rfl) ?_));(first|apply Q1b|apply Q1a|apply Q0w)))));(simp(disch:=omega) only[St.eff,setO,Q0q,go_sem,kE]))|((with_reducible apply Q0o);rfl;rfl;rfl;all_goals intro hb;all_goals(simp(disch:=omega) only[St.eff,setO,Q0q,go_sem,kE]))|((with_reducible refine Q0p ?_ ?_ ?_ ?_);kernel_rfl;kernel_rfl;(first|kernel_rfl|simp[Q0m,Q1j,St.free,Q1i,AV.refsL,AV.refs]);intro R hR))))
     all_goals rw[←p1,←p2]
     all_goals(refine⟨by simp,⟨_,?_,AV.le_refl _⟩,Q0y (by simp[leH,hget])⟩;simp only[Try.results69,resL,ldA,Q1o,go_sem])
   have kE:((i:Int)==(b:Int))=false:=by simp;omega
   rw[if_neg e1] at hr2
   have w4:(b:Int)-(a:Int)=((b-a:Nat):Int):=by omega
   by_cases e2:b-a<50
   · rw[if_pos e2] at hr2
     simp only[Prod.mk.injEq] at hr2
     obtain⟨p1,p2⟩:=hr2
     have kF:decide (((b-a:Nat):Int)<50)=true:=decide_eq_true (by omega)
     (repeat(any_goals(first|((with_reducible refine Q0g ?_ ?_);rfl;intro K hK;simp(disch:=omega) only[go_sem,kE,kF,w4,wrI];((repeat(refine ndI (by first|assumption|omega|rfl) ?_));refine hK _ ?_;clear hK K))|(with_reducible first|(refine Q0i ?_;refine hR _ ?_;clear hR R)|((first|refine Q0h ?_|refine Q0c ?_);intro Ψ hΨ hΨ')|(refine Q0b ?_;intro R hR)|(refine hΨ _ ?_;clear hΨ hΨ' Ψ)|refine Q0d ?_|refine Q0j ?_|refine Q0e ?_)|((with_reducible refine hΨ' _ _ ?_ ?_);(focus(simp;done));clear hΨ hΨ' Ψ)|((with_reducible apply Q0f);rfl;rfl;all_goals(intro hc;first|(cases hc;done)|(try simp only at hc)))|((with_reducible refine Q0t ?_ ?_);kernel_rfl;(with_reducible refine hR _ ?_);clear hR R)|((first|((with_reducible apply Q0r);rfl;rfl;rfl;rfl)|((with_reducible apply Q0n);rfl;rfl;rfl)|((first|((with_reducible apply Q0u);rfl;rfl)|((with_reducible apply Q0s);rfl;rfl;rfl;rfl;rfl));(simp(disch:=omega) only[rdE,rdOf,go_sem,kE,kF,w4,wrI];rfl);(intro τ hA hQ hN;((try simp only[Q1h,Op.operands,Call.operands,go_sem,kE,kF,w4,wrI,go_sem,List.mem_cons,List.not_mem_nil,forall_eq_or_imp,forall_eq,List.append_toArray,Option.toArray] at hA);(try simp only[go_sem,kE,kF,w4,wrI,List.mem_cons,List.not_mem_nil,forall_eq_or_imp,forall_eq] at hQ hN);(first|(revert hA;intro hA)|have hA:=trivial);(first|(revert hQ;intro hQ)|have hQ:=trivial);(first|(revert hN;intro hN)|have hN:=trivial);simp(disch:=omega) only[go_sem,kE,kF,w4,wrI,go_sem,hA,hQ,hN];(repeat(refine ndI (by first|assumption|omega|rfl) ?_));(first|apply Q1b|apply Q1a|apply Q0w)))));(simp(disch:=omega) only[St.eff,setO,Q0q,go_sem,kE,kF,w4,wrI]))|((with_reducible apply Q0o);rfl;rfl;rfl;all_goals intro hb;all_goals(simp(disch:=omega) only[St.eff,setO,Q0q,go_sem,kE,kF,w4,wrI]))|((with_reducible refine Q0p ?_ ?_ ?_ ?_);kernel_rfl;kernel_rfl;(first|kernel_rfl|simp[Q0m,Q1j,St.free,Q1i,AV.refsL,AV.refs]);intro R hR))))
     all_goals refine hΨ' _ _ (by simp) ?_
     all_goals clear hΨ hΨ' hN0 Ψr
     (repeat(any_goals(first|((with_reducible refine Q0g ?_ ?_);rfl;intro K hK;simp(disch:=omega) only[go_sem,kE,kF,w4,wrI];((repeat(refine ndI (by first|assumption|omega|rfl) ?_));refine hK _ ?_;clear hK K))|(with_reducible first|(refine Q0i ?_;refine hR _ ?_;clear hR R)|((first|refine Q0h ?_|refine Q0c ?_);intro Ψ hΨ hΨ')|(refine Q0b ?_;intro R hR)|(refine hΨ _ ?_;clear hΨ hΨ' Ψ)|refine Q0d ?_|refine Q0j ?_|refine Q0e ?_)|((with_reducible refine hΨ' _ _ ?_ ?_);(focus(simp;done));clear hΨ hΨ' Ψ)|((with_reducible apply Q0f);rfl;rfl;all_goals(intro hc;first|(cases hc;done)|(try simp only at hc)))|((with_reducible refine Q0t ?_ ?_);kernel_rfl;(with_reducible refine hR _ ?_);clear hR R)|((first|((with_reducible apply Q0r);rfl;rfl;rfl;rfl)|((with_reducible apply Q0n);rfl;rfl;rfl)|((first|((with_reducible apply Q0u);rfl;rfl)|((with_reducible apply Q0s);rfl;rfl;rfl;rfl;rfl));(simp(disch:=omega) only[rdE,rdOf,go_sem,kE,kF,w4,wrI];rfl);(intro τ hA hQ hN;((try simp only[Q1h,Op.operands,Call.operands,go_sem,kE,kF,w4,wrI,go_sem,List.mem_cons,List.not_mem_nil,forall_eq_or_imp,forall_eq,List.append_toArray,Option.toArray] at hA);(try simp only[go_sem,kE,kF,w4,wrI,List.mem_cons,List.not_mem_nil,forall_eq_or_imp,forall_eq] at hQ hN);(first|(revert hA;intro hA)|have hA:=trivial);(first|(revert hQ;intro hQ)|have hQ:=trivial);(first|(revert hN;intro hN)|have hN:=trivial);simp(disch:=omega) only[go_sem,kE,kF,w4,wrI,go_sem,hA,hQ,hN];(repeat(refine ndI (by first|assumption|omega|rfl) ?_));(first|apply Q1b|apply Q1a|apply Q0w)))));(simp(disch:=omega) only[St.eff,setO,Q0q,go_sem,kE,kF,w4,wrI]))|((with_reducible apply Q0o);rfl;rfl;rfl;all_goals intro hb;all_goals(simp(disch:=omega) only[St.eff,setO,Q0q,go_sem,kE,kF,w4,wrI]))|((with_reducible refine Q0p ?_ ?_ ?_ ?_);kernel_rfl;kernel_rfl;(first|kernel_rfl|simp[Q0m,Q1j,St.free,Q1i,AV.refsL,AV.refs]);intro R hR))))
     all_goals rw[←p1,←p2]
     all_goals(refine⟨by simp,⟨_,?_,AV.le_refl _⟩,Q0y (by simp[leH,hget])⟩;simp only[Try.results69,resL,ldA,Q1o,go_sem])
   have kF:decide (((b-a:Nat):Int)<50)=false:=decide_eq_false (by omega)
   rw[if_neg e2] at hr2
   have w5:(i:Int)-1=((i-1:Nat):Int):=by omega
   have w6:(i:Int)-(a:Int)=((i-a:Nat):Int):=by omega
   have w7:(b:Int)-(i:Int)=((b-i:Nat):Int):=by omega
   have w8:(i:Int)+1=((i+1:Nat):Int):=by omega
   have w10:(s:Int)+1=((s+1:Nat):Int):=by omega
   have hs1:(Sort.swp d i (i-1)).size=n:=by rw[Q2m];exact hs
   obtain⟨d1,hd1⟩:∃x,Sort.swp d i (i-1)=x:=⟨_,rfl⟩
   rw[hd1] at hs1 hr2
   have z0:=Q1z d
   rw[hs] at z0
   have z1:=Q2o d (j:=i) (by omega)
   have z2:=Q2o d (j:=i-1) (by omega)
   obtain⟨t1,t2⟩:=Q3p d (i:=i) (j:=i-1) (by omega) (by omega)
   have z4:(rI (d.setIfInBounds i d[i-1]!)).length=n:=by rw[Q1z,Array.size_setIfInBounds];exact hs
   generalize d.setIfInBounds i d[i-1]! = e1 at t1 t2 z4
   generalize d[i]! = zi at *
   generalize d[i-1]! = zj at *
   rw[hd1] at t2
   by_cases e3:i-a≥2
   · have kG:decide (((i-a:Nat):Int)≥2)=true:=decide_eq_true (by omega)
     rw[if_pos e3] at hr2
     obtain⟨d2,hsh⟩:∃x,Sort.shiftDown ltI (i-1) d1=x:=⟨_,rfl⟩
     have hs2:d2.size=n:=by rw[←hsh,X4i];exact hs1
     rw[hsh] at hr2
     (have W:=ndI w4 (ndI w5 (ndI w6 (ndI z0 (ndI z1 (ndI z2 (ndI z4 (ndI t1 (ndI t2 @wrI))))))));(repeat(any_goals(first|((with_reducible refine Q0g ?_ ?_);rfl;intro K hK;simp(disch:=omega) only[go_sem,W,kE,kF,kG,Q0a,Nat.mul_one];((repeat(refine ndI (by first|assumption|omega|rfl) ?_));refine hK _ ?_;clear hK K))|(with_reducible first|(refine Q0i ?_;refine hR _ ?_;clear hR R)|((first|refine Q0h ?_|refine Q0c ?_);intro Ψ hΨ hΨ')|(refine Q0b ?_;intro R hR)|(refine hΨ _ ?_;clear hΨ hΨ' Ψ)|refine Q0d ?_|refine Q0j ?_|refine Q0e ?_)|((with_reducible refine hΨ' _ _ ?_ ?_);(focus(simp;done));clear hΨ hΨ' Ψ)|((with_reducible apply Q0f);rfl;rfl;all_goals(intro hc;first|(cases hc;done)|(try simp only at hc)))|((with_reducible refine Q0t ?_ ?_);(apply Q1f);(focus(repeat(first|exact Sims.nil|((apply Sims.cons);(focus(first|((apply Ef.sim_row);assumption)|exact Ef.sim_refl _))))));kernel_rfl;(with_reducible refine hR _ ?_);clear hR R)|((first|((with_reducible apply Q0r);rfl;rfl;rfl;rfl)|((with_reducible apply Q0n);rfl;rfl;rfl)|((first|((with_reducible apply Q0u);rfl;rfl)|((with_reducible apply Q0s);rfl;rfl;rfl;rfl;rfl));(simp(disch:=omega) only[rdE,rdOf,go_sem,W,kE,kF,kG,Q0a,Nat.mul_one];rfl);(intro τ hA hQ hN;((try simp only[Q1h,Op.operands,Call.operands,go_sem,W,kE,kF,kG,Q0a,Nat.mul_one,go_sem,List.mem_cons,List.not_mem_nil,forall_eq_or_imp,forall_eq,List.append_toArray,Option.toArray] at hA);(try simp only[go_sem,W,kE,kF,kG,Q0a,Nat.mul_one,List.mem_cons,List.not_mem_nil,forall_eq_or_imp,forall_eq] at hQ hN);(first|(revert hA;intro hA)|have hA:=trivial);(first|(revert hQ;intro hQ)|have hQ:=trivial);(first|(revert hN;intro hN)|have hN:=trivial);simp(disch:=omega) only[go_sem,W,kE,kF,kG,Q0a,Nat.mul_one,go_sem,hA,hQ,hN];(repeat(refine ndI (by first|assumption|omega|rfl) ?_));(first|apply Q1b|apply Q1a|apply Q0w)))));(simp(disch:=omega) only[St.eff,setO,Q0q,go_sem,W,kE,kF,kG,Q0a,Nat.mul_one]))|((with_reducible apply Q0o);rfl;rfl;rfl;all_goals intro hb;all_goals(simp(disch:=omega) only[St.eff,setO,Q0q,go_sem,W,kE,kF,kG,Q0a,Nat.mul_one]))|((with_reducible refine Q0p ?_ ?_ ?_ ?_);kernel_rfl;kernel_rfl;(simp[Q0m,Q1j,St.free,Q1i,AV.refsL,AV.refs,Q0a]);intro R hR)))))
     refine Q2z 4 (stPi d2 n a b s i) (α:={q:Nat×Array Int // q.1≤i-1∧q.2.size=n∧Sort.shiftDown ltI q.1 q.2=d2}) (fun q=>stPd q.1.2 n a b s i q.1.1) (fun q=>q.1.1) ⟨(i-1,d1),Nat.le_refl _,hs1,hsh⟩ (St.le_of (by simp[leT]) (by simp[leH,hget])) ?_ ?_
     rotate_left
     · rintro ⟨⟨j,e⟩,c1,hse,hu⟩ Ψ hN hJ
       (try dsimp only at c1 hse hu hN ⊢)
       rcases Nat.eq_zero_or_pos j with hj0|hj0
       · subst hj0
         have k1:decide (((0:Nat):Int)≥1)=false:=rfl
         replace hu:e=d2:=hu
         rw[←hu] at hJ
         (repeat(any_goals(first|((with_reducible refine Q0g ?_ ?_);rfl;intro K hK;simp(disch:=omega) only[go_sem,k1,Q0a,Nat.mul_one,wrI];((repeat(refine ndI (by first|assumption|omega|rfl) ?_));refine hK _ ?_;clear hK K))|(with_reducible first|(refine Q0i ?_;refine hR _ ?_;clear hR R)|((first|refine Q0h ?_|refine Q0c ?_);intro Ψ hΨ hΨ')|(refine Q0b ?_;intro R hR)|(refine hΨ _ ?_;clear hΨ hΨ' Ψ)|refine Q0d ?_|refine Q0j ?_|refine Q0e ?_)|((with_reducible refine hΨ' _ _ ?_ ?_);(focus(simp;done));clear hΨ hΨ' Ψ)|((with_reducible apply Q0f);rfl;rfl;all_goals(intro hc;first|(cases hc;done)|(try simp only at hc)))|((with_reducible refine Q0t ?_ ?_);(apply Q1f);(focus(repeat(first|exact Sims.nil|((apply Sims.cons);(focus(first|((apply Ef.sim_row);assumption)|exact Ef.sim_refl _))))));kernel_rfl;(with_reducible refine hR _ ?_);clear hR R)|((first|((with_reducible apply Q0r);rfl;rfl;rfl;rfl)|((with_reducible apply Q0n);rfl;rfl;rfl)|((first|((with_reducible apply Q0u);rfl;rfl)|((with_reducible apply Q0s);rfl;rfl;rfl;rfl;rfl));(simp(disch:=omega) only[rdE,rdOf,go_sem,k1,Q0a,Nat.mul_one,wrI];rfl);(intro τ hA hQ hN;((try simp only[Q1h,Op.operands,Call.operands,go_sem,k1,Q0a,Nat.mul_one,wrI,go_sem,List.mem_cons,List.not_mem_nil,forall_eq_or_imp,forall_eq,List.append_toArray,Option.toArray] at hA);(try simp only[go_sem,k1,Q0a,Nat.mul_one,wrI,List.mem_cons,List.not_mem_nil,forall_eq_or_imp,forall_eq] at hQ hN);(first|(revert hA;intro hA)|have hA:=trivial);(first|(revert hQ;intro hQ)|have hQ:=trivial);(first|(revert hN;intro hN)|have hN:=trivial);simp(disch:=omega) only[go_sem,k1,Q0a,Nat.mul_one,wrI,go_sem,hA,hQ,hN];(repeat(refine ndI (by first|assumption|omega|rfl) ?_));(first|apply Q1b|apply Q1a|apply Q0w)))));(simp(disch:=omega) only[St.eff,setO,Q0q,go_sem,k1,Q0a,Nat.mul_one,wrI]))|((with_reducible apply Q0o);rfl;rfl;rfl;all_goals intro hb;all_goals(simp(disch:=omega) only[St.eff,setO,Q0q,go_sem,k1,Q0a,Nat.mul_one,wrI]))|((with_reducible refine Q0p ?_ ?_ ?_ ?_);kernel_rfl;kernel_rfl;(simp[Q0m,Q1j,St.free,Q1i,AV.refsL,AV.refs,Q0a]);intro R hR))))
         all_goals exact hJ _ (St.le_of (by simp[leT]) (by simp[leH,hget]))
       obtain⟨j,rfl⟩:∃x,j=x+1:=⟨j-1,by omega⟩
       have k1:decide (((j+1:Nat):Int)≥1)=true:=decide_eq_true (by omega)
       have w1:((j+1:Nat):Int)-1=(j:Int):=by omega
       have y0:=Q1z e
       rw[hse] at y0
       have y1:=Q2o e (j:=j+1) (by omega)
       have y2:=Q2o e (j:=j) (by omega)
       have lf:=Q3a e[j+1]! e[j]!
       by_cases hlt:e[j+1]! < e[j]!
       · rw[show decide (e[j+1]! < e[j]!)=true from decide_eq_true hlt] at lf
         have hu2:=(shd_go (d:=e) hlt).symm.trans hu
         have hs9:(Sort.swp e (j+1) j).size=n:=by rw[Q2m];exact hse
         have hN1:∀σ':St,σ'.le (stPd (Sort.swp e (j+1) j) n a b s i j)→Ψ .normal σ':=fun σ' h=>hN σ' ⟨(j,Sort.swp e (j+1) j),by dsimp only;omega,hs9,hu2⟩ (by dsimp only;omega) h
         clear hu hu2 hlt hs9
         obtain⟨t1,t2⟩:=Q3p e (i:=j+1) (j:=j) (by omega) (by omega)
         have z4:(rI (e.setIfInBounds (j+1) e[j]!)).length=n:=by rw[Q1z,Array.size_setIfInBounds];exact hse
         generalize Sort.swp e (j+1) j=e9 at t2 hN1
         generalize e.setIfInBounds (j+1) e[j]! = e1 at t1 t2 z4
         generalize e[j+1]! = zi at *
         generalize e[j]! = zj at *
         (have W:=ndI k1 (ndI w1 (ndI y0 (ndI y1 (ndI y2 (ndI z4 (ndI t1 (ndI t2 @wrI)))))));(repeat(any_goals(first|((with_reducible refine Q0g ?_ ?_);rfl;intro K hK;simp(disch:=omega) only[go_sem,W,Q0a,Nat.mul_one];((repeat(refine ndI (by first|assumption|omega|rfl) ?_));refine hK _ ?_;clear hK K))|(with_reducible first|(refine Q0i ?_;refine hR _ ?_;clear hR R)|((first|refine Q0h ?_|refine Q0c ?_);intro Ψ hΨ hΨ')|(refine Q0b ?_;intro R hR)|(refine hΨ _ ?_;clear hΨ hΨ' Ψ)|refine Q0d ?_|refine Q0j ?_|refine Q0e ?_)|((with_reducible refine hΨ' _ _ ?_ ?_);(focus(simp;done));clear hΨ hΨ' Ψ)|((with_reducible apply Q0f);rfl;rfl;all_goals(intro hc;first|(cases hc;done)|(try simp only at hc)))|((with_reducible refine Q0t ?_ ?_);(apply Q1f);(focus(repeat(first|exact Sims.nil|((apply Sims.cons);(focus(first|((apply Ef.sim_row);assumption)|exact Ef.sim_refl _))))));kernel_rfl;(with_reducible refine hR _ ?_);clear hR R)|((first|((with_reducible apply Q0r);rfl;rfl;rfl;rfl)|((with_reducible apply Q0n);rfl;rfl;rfl)|((first|((with_reducible apply Q1m);rfl;rfl)|((with_reducible apply Q1p);rfl;rfl;rfl;rfl;rfl));((apply Q1g (lf);rfl;rfl;rfl;rfl;exact Try.func70);kernel_rfl;rfl;(focus((simp(disch:=omega) only[go_sem,W,Q0a,Nat.mul_one]);(try rfl);done));(first|rfl|simp[AV.inNL,AV.inN])))|((first|((with_reducible apply Q0u);rfl;rfl)|((with_reducible apply Q0s);rfl;rfl;rfl;rfl;rfl));(simp(disch:=omega) only[rdE,rdOf,go_sem,W,Q0a,Nat.mul_one];rfl);(intro τ hA hQ hN;((try simp only[Q1h,Op.operands,Call.operands,go_sem,W,Q0a,Nat.mul_one,go_sem,List.mem_cons,List.not_mem_nil,forall_eq_or_imp,forall_eq,List.append_toArray,Option.toArray] at hA);(try simp only[go_sem,W,Q0a,Nat.mul_one,List.mem_cons,List.not_mem_nil,forall_eq_or_imp,forall_eq] at hQ hN);(first|(revert hA;intro hA)|have hA:=trivial);(first|(revert hQ;intro hQ)|have hQ:=trivial);(first|(revert hN;intro hN)|have hN:=trivial);simp(disch:=omega) only[go_sem,W,Q0a,Nat.mul_one,go_sem,hA,hQ,hN];(repeat(refine ndI (by first|assumption|omega|rfl) ?_));(first|apply Q1b|apply Q1a|apply Q0w)))));(simp(disch:=omega) only[St.eff,setO,Q0q,go_sem,W,Q0a,Nat.mul_one]))|((with_reducible apply Q0o);rfl;rfl;rfl;all_goals intro hb;all_goals(simp(disch:=omega) only[St.eff,setO,Q0q,go_sem,W,Q0a,Nat.mul_one]))|((with_reducible refine Q0p ?_ ?_ ?_ ?_);kernel_rfl;kernel_rfl;(simp[Q0m,Q1j,St.free,Q1i,AV.refsL,AV.refs,Q0a]);intro R hR)))))
         all_goals exact hN1 _ (St.le_of (by simp[leT]) (by simp[leH,hget]))
       · rw[show decide (e[j+1]! < e[j]!)=false from decide_eq_false hlt] at lf
         have hu2:=(X4h (d:=e) hlt).symm.trans hu
         rw[←hu2] at hJ
         clear hu hu2 hlt
         generalize e[j+1]! = zi at *
         generalize e[j]! = zj at *
         (have W:=ndI k1 (ndI w1 (ndI y0 (ndI y1 (ndI y2 @wrI))));(repeat(any_goals(first|((with_reducible refine Q0g ?_ ?_);rfl;intro K hK;simp(disch:=omega) only[go_sem,W,Q0a,Nat.mul_one];((repeat(refine ndI (by first|assumption|omega|rfl) ?_));refine hK _ ?_;clear hK K))|(with_reducible first|(refine Q0i ?_;refine hR _ ?_;clear hR R)|((first|refine Q0h ?_|refine Q0c ?_);intro Ψ hΨ hΨ')|(refine Q0b ?_;intro R hR)|(refine hΨ _ ?_;clear hΨ hΨ' Ψ)|refine Q0d ?_|refine Q0j ?_|refine Q0e ?_)|((with_reducible refine hΨ' _ _ ?_ ?_);(focus(simp;done));clear hΨ hΨ' Ψ)|((with_reducible apply Q0f);rfl;rfl;all_goals(intro hc;first|(cases hc;done)|(try simp only at hc)))|((with_reducible refine Q0t ?_ ?_);(apply Q1f);(focus(repeat(first|exact Sims.nil|((apply Sims.cons);(focus(first|((apply Ef.sim_row);assumption)|exact Ef.sim_refl _))))));kernel_rfl;(with_reducible refine hR _ ?_);clear hR R)|((first|((with_reducible apply Q0r);rfl;rfl;rfl;rfl)|((with_reducible apply Q0n);rfl;rfl;rfl)|((first|((with_reducible apply Q1m);rfl;rfl)|((with_reducible apply Q1p);rfl;rfl;rfl;rfl;rfl));((apply Q1g (lf);rfl;rfl;rfl;rfl;exact Try.func70);kernel_rfl;rfl;(focus((simp(disch:=omega) only[go_sem,W,Q0a,Nat.mul_one]);(try rfl);done));(first|rfl|simp[AV.inNL,AV.inN])))|((first|((with_reducible apply Q0u);rfl;rfl)|((with_reducible apply Q0s);rfl;rfl;rfl;rfl;rfl));(simp(disch:=omega) only[rdE,rdOf,go_sem,W,Q0a,Nat.mul_one];rfl);(intro τ hA hQ hN;((try simp only[Q1h,Op.operands,Call.operands,go_sem,W,Q0a,Nat.mul_one,go_sem,List.mem_cons,List.not_mem_nil,forall_eq_or_imp,forall_eq,List.append_toArray,Option.toArray] at hA);(try simp only[go_sem,W,Q0a,Nat.mul_one,List.mem_cons,List.not_mem_nil,forall_eq_or_imp,forall_eq] at hQ hN);(first|(revert hA;intro hA)|have hA:=trivial);(first|(revert hQ;intro hQ)|have hQ:=trivial);(first|(revert hN;intro hN)|have hN:=trivial);simp(disch:=omega) only[go_sem,W,Q0a,Nat.mul_one,go_sem,hA,hQ,hN];(repeat(refine ndI (by first|assumption|omega|rfl) ?_));(first|apply Q1b|apply Q1a|apply Q0w)))));(simp(disch:=omega) only[St.eff,setO,Q0q,go_sem,W,Q0a,Nat.mul_one]))|((with_reducible apply Q0o);rfl;rfl;rfl;all_goals intro hb;all_goals(simp(disch:=omega) only[St.eff,setO,Q0q,go_sem,W,Q0a,Nat.mul_one]))|((with_reducible refine Q0p ?_ ?_ ?_ ?_);kernel_rfl;kernel_rfl;(simp[Q0m,Q1j,St.free,Q1i,AV.refsL,AV.refs,Q0a]);intro R hR)))))
         all_goals exact hJ _ (St.le_of (by simp[leT]) (by simp[leH,hget]))
     by_cases e4:b-i≥2
     · have kH:decide (((b-i:Nat):Int)≥2)=true:=decide_eq_true (by omega)
       rw[if_pos e4] at hr2
       obtain⟨d5,hsu⟩:∃x,Sort.shiftUp ltI b (i+1) d2=x:=⟨_,rfl⟩
       have hs5:d5.size=n:=by rw[←hsu,X4g _ _ _ (Nat.le_refl _)];exact hs2
       rw[hsu] at hr2
       have hΨ1:∀σ':St,σ'.le (stPi d5 n a b (s+1) i)→Ψr .normal σ':=fun σ' h=>hN0 σ' ⟨((s+1,i),d5),by dsimp only;omega,by dsimp only;omega,by dsimp only;omega,hs5,by dsimp only;rw[show 5-(s+1)=t by omega];exact hr2⟩ (by dsimp only;omega) h
       (have W:=ndI w7 (ndI w8 @wrI);(repeat(any_goals(first|((with_reducible refine Q0g ?_ ?_);rfl;intro K hK;simp(disch:=omega) only[go_sem,W,kH,Q0a,Nat.mul_one];((repeat(refine ndI (by first|assumption|omega|rfl) ?_));refine hK _ ?_;clear hK K))|(with_reducible first|(refine Q0i ?_;refine hR _ ?_;clear hR R)|((first|refine Q0h ?_|refine Q0c ?_);intro Ψ hΨ hΨ')|(refine Q0b ?_;intro R hR)|(refine hΨ _ ?_;clear hΨ hΨ' Ψ)|refine Q0d ?_|refine Q0j ?_|refine Q0e ?_)|((with_reducible refine hΨ' _ _ ?_ ?_);(focus(simp;done));clear hΨ hΨ' Ψ)|((with_reducible apply Q0f);rfl;rfl;all_goals(intro hc;first|(cases hc;done)|(try simp only at hc)))|((with_reducible refine Q0t ?_ ?_);(apply Q1f);(focus(repeat(first|exact Sims.nil|((apply Sims.cons);(focus(first|((apply Ef.sim_row);assumption)|exact Ef.sim_refl _))))));kernel_rfl;(with_reducible refine hR _ ?_);clear hR R)|((first|((with_reducible apply Q0r);rfl;rfl;rfl;rfl)|((with_reducible apply Q0n);rfl;rfl;rfl)|((first|((with_reducible apply Q0u);rfl;rfl)|((with_reducible apply Q0s);rfl;rfl;rfl;rfl;rfl));(simp(disch:=omega) only[rdE,rdOf,go_sem,W,kH,Q0a,Nat.mul_one];rfl);(intro τ hA hQ hN;((try simp only[Q1h,Op.operands,Call.operands,go_sem,W,kH,Q0a,Nat.mul_one,go_sem,List.mem_cons,List.not_mem_nil,forall_eq_or_imp,forall_eq,List.append_toArray,Option.toArray] at hA);(try simp only[go_sem,W,kH,Q0a,Nat.mul_one,List.mem_cons,List.not_mem_nil,forall_eq_or_imp,forall_eq] at hQ hN);(first|(revert hA;intro hA)|have hA:=trivial);(first|(revert hQ;intro hQ)|have hQ:=trivial);(first|(revert hN;intro hN)|have hN:=trivial);simp(disch:=omega) only[go_sem,W,kH,Q0a,Nat.mul_one,go_sem,hA,hQ,hN];(repeat(refine ndI (by first|assumption|omega|rfl) ?_));(first|apply Q1b|apply Q1a|apply Q0w)))));(simp(disch:=omega) only[St.eff,setO,Q0q,go_sem,W,kH,Q0a,Nat.mul_one]))|((with_reducible apply Q0o);rfl;rfl;rfl;all_goals intro hb;all_goals(simp(disch:=omega) only[St.eff,setO,Q0q,go_sem,W,kH,Q0a,Nat.mul_one]))|((with_reducible refine Q0p ?_ ?_ ?_ ?_);kernel_rfl;kernel_rfl;(simp[Q0m,Q1j,St.free,Q1i,AV.refsL,AV.refs,Q0a]);intro R hR)))))
       refine Q2z 6 (stPi d5 n a b s i) (α:={q:Nat×Array Int // a+1≤q.1∧q.1≤b∧q.2.size=n∧Sort.shiftUp ltI b q.1 q.2=d5}) (fun q=>stPw q.1.2 n a b s i q.1.1) (fun q=>b-q.1.1) ⟨(i+1,d2),by dsimp only;omega,by dsimp only;omega,hs2,hsu⟩ (St.le_of (by simp[leT]) (by simp[leH,hget])) ?_ ?_
       rotate_left
       · rintro ⟨⟨j,e⟩,c1,c2,hse,hu⟩ Ψ hN hJ
         (try dsimp only at c1 c2 hse hu hN ⊢)
         by_cases hjb:j<b
         rotate_left
         · have k1:decide ((j:Int)<(b:Int))=false:=decide_eq_false (by omega)
           have hu2:=(Q6c (d:=e) (fun h=>hjb h.1)).symm.trans hu
           rw[←hu2] at hJ
           clear hu hu2
           (repeat(any_goals(first|((with_reducible refine Q0g ?_ ?_);rfl;intro K hK;simp(disch:=omega) only[go_sem,k1,Q0a,Nat.mul_one,wrI];((repeat(refine ndI (by first|assumption|omega|rfl) ?_));refine hK _ ?_;clear hK K))|(with_reducible first|(refine Q0i ?_;refine hR _ ?_;clear hR R)|((first|refine Q0h ?_|refine Q0c ?_);intro Ψ hΨ hΨ')|(refine Q0b ?_;intro R hR)|(refine hΨ _ ?_;clear hΨ hΨ' Ψ)|refine Q0d ?_|refine Q0j ?_|refine Q0e ?_)|((with_reducible refine hΨ' _ _ ?_ ?_);(focus(simp;done));clear hΨ hΨ' Ψ)|((with_reducible apply Q0f);rfl;rfl;all_goals(intro hc;first|(cases hc;done)|(try simp only at hc)))|((with_reducible refine Q0t ?_ ?_);(apply Q1f);(focus(repeat(first|exact Sims.nil|((apply Sims.cons);(focus(first|((apply Ef.sim_row);assumption)|exact Ef.sim_refl _))))));kernel_rfl;(with_reducible refine hR _ ?_);clear hR R)|((first|((with_reducible apply Q0r);rfl;rfl;rfl;rfl)|((with_reducible apply Q0n);rfl;rfl;rfl)|((first|((with_reducible apply Q0u);rfl;rfl)|((with_reducible apply Q0s);rfl;rfl;rfl;rfl;rfl));(simp(disch:=omega) only[rdE,rdOf,go_sem,k1,Q0a,Nat.mul_one,wrI];rfl);(intro τ hA hQ hN;((try simp only[Q1h,Op.operands,Call.operands,go_sem,k1,Q0a,Nat.mul_one,wrI,go_sem,List.mem_cons,List.not_mem_nil,forall_eq_or_imp,forall_eq,List.append_toArray,Option.toArray] at hA);(try simp only[go_sem,k1,Q0a,Nat.mul_one,wrI,List.mem_cons,List.not_mem_nil,forall_eq_or_imp,forall_eq] at hQ hN);(first|(revert hA;intro hA)|have hA:=trivial);(first|(revert hQ;intro hQ)|have hQ:=trivial);(first|(revert hN;intro hN)|have hN:=trivial);simp(disch:=omega) only[go_sem,k1,Q0a,Nat.mul_one,wrI,go_sem,hA,hQ,hN];(repeat(refine ndI (by first|assumption|omega|rfl) ?_));(first|apply Q1b|apply Q1a|apply Q0w)))));(simp(disch:=omega) only[St.eff,setO,Q0q,go_sem,k1,Q0a,Nat.mul_one,wrI]))|((with_reducible apply Q0o);rfl;rfl;rfl;all_goals intro hb;all_goals(simp(disch:=omega) only[St.eff,setO,Q0q,go_sem,k1,Q0a,Nat.mul_one,wrI]))|((with_reducible refine Q0p ?_ ?_ ?_ ?_);kernel_rfl;kernel_rfl;(simp[Q0m,Q1j,St.free,Q1i,AV.refsL,AV.refs,Q0a]);intro R hR))))
           all_goals exact hJ _ (St.le_of (by simp[leT]) (by simp[leH,hget]))
         have k1:decide ((j:Int)<(b:Int))=true:=decide_eq_true (by omega)
         have w1:(j:Int)-1=((j-1:Nat):Int):=by omega
         have w9:(j:Int)+1=((j+1:Nat):Int):=by omega
         have y0:=Q1z e
         rw[hse] at y0
         have y1:=Q2o e (j:=j) (by omega)
         have y2:=Q2o e (j:=j-1) (by omega)
         have lf:=Q3a e[j]! e[j-1]!
         by_cases hlt:e[j]! < e[j-1]!
         · rw[show decide (e[j]! < e[j-1]!)=true from decide_eq_true hlt] at lf
           have hu2:=(shu_go (d:=e) hjb hlt).symm.trans hu
           have hs9:(Sort.swp e j (j-1)).size=n:=by rw[Q2m];exact hse
           have hN1:∀σ':St,σ'.le (stPw (Sort.swp e j (j-1)) n a b s i (j+1))→Ψ .normal σ':=fun σ' h=>hN σ' ⟨(j+1,Sort.swp e j (j-1)),by dsimp only;omega,by dsimp only;omega,hs9,hu2⟩ (by dsimp only;omega) h
           clear hu hu2 hlt hs9
           obtain⟨t1,t2⟩:=Q3p e (i:=j) (j:=j-1) (by omega) (by omega)
           have z4:(rI (e.setIfInBounds j e[j-1]!)).length=n:=by rw[Q1z,Array.size_setIfInBounds];exact hse
           generalize Sort.swp e j (j-1)=e9 at t2 hN1
           generalize e.setIfInBounds j e[j-1]! = e1 at t1 t2 z4
           generalize e[j]! = zi at *
           generalize e[j-1]! = zj at *
           (have W:=ndI k1 (ndI w1 (ndI w9 (ndI y0 (ndI y1 (ndI y2 (ndI z4 (ndI t1 (ndI t2 @wrI))))))));(repeat(any_goals(first|((with_reducible refine Q0g ?_ ?_);rfl;intro K hK;simp(disch:=omega) only[go_sem,W,Q0a,Nat.mul_one];((repeat(refine ndI (by first|assumption|omega|rfl) ?_));refine hK _ ?_;clear hK K))|(with_reducible first|(refine Q0i ?_;refine hR _ ?_;clear hR R)|((first|refine Q0h ?_|refine Q0c ?_);intro Ψ hΨ hΨ')|(refine Q0b ?_;intro R hR)|(refine hΨ _ ?_;clear hΨ hΨ' Ψ)|refine Q0d ?_|refine Q0j ?_|refine Q0e ?_)|((with_reducible refine hΨ' _ _ ?_ ?_);(focus(simp;done));clear hΨ hΨ' Ψ)|((with_reducible apply Q0f);rfl;rfl;all_goals(intro hc;first|(cases hc;done)|(try simp only at hc)))|((with_reducible refine Q0t ?_ ?_);(apply Q1f);(focus(repeat(first|exact Sims.nil|((apply Sims.cons);(focus(first|((apply Ef.sim_row);assumption)|exact Ef.sim_refl _))))));kernel_rfl;(with_reducible refine hR _ ?_);clear hR R)|((first|((with_reducible apply Q0r);rfl;rfl;rfl;rfl)|((with_reducible apply Q0n);rfl;rfl;rfl)|((first|((with_reducible apply Q1m);rfl;rfl)|((with_reducible apply Q1p);rfl;rfl;rfl;rfl;rfl));((apply Q1g (lf);rfl;rfl;rfl;rfl;exact Try.func70);kernel_rfl;rfl;(focus((simp(disch:=omega) only[go_sem,W,Q0a,Nat.mul_one]);(try rfl);done));(first|rfl|simp[AV.inNL,AV.inN])))|((first|((with_reducible apply Q0u);rfl;rfl)|((with_reducible apply Q0s);rfl;rfl;rfl;rfl;rfl));(simp(disch:=omega) only[rdE,rdOf,go_sem,W,Q0a,Nat.mul_one];rfl);(intro τ hA hQ hN;((try simp only[Q1h,Op.operands,Call.operands,go_sem,W,Q0a,Nat.mul_one,go_sem,List.mem_cons,List.not_mem_nil,forall_eq_or_imp,forall_eq,List.append_toArray,Option.toArray] at hA);(try simp only[go_sem,W,Q0a,Nat.mul_one,List.mem_cons,List.not_mem_nil,forall_eq_or_imp,forall_eq] at hQ hN);(first|(revert hA;intro hA)|have hA:=trivial);(first|(revert hQ;intro hQ)|have hQ:=trivial);(first|(revert hN;intro hN)|have hN:=trivial);simp(disch:=omega) only[go_sem,W,Q0a,Nat.mul_one,go_sem,hA,hQ,hN];(repeat(refine ndI (by first|assumption|omega|rfl) ?_));(first|apply Q1b|apply Q1a|apply Q0w)))));(simp(disch:=omega) only[St.eff,setO,Q0q,go_sem,W,Q0a,Nat.mul_one]))|((with_reducible apply Q0o);rfl;rfl;rfl;all_goals intro hb;all_goals(simp(disch:=omega) only[St.eff,setO,Q0q,go_sem,W,Q0a,Nat.mul_one]))|((with_reducible refine Q0p ?_ ?_ ?_ ?_);kernel_rfl;kernel_rfl;(simp[Q0m,Q1j,St.free,Q1i,AV.refsL,AV.refs,Q0a]);intro R hR)))))
           all_goals exact hN1 _ (St.le_of (by simp[leT]) (by simp[leH,hget]))
         · rw[show decide (e[j]! < e[j-1]!)=false from decide_eq_false hlt] at lf
           have hu2:=(Q6c (d:=e) (fun h=>hlt h.2)).symm.trans hu
           rw[←hu2] at hJ
           clear hu hu2 hlt
           generalize e[j]! = zi at *
           generalize e[j-1]! = zj at *
           (have W:=ndI k1 (ndI w1 (ndI w9 (ndI y0 (ndI y1 (ndI y2 @wrI)))));(repeat(any_goals(first|((with_reducible refine Q0g ?_ ?_);rfl;intro K hK;simp(disch:=omega) only[go_sem,W,Q0a,Nat.mul_one];((repeat(refine ndI (by first|assumption|omega|rfl) ?_));refine hK _ ?_;clear hK K))|(with_reducible first|(refine Q0i ?_;refine hR _ ?_;clear hR R)|((first|refine Q0h ?_|refine Q0c ?_);intro Ψ hΨ hΨ')|(refine Q0b ?_;intro R hR)|(refine hΨ _ ?_;clear hΨ hΨ' Ψ)|refine Q0d ?_|refine Q0j ?_|refine Q0e ?_)|((with_reducible refine hΨ' _ _ ?_ ?_);(focus(simp;done));clear hΨ hΨ' Ψ)|((with_reducible apply Q0f);rfl;rfl;all_goals(intro hc;first|(cases hc;done)|(try simp only at hc)))|((with_reducible refine Q0t ?_ ?_);(apply Q1f);(focus(repeat(first|exact Sims.nil|((apply Sims.cons);(focus(first|((apply Ef.sim_row);assumption)|exact Ef.sim_refl _))))));kernel_rfl;(with_reducible refine hR _ ?_);clear hR R)|((first|((with_reducible apply Q0r);rfl;rfl;rfl;rfl)|((with_reducible apply Q0n);rfl;rfl;rfl)|((first|((with_reducible apply Q1m);rfl;rfl)|((with_reducible apply Q1p);rfl;rfl;rfl;rfl;rfl));((apply Q1g (lf);rfl;rfl;rfl;rfl;exact Try.func70);kernel_rfl;rfl;(focus((simp(disch:=omega) only[go_sem,W,Q0a,Nat.mul_one]);(try rfl);done));(first|rfl|simp[AV.inNL,AV.inN])))|((first|((with_reducible apply Q0u);rfl;rfl)|((with_reducible apply Q0s);rfl;rfl;rfl;rfl;rfl));(simp(disch:=omega) only[rdE,rdOf,go_sem,W,Q0a,Nat.mul_one];rfl);(intro τ hA hQ hN;((try simp only[Q1h,Op.operands,Call.operands,go_sem,W,Q0a,Nat.mul_one,go_sem,List.mem_cons,List.not_mem_nil,forall_eq_or_imp,forall_eq,List.append_toArray,Option.toArray] at hA);(try simp only[go_sem,W,Q0a,Nat.mul_one,List.mem_cons,List.not_mem_nil,forall_eq_or_imp,forall_eq] at hQ hN);(first|(revert hA;intro hA)|have hA:=trivial);(first|(revert hQ;intro hQ)|have hQ:=trivial);(first|(revert hN;intro hN)|have hN:=trivial);simp(disch:=omega) only[go_sem,W,Q0a,Nat.mul_one,go_sem,hA,hQ,hN];(repeat(refine ndI (by first|assumption|omega|rfl) ?_));(first|apply Q1b|apply Q1a|apply Q0w)))));(simp(disch:=omega) only[St.eff,setO,Q0q,go_sem,W,Q0a,Nat.mul_one]))|((with_reducible apply Q0o);rfl;rfl;rfl;all_goals intro hb;all_goals(simp(disch:=omega) only[St.eff,setO,Q0q,go_sem,W,Q0a,Nat.mul_one]))|((with_reducible refine Q0p ?_ ?_ ?_ ?_);kernel_rfl;kernel_rfl;(simp[Q0m,Q1j,St.free,Q1i,AV.refsL,AV.refs,Q0a]);intro R hR)))))
           all_goals exact hJ _ (St.le_of (by simp[leT]) (by simp[leH,hget]))
       (repeat(any_goals(first|((with_reducible refine Q0g ?_ ?_);rfl;intro K hK;simp(disch:=omega) only[go_sem,w10,Q0a,Nat.mul_one,wrI];((repeat(refine ndI (by first|assumption|omega|rfl) ?_));refine hK _ ?_;clear hK K))|(with_reducible first|(refine Q0i ?_;refine hR _ ?_;clear hR R)|((first|refine Q0h ?_|refine Q0c ?_);intro Ψ hΨ hΨ')|(refine Q0b ?_;intro R hR)|(refine hΨ _ ?_;clear hΨ hΨ' Ψ)|refine Q0d ?_|refine Q0j ?_|refine Q0e ?_)|((with_reducible refine hΨ' _ _ ?_ ?_);(focus(simp;done));clear hΨ hΨ' Ψ)|((with_reducible apply Q0f);rfl;rfl;all_goals(intro hc;first|(cases hc;done)|(try simp only at hc)))|((with_reducible refine Q0t ?_ ?_);(apply Q1f);(focus(repeat(first|exact Sims.nil|((apply Sims.cons);(focus(first|((apply Ef.sim_row);assumption)|exact Ef.sim_refl _))))));kernel_rfl;(with_reducible refine hR _ ?_);clear hR R)|((first|((with_reducible apply Q0r);rfl;rfl;rfl;rfl)|((with_reducible apply Q0n);rfl;rfl;rfl)|((first|((with_reducible apply Q0u);rfl;rfl)|((with_reducible apply Q0s);rfl;rfl;rfl;rfl;rfl));(simp(disch:=omega) only[rdE,rdOf,go_sem,w10,Q0a,Nat.mul_one,wrI];rfl);(intro τ hA hQ hN;((try simp only[Q1h,Op.operands,Call.operands,go_sem,w10,Q0a,Nat.mul_one,wrI,go_sem,List.mem_cons,List.not_mem_nil,forall_eq_or_imp,forall_eq,List.append_toArray,Option.toArray] at hA);(try simp only[go_sem,w10,Q0a,Nat.mul_one,wrI,List.mem_cons,List.not_mem_nil,forall_eq_or_imp,forall_eq] at hQ hN);(first|(revert hA;intro hA)|have hA:=trivial);(first|(revert hQ;intro hQ)|have hQ:=trivial);(first|(revert hN;intro hN)|have hN:=trivial);simp(disch:=omega) only[go_sem,w10,Q0a,Nat.mul_one,wrI,go_sem,hA,hQ,hN];(repeat(refine ndI (by first|assumption|omega|rfl) ?_));(first|apply Q1b|apply Q1a|apply Q0w)))));(simp(disch:=omega) only[St.eff,setO,Q0q,go_sem,w10,Q0a,Nat.mul_one,wrI]))|((with_reducible apply Q0o);rfl;rfl;rfl;all_goals intro hb;all_goals(simp(disch:=omega) only[St.eff,setO,Q0q,go_sem,w10,Q0a,Nat.mul_one,wrI]))|((with_reducible refine Q0p ?_ ?_ ?_ ?_);kernel_rfl;kernel_rfl;(simp[Q0m,Q1j,St.free,Q1i,AV.refsL,AV.refs,Q0a]);intro R hR))))
       all_goals exact hΨ1 _ (St.le_of (by simp[leT]) (by simp[leH,hget]))
     · have kH:decide (((b-i:Nat):Int)≥2)=false:=decide_eq_false (by omega)
       rw[if_neg e4] at hr2
       have hΨ1:∀σ':St,σ'.le (stPi d2 n a b (s+1) i)→Ψr .normal σ':=fun σ' h=>hN0 σ' ⟨((s+1,i),d2),by dsimp only;omega,by dsimp only;omega,by dsimp only;omega,hs2,by dsimp only;rw[show 5-(s+1)=t by omega];exact hr2⟩ (by dsimp only;omega) h
       (have W:=ndI w7 (ndI w8 (ndI w10 @wrI));(repeat(any_goals(first|((with_reducible refine Q0g ?_ ?_);rfl;intro K hK;simp(disch:=omega) only[go_sem,W,kH,Q0a,Nat.mul_one];((repeat(refine ndI (by first|assumption|omega|rfl) ?_));refine hK _ ?_;clear hK K))|(with_reducible first|(refine Q0i ?_;refine hR _ ?_;clear hR R)|((first|refine Q0h ?_|refine Q0c ?_);intro Ψ hΨ hΨ')|(refine Q0b ?_;intro R hR)|(refine hΨ _ ?_;clear hΨ hΨ' Ψ)|refine Q0d ?_|refine Q0j ?_|refine Q0e ?_)|((with_reducible refine hΨ' _ _ ?_ ?_);(focus(simp;done));clear hΨ hΨ' Ψ)|((with_reducible apply Q0f);rfl;rfl;all_goals(intro hc;first|(cases hc;done)|(try simp only at hc)))|((with_reducible refine Q0t ?_ ?_);(apply Q1f);(focus(repeat(first|exact Sims.nil|((apply Sims.cons);(focus(first|((apply Ef.sim_row);assumption)|exact Ef.sim_refl _))))));kernel_rfl;(with_reducible refine hR _ ?_);clear hR R)|((first|((with_reducible apply Q0r);rfl;rfl;rfl;rfl)|((with_reducible apply Q0n);rfl;rfl;rfl)|((first|((with_reducible apply Q0u);rfl;rfl)|((with_reducible apply Q0s);rfl;rfl;rfl;rfl;rfl));(simp(disch:=omega) only[rdE,rdOf,go_sem,W,kH,Q0a,Nat.mul_one];rfl);(intro τ hA hQ hN;((try simp only[Q1h,Op.operands,Call.operands,go_sem,W,kH,Q0a,Nat.mul_one,go_sem,List.mem_cons,List.not_mem_nil,forall_eq_or_imp,forall_eq,List.append_toArray,Option.toArray] at hA);(try simp only[go_sem,W,kH,Q0a,Nat.mul_one,List.mem_cons,List.not_mem_nil,forall_eq_or_imp,forall_eq] at hQ hN);(first|(revert hA;intro hA)|have hA:=trivial);(first|(revert hQ;intro hQ)|have hQ:=trivial);(first|(revert hN;intro hN)|have hN:=trivial);simp(disch:=omega) only[go_sem,W,kH,Q0a,Nat.mul_one,go_sem,hA,hQ,hN];(repeat(refine ndI (by first|assumption|omega|rfl) ?_));(first|apply Q1b|apply Q1a|apply Q0w)))));(simp(disch:=omega) only[St.eff,setO,Q0q,go_sem,W,kH,Q0a,Nat.mul_one]))|((with_reducible apply Q0o);rfl;rfl;rfl;all_goals intro hb;all_goals(simp(disch:=omega) only[St.eff,setO,Q0q,go_sem,W,kH,Q0a,Nat.mul_one]))|((with_reducible refine Q0p ?_ ?_ ?_ ?_);kernel_rfl;kernel_rfl;(simp[Q0m,Q1j,St.free,Q1i,AV.refsL,AV.refs,Q0a]);intro R hR)))))
       all_goals exact hΨ1 _ (St.le_of (by simp[leT]) (by simp[leH,hget]))
   · have kG:decide (((i-a:Nat):Int)≥2)=false:=decide_eq_false (by omega)
     rw[if_neg e3] at hr2
     have hs2:=hs1
     by_cases e4:b-i≥2
     · have kH:decide (((b-i:Nat):Int)≥2)=true:=decide_eq_true (by omega)
       rw[if_pos e4] at hr2
       obtain⟨d5,hsu⟩:∃x,Sort.shiftUp ltI b (i+1) d1=x:=⟨_,rfl⟩
       have hs5:d5.size=n:=by rw[←hsu,X4g _ _ _ (Nat.le_refl _)];exact hs2
       rw[hsu] at hr2
       have hΨ1:∀σ':St,σ'.le (stPi d5 n a b (s+1) i)→Ψr .normal σ':=fun σ' h=>hN0 σ' ⟨((s+1,i),d5),by dsimp only;omega,by dsimp only;omega,by dsimp only;omega,hs5,by dsimp only;rw[show 5-(s+1)=t by omega];exact hr2⟩ (by dsimp only;omega) h
       (have W:=ndI w4 (ndI w5 (ndI w6 (ndI w7 (ndI w8 (ndI z0 (ndI z1 (ndI z2 (ndI z4 (ndI t1 (ndI t2 @wrI))))))))));(repeat(any_goals(first|((with_reducible refine Q0g ?_ ?_);rfl;intro K hK;simp(disch:=omega) only[go_sem,W,kH,kE,kF,kG,Q0a,Nat.mul_one];((repeat(refine ndI (by first|assumption|omega|rfl) ?_));refine hK _ ?_;clear hK K))|(with_reducible first|(refine Q0i ?_;refine hR _ ?_;clear hR R)|((first|refine Q0h ?_|refine Q0c ?_);intro Ψ hΨ hΨ')|(refine Q0b ?_;intro R hR)|(refine hΨ _ ?_;clear hΨ hΨ' Ψ)|refine Q0d ?_|refine Q0j ?_|refine Q0e ?_)|((with_reducible refine hΨ' _ _ ?_ ?_);(focus(simp;done));clear hΨ hΨ' Ψ)|((with_reducible apply Q0f);rfl;rfl;all_goals(intro hc;first|(cases hc;done)|(try simp only at hc)))|((with_reducible refine Q0t ?_ ?_);(apply Q1f);(focus(repeat(first|exact Sims.nil|((apply Sims.cons);(focus(first|((apply Ef.sim_row);assumption)|exact Ef.sim_refl _))))));kernel_rfl;(with_reducible refine hR _ ?_);clear hR R)|((first|((with_reducible apply Q0r);rfl;rfl;rfl;rfl)|((with_reducible apply Q0n);rfl;rfl;rfl)|((first|((with_reducible apply Q0u);rfl;rfl)|((with_reducible apply Q0s);rfl;rfl;rfl;rfl;rfl));(simp(disch:=omega) only[rdE,rdOf,go_sem,W,kH,kE,kF,kG,Q0a,Nat.mul_one];rfl);(intro τ hA hQ hN;((try simp only[Q1h,Op.operands,Call.operands,go_sem,W,kH,kE,kF,kG,Q0a,Nat.mul_one,go_sem,List.mem_cons,List.not_mem_nil,forall_eq_or_imp,forall_eq,List.append_toArray,Option.toArray] at hA);(try simp only[go_sem,W,kH,kE,kF,kG,Q0a,Nat.mul_one,List.mem_cons,List.not_mem_nil,forall_eq_or_imp,forall_eq] at hQ hN);(first|(revert hA;intro hA)|have hA:=trivial);(first|(revert hQ;intro hQ)|have hQ:=trivial);(first|(revert hN;intro hN)|have hN:=trivial);simp(disch:=omega) only[go_sem,W,kH,kE,kF,kG,Q0a,Nat.mul_one,go_sem,hA,hQ,hN];(repeat(refine ndI (by first|assumption|omega|rfl) ?_));(first|apply Q1b|apply Q1a|apply Q0w)))));(simp(disch:=omega) only[St.eff,setO,Q0q,go_sem,W,kH,kE,kF,kG,Q0a,Nat.mul_one]))|((with_reducible apply Q0o);rfl;rfl;rfl;all_goals intro hb;all_goals(simp(disch:=omega) only[St.eff,setO,Q0q,go_sem,W,kH,kE,kF,kG,Q0a,Nat.mul_one]))|((with_reducible refine Q0p ?_ ?_ ?_ ?_);kernel_rfl;kernel_rfl;(simp[Q0m,Q1j,St.free,Q1i,AV.refsL,AV.refs,Q0a]);intro R hR)))))
       refine Q2z 6 (stPi d5 n a b s i) (α:={q:Nat×Array Int // a+1≤q.1∧q.1≤b∧q.2.size=n∧Sort.shiftUp ltI b q.1 q.2=d5}) (fun q=>stPw q.1.2 n a b s i q.1.1) (fun q=>b-q.1.1) ⟨(i+1,d1),by dsimp only;omega,by dsimp only;omega,hs2,hsu⟩ (St.le_of (by simp[leT]) (by simp[leH,hget])) ?_ ?_
       rotate_left
       · rintro ⟨⟨j,e⟩,c1,c2,hse,hu⟩ Ψ hN hJ
         (try dsimp only at c1 c2 hse hu hN ⊢)
         by_cases hjb:j<b
         rotate_left
         · have k1:decide ((j:Int)<(b:Int))=false:=decide_eq_false (by omega)
           have hu2:=(Q6c (d:=e) (fun h=>hjb h.1)).symm.trans hu
           rw[←hu2] at hJ
           clear hu hu2
           (repeat(any_goals(first|((with_reducible refine Q0g ?_ ?_);rfl;intro K hK;simp(disch:=omega) only[go_sem,k1,Q0a,Nat.mul_one,wrI];((repeat(refine ndI (by first|assumption|omega|rfl) ?_));refine hK _ ?_;clear hK K))|(with_reducible first|(refine Q0i ?_;refine hR _ ?_;clear hR R)|((first|refine Q0h ?_|refine Q0c ?_);intro Ψ hΨ hΨ')|(refine Q0b ?_;intro R hR)|(refine hΨ _ ?_;clear hΨ hΨ' Ψ)|refine Q0d ?_|refine Q0j ?_|refine Q0e ?_)|((with_reducible refine hΨ' _ _ ?_ ?_);(focus(simp;done));clear hΨ hΨ' Ψ)|((with_reducible apply Q0f);rfl;rfl;all_goals(intro hc;first|(cases hc;done)|(try simp only at hc)))|((with_reducible refine Q0t ?_ ?_);(apply Q1f);(focus(repeat(first|exact Sims.nil|((apply Sims.cons);(focus(first|((apply Ef.sim_row);assumption)|exact Ef.sim_refl _))))));kernel_rfl;(with_reducible refine hR _ ?_);clear hR R)|((first|((with_reducible apply Q0r);rfl;rfl;rfl;rfl)|((with_reducible apply Q0n);rfl;rfl;rfl)|((first|((with_reducible apply Q0u);rfl;rfl)|((with_reducible apply Q0s);rfl;rfl;rfl;rfl;rfl));(simp(disch:=omega) only[rdE,rdOf,go_sem,k1,Q0a,Nat.mul_one,wrI];rfl);(intro τ hA hQ hN;((try simp only[Q1h,Op.operands,Call.operands,go_sem,k1,Q0a,Nat.mul_one,wrI,go_sem,List.mem_cons,List.not_mem_nil,forall_eq_or_imp,forall_eq,List.append_toArray,Option.toArray] at hA);(try simp only[go_sem,k1,Q0a,Nat.mul_one,wrI,List.mem_cons,List.not_mem_nil,forall_eq_or_imp,forall_eq] at hQ hN);(first|(revert hA;intro hA)|have hA:=trivial);(first|(revert hQ;intro hQ)|have hQ:=trivial);(first|(revert hN;intro hN)|have hN:=trivial);simp(disch:=omega) only[go_sem,k1,Q0a,Nat.mul_one,wrI,go_sem,hA,hQ,hN];(repeat(refine ndI (by first|assumption|omega|rfl) ?_));(first|apply Q1b|apply Q1a|apply Q0w)))));(simp(disch:=omega) only[St.eff,setO,Q0q,go_sem,k1,Q0a,Nat.mul_one,wrI]))|((with_reducible apply Q0o);rfl;rfl;rfl;all_goals intro hb;all_goals(simp(disch:=omega) only[St.eff,setO,Q0q,go_sem,k1,Q0a,Nat.mul_one,wrI]))|((with_reducible refine Q0p ?_ ?_ ?_ ?_);kernel_rfl;kernel_rfl;(simp[Q0m,Q1j,St.free,Q1i,AV.refsL,AV.refs,Q0a]);intro R hR))))
           all_goals exact hJ _ (St.le_of (by simp[leT]) (by simp[leH,hget]))
         have k1:decide ((j:Int)<(b:Int))=true:=decide_eq_true (by omega)
         have w1:(j:Int)-1=((j-1:Nat):Int):=by omega
         have w9:(j:Int)+1=((j+1:Nat):Int):=by omega
         have y0:=Q1z e
         rw[hse] at y0
         have y1:=Q2o e (j:=j) (by omega)
         have y2:=Q2o e (j:=j-1) (by omega)
         have lf:=Q3a e[j]! e[j-1]!
         by_cases hlt:e[j]! < e[j-1]!
         · rw[show decide (e[j]! < e[j-1]!)=true from decide_eq_true hlt] at lf
           have hu2:=(shu_go (d:=e) hjb hlt).symm.trans hu
           have hs9:(Sort.swp e j (j-1)).size=n:=by rw[Q2m];exact hse
           have hN1:∀σ':St,σ'.le (stPw (Sort.swp e j (j-1)) n a b s i (j+1))→Ψ .normal σ':=fun σ' h=>hN σ' ⟨(j+1,Sort.swp e j (j-1)),by dsimp only;omega,by dsimp only;omega,hs9,hu2⟩ (by dsimp only;omega) h
           clear hu hu2 hlt hs9
           obtain⟨t1,t2⟩:=Q3p e (i:=j) (j:=j-1) (by omega) (by omega)
           have z4:(rI (e.setIfInBounds j e[j-1]!)).length=n:=by rw[Q1z,Array.size_setIfInBounds];exact hse
           generalize Sort.swp e j (j-1)=e9 at t2 hN1
           generalize e.setIfInBounds j e[j-1]! = e1 at t1 t2 z4
           generalize e[j]! = zi at *
           generalize e[j-1]! = zj at *
           (have W:=ndI k1 (ndI w1 (ndI w9 (ndI y0 (ndI y1 (ndI y2 (ndI z4 (ndI t1 (ndI t2 @wrI))))))));(repeat(any_goals(first|((with_reducible refine Q0g ?_ ?_);rfl;intro K hK;simp(disch:=omega) only[go_sem,W,Q0a,Nat.mul_one];((repeat(refine ndI (by first|assumption|omega|rfl) ?_));refine hK _ ?_;clear hK K))|(with_reducible first|(refine Q0i ?_;refine hR _ ?_;clear hR R)|((first|refine Q0h ?_|refine Q0c ?_);intro Ψ hΨ hΨ')|(refine Q0b ?_;intro R hR)|(refine hΨ _ ?_;clear hΨ hΨ' Ψ)|refine Q0d ?_|refine Q0j ?_|refine Q0e ?_)|((with_reducible refine hΨ' _ _ ?_ ?_);(focus(simp;done));clear hΨ hΨ' Ψ)|((with_reducible apply Q0f);rfl;rfl;all_goals(intro hc;first|(cases hc;done)|(try simp only at hc)))|((with_reducible refine Q0t ?_ ?_);(apply Q1f);(focus(repeat(first|exact Sims.nil|((apply Sims.cons);(focus(first|((apply Ef.sim_row);assumption)|exact Ef.sim_refl _))))));kernel_rfl;(with_reducible refine hR _ ?_);clear hR R)|((first|((with_reducible apply Q0r);rfl;rfl;rfl;rfl)|((with_reducible apply Q0n);rfl;rfl;rfl)|((first|((with_reducible apply Q1m);rfl;rfl)|((with_reducible apply Q1p);rfl;rfl;rfl;rfl;rfl));((apply Q1g (lf);rfl;rfl;rfl;rfl;exact Try.func70);kernel_rfl;rfl;(focus((simp(disch:=omega) only[go_sem,W,Q0a,Nat.mul_one]);(try rfl);done));(first|rfl|simp[AV.inNL,AV.inN])))|((first|((with_reducible apply Q0u);rfl;rfl)|((with_reducible apply Q0s);rfl;rfl;rfl;rfl;rfl));(simp(disch:=omega) only[rdE,rdOf,go_sem,W,Q0a,Nat.mul_one];rfl);(intro τ hA hQ hN;((try simp only[Q1h,Op.operands,Call.operands,go_sem,W,Q0a,Nat.mul_one,go_sem,List.mem_cons,List.not_mem_nil,forall_eq_or_imp,forall_eq,List.append_toArray,Option.toArray] at hA);(try simp only[go_sem,W,Q0a,Nat.mul_one,List.mem_cons,List.not_mem_nil,forall_eq_or_imp,forall_eq] at hQ hN);(first|(revert hA;intro hA)|have hA:=trivial);(first|(revert hQ;intro hQ)|have hQ:=trivial);(first|(revert hN;intro hN)|have hN:=trivial);simp(disch:=omega) only[go_sem,W,Q0a,Nat.mul_one,go_sem,hA,hQ,hN];(repeat(refine ndI (by first|assumption|omega|rfl) ?_));(first|apply Q1b|apply Q1a|apply Q0w)))));(simp(disch:=omega) only[St.eff,setO,Q0q,go_sem,W,Q0a,Nat.mul_one]))|((with_reducible apply Q0o);rfl;rfl;rfl;all_goals intro hb;all_goals(simp(disch:=omega) only[St.eff,setO,Q0q,go_sem,W,Q0a,Nat.mul_one]))|((with_reducible refine Q0p ?_ ?_ ?_ ?_);kernel_rfl;kernel_rfl;(simp[Q0m,Q1j,St.free,Q1i,AV.refsL,AV.refs,Q0a]);intro R hR)))))
           all_goals exact hN1 _ (St.le_of (by simp[leT]) (by simp[leH,hget]))
         · rw[show decide (e[j]! < e[j-1]!)=false from decide_eq_false hlt] at lf
           have hu2:=(Q6c (d:=e) (fun h=>hlt h.2)).symm.trans hu
           rw[←hu2] at hJ
           clear hu hu2 hlt
           generalize e[j]! = zi at *
           generalize e[j-1]! = zj at *
           (have W:=ndI k1 (ndI w1 (ndI w9 (ndI y0 (ndI y1 (ndI y2 @wrI)))));(repeat(any_goals(first|((with_reducible refine Q0g ?_ ?_);rfl;intro K hK;simp(disch:=omega) only[go_sem,W,Q0a,Nat.mul_one];((repeat(refine ndI (by first|assumption|omega|rfl) ?_));refine hK _ ?_;clear hK K))|(with_reducible first|(refine Q0i ?_;refine hR _ ?_;clear hR R)|((first|refine Q0h ?_|refine Q0c ?_);intro Ψ hΨ hΨ')|(refine Q0b ?_;intro R hR)|(refine hΨ _ ?_;clear hΨ hΨ' Ψ)|refine Q0d ?_|refine Q0j ?_|refine Q0e ?_)|((with_reducible refine hΨ' _ _ ?_ ?_);(focus(simp;done));clear hΨ hΨ' Ψ)|((with_reducible apply Q0f);rfl;rfl;all_goals(intro hc;first|(cases hc;done)|(try simp only at hc)))|((with_reducible refine Q0t ?_ ?_);(apply Q1f);(focus(repeat(first|exact Sims.nil|((apply Sims.cons);(focus(first|((apply Ef.sim_row);assumption)|exact Ef.sim_refl _))))));kernel_rfl;(with_reducible refine hR _ ?_);clear hR R)|((first|((with_reducible apply Q0r);rfl;rfl;rfl;rfl)|((with_reducible apply Q0n);rfl;rfl;rfl)|((first|((with_reducible apply Q1m);rfl;rfl)|((with_reducible apply Q1p);rfl;rfl;rfl;rfl;rfl));((apply Q1g (lf);rfl;rfl;rfl;rfl;exact Try.func70);kernel_rfl;rfl;(focus((simp(disch:=omega) only[go_sem,W,Q0a,Nat.mul_one]);(try rfl);done));(first|rfl|simp[AV.inNL,AV.inN])))|((first|((with_reducible apply Q0u);rfl;rfl)|((with_reducible apply Q0s);rfl;rfl;rfl;rfl;rfl));(simp(disch:=omega) only[rdE,rdOf,go_sem,W,Q0a,Nat.mul_one];rfl);(intro τ hA hQ hN;((try simp only[Q1h,Op.operands,Call.operands,go_sem,W,Q0a,Nat.mul_one,go_sem,List.mem_cons,List.not_mem_nil,forall_eq_or_imp,forall_eq,List.append_toArray,Option.toArray] at hA);(try simp only[go_sem,W,Q0a,Nat.mul_one,List.mem_cons,List.not_mem_nil,forall_eq_or_imp,forall_eq] at hQ hN);(first|(revert hA;intro hA)|have hA:=trivial);(first|(revert hQ;intro hQ)|have hQ:=trivial);(first|(revert hN;intro hN)|have hN:=trivial);simp(disch:=omega) only[go_sem,W,Q0a,Nat.mul_one,go_sem,hA,hQ,hN];(repeat(refine ndI (by first|assumption|omega|rfl) ?_));(first|apply Q1b|apply Q1a|apply Q0w)))));(simp(disch:=omega) only[St.eff,setO,Q0q,go_sem,W,Q0a,Nat.mul_one]))|((with_reducible apply Q0o);rfl;rfl;rfl;all_goals intro hb;all_goals(simp(disch:=omega) only[St.eff,setO,Q0q,go_sem,W,Q0a,Nat.mul_one]))|((with_reducible refine Q0p ?_ ?_ ?_ ?_);kernel_rfl;kernel_rfl;(simp[Q0m,Q1j,St.free,Q1i,AV.refsL,AV.refs,Q0a]);intro R hR)))))
           all_goals exact hJ _ (St.le_of (by simp[leT]) (by simp[leH,hget]))
       (repeat(any_goals(first|((with_reducible refine Q0g ?_ ?_);rfl;intro K hK;simp(disch:=omega) only[go_sem,w10,Q0a,Nat.mul_one,wrI];((repeat(refine ndI (by first|assumption|omega|rfl) ?_));refine hK _ ?_;clear hK K))|(with_reducible first|(refine Q0i ?_;refine hR _ ?_;clear hR R)|((first|refine Q0h ?_|refine Q0c ?_);intro Ψ hΨ hΨ')|(refine Q0b ?_;intro R hR)|(refine hΨ _ ?_;clear hΨ hΨ' Ψ)|refine Q0d ?_|refine Q0j ?_|refine Q0e ?_)|((with_reducible refine hΨ' _ _ ?_ ?_);(focus(simp;done));clear hΨ hΨ' Ψ)|((with_reducible apply Q0f);rfl;rfl;all_goals(intro hc;first|(cases hc;done)|(try simp only at hc)))|((with_reducible refine Q0t ?_ ?_);(apply Q1f);(focus(repeat(first|exact Sims.nil|((apply Sims.cons);(focus(first|((apply Ef.sim_row);assumption)|exact Ef.sim_refl _))))));kernel_rfl;(with_reducible refine hR _ ?_);clear hR R)|((first|((with_reducible apply Q0r);rfl;rfl;rfl;rfl)|((with_reducible apply Q0n);rfl;rfl;rfl)|((first|((with_reducible apply Q0u);rfl;rfl)|((with_reducible apply Q0s);rfl;rfl;rfl;rfl;rfl));(simp(disch:=omega) only[rdE,rdOf,go_sem,w10,Q0a,Nat.mul_one,wrI];rfl);(intro τ hA hQ hN;((try simp only[Q1h,Op.operands,Call.operands,go_sem,w10,Q0a,Nat.mul_one,wrI,go_sem,List.mem_cons,List.not_mem_nil,forall_eq_or_imp,forall_eq,List.append_toArray,Option.toArray] at hA);(try simp only[go_sem,w10,Q0a,Nat.mul_one,wrI,List.mem_cons,List.not_mem_nil,forall_eq_or_imp,forall_eq] at hQ hN);(first|(revert hA;intro hA)|have hA:=trivial);(first|(revert hQ;intro hQ)|have hQ:=trivial);(first|(revert hN;intro hN)|have hN:=trivial);simp(disch:=omega) only[go_sem,w10,Q0a,Nat.mul_one,wrI,go_sem,hA,hQ,hN];(repeat(refine ndI (by first|assumption|omega|rfl) ?_));(first|apply Q1b|apply Q1a|apply Q0w)))));(simp(disch:=omega) only[St.eff,setO,Q0q,go_sem,w10,Q0a,Nat.mul_one,wrI]))|((with_reducible apply Q0o);rfl;rfl;rfl;all_goals intro hb;all_goals(simp(disch:=omega) only[St.eff,setO,Q0q,go_sem,w10,Q0a,Nat.mul_one,wrI]))|((with_reducible refine Q0p ?_ ?_ ?_ ?_);kernel_rfl;kernel_rfl;(simp[Q0m,Q1j,St.free,Q1i,AV.refsL,AV.refs,Q0a]);intro R hR))))
       all_goals exact hΨ1 _ (St.le_of (by simp[leT]) (by simp[leH,hget]))
     · exfalso
       omega
 · have k5:decide ((s:Int)<5)=false:=decide_eq_false (by omega)
   have h6:5-s=0:=by omega
   rw[h6] at hr
   have hr2:(d,false)=(rd,rb):=hr
   simp only[Prod.mk.injEq] at hr2
   obtain⟨p1,p2⟩:=hr2
   clear hr h6 hΨ
   revert Ψr
   intro Ψ hΨ hΨ'
   (repeat(any_goals(first|((with_reducible refine Q0g ?_ ?_);rfl;intro K hK;simp(disch:=omega) only[go_sem,k5];((repeat(refine ndI (by first|assumption|omega|rfl) ?_));refine hK _ ?_;clear hK K))|(with_reducible first|(refine Q0i ?_;refine hR _ ?_;clear hR R)|((first|refine Q0h ?_|refine Q0c ?_);intro Ψ hΨ hΨ')|(refine Q0b ?_;intro R hR)|(refine hΨ _ ?_;clear hΨ hΨ' Ψ)|refine Q0d ?_|refine Q0j ?_|refine Q0e ?_)|((with_reducible refine hΨ' _ _ ?_ ?_);(focus(simp;done));clear hΨ hΨ' Ψ)|((with_reducible apply Q0f);rfl;rfl;all_goals(intro hc;first|(cases hc;done)|(try simp only at hc)))|((with_reducible refine Q0t ?_ ?_);kernel_rfl;(with_reducible refine hR _ ?_);clear hR R)|((first|((with_reducible apply Q0r);rfl;rfl;rfl;rfl)|((with_reducible apply Q0n);rfl;rfl;rfl)|((first|((with_reducible apply Q0u);rfl;rfl)|((with_reducible apply Q0s);rfl;rfl;rfl;rfl;rfl));(simp(disch:=omega) only[rdE,rdOf,go_sem,k5];rfl);(intro τ hA hQ hN;((try simp only[Q1h,Op.operands,Call.operands,go_sem,k5,go_sem,List.mem_cons,List.not_mem_nil,forall_eq_or_imp,forall_eq,List.append_toArray,Option.toArray] at hA);(try simp only[go_sem,k5,List.mem_cons,List.not_mem_nil,forall_eq_or_imp,forall_eq] at hQ hN);(first|(revert hA;intro hA)|have hA:=trivial);(first|(revert hQ;intro hQ)|have hQ:=trivial);(first|(revert hN;intro hN)|have hN:=trivial);simp(disch:=omega) only[go_sem,k5,go_sem,hA,hQ,hN];(repeat(refine ndI (by first|assumption|omega|rfl) ?_));(first|apply Q1b|apply Q1a|apply Q0w)))));(simp(disch:=omega) only[St.eff,setO,Q0q,go_sem,k5]))|((with_reducible apply Q0o);rfl;rfl;rfl;all_goals intro hb;all_goals(simp(disch:=omega) only[St.eff,setO,Q0q,go_sem,k5]))|((with_reducible refine Q0p ?_ ?_ ?_ ?_);kernel_rfl;kernel_rfl;(first|kernel_rfl|simp[Q0m,Q1j,St.free,Q1i,AV.refsL,AV.refs]);intro R hR))))
   all_goals rw[←p1,←p2]
   all_goals(refine⟨by simp,⟨_,?_,AV.le_refl _⟩,Q0y (by simp[leH,hget])⟩;simp only[Try.results69,resL,ldA,Q1o,go_sem])
end
section
open Go.RowKit Go.Sort
attribute [-go_sem] IntKind.bits
set_option maxRecDepth 20000
set_option maxHeartbeats 2000000
theorem Q5y{n:Nat}(h:1≤n):bitsLen n=bitsLen (n/2)+1:=by
 unfold bitsLen
 rw[if_neg (by omega),Nat.log2_def n]
 by_cases h2:2≤n
 · rw[if_pos h2,if_neg (by omega)]
 · obtain rfl:n=1:=by omega
   rfl
theorem bl_256{n:Nat}(h:256≤n):bitsLen n=8+bitsLen (n/256):=by
 rw[Q5y (n:=n) (by omega),Q5y (n:=n/2) (by omega),Q5y (n:=n/2/2) (by omega),Q5y (n:=n/2/2/2) (by omega),Q5y (n:=n/2/2/2/2) (by omega),Q5y (n:=n/2/2/2/2/2) (by omega),Q5y (n:=n/2/2/2/2/2/2) (by omega),Q5y (n:=n/2/2/2/2/2/2/2) (by omega),show n/2/2/2/2/2/2/2/2=n/256 by omega]
 omega
theorem bl_64k{n:Nat}(h:65536≤n):bitsLen n=16+bitsLen (n/65536):=by
 rw[bl_256 (n:=n) (by omega),bl_256 (n:=n/256) (by omega),show n/256/256=n/65536 by omega]
 omega
theorem tabOf(s:ByteArray)(h:(List.range 256).all (fun m=>s[m]? == some (UInt8.ofNat (bitsLen m)))=true){m:Nat}(hm:m<256):(if 0≤(m:Int) then s[(m:Int).toNat]? else none)=some (UInt8.ofNat (bitsLen m)):=by
 rw[if_pos (by omega),Int.toNat_natCast]
 have:=List.all_eq_true.1 h m (List.mem_range.2 hm)
 exact eq_of_beq this
theorem tab8{m:Nat}(hm:m<256):((UInt8.ofNat (bitsLen m)).toNat:Int)=(bitsLen m:Int)∧bitsLen m≤8:=by
 have:bitsLen m≤8:=(bitsLen_le_iff m 8).2 (by omega)
 refine⟨?_,this⟩
 rw[UInt8.toNat_ofNat']
 omega
theorem len64_fn(n:Nat)(hn:n≤1000000):Fn Try.prog 74 [vi .u64 (n:Int)] [] (vi .i64 (bitsLen n:Int)) []:=by
 have k1:decide ((n:Int)≥4294967296)=false:=decide_eq_false (by omega)
 (refine Q1q Try.func74 rfl (by rfl) ?_;simp only[Try.ntmps74,List.length_cons,List.length_nil,Nat.reduceAdd,Nat.reduceSub,List.replicate,List.cons_append,List.nil_append])
 by_cases h1:65536≤n
 · have k2:decide ((n:Int)≥65536)=true:=decide_eq_true (by omega)
   rw[bl_64k h1]
   obtain⟨m,hm⟩:∃m,n/65536=m:=⟨_,rfl⟩
   have k3:decide ((m:Int)≥256)=false:=decide_eq_false (by omega)
   have wq:(n:Int).fdiv (2 ^ min 16 IntKind.u64.bits)=(m:Int):=by rw[←hm];show(n:Int).fdiv 65536=_;rw[Int.fdiv_eq_ediv_of_nonneg _ (by omega)];omega
   have w8:IntKind.u8.wrap (m:Int)=(m:Int):=by rw[IntKind.wrap_u8];omega
   obtain⟨e8,l8⟩:=tab8 (m:=m) (by omega)
   rw[hm]
   have wd0:(0:Int)+16=16:=rfl
   have wd:(16:Int)+(bitsLen m:Int)=((16+bitsLen m:Nat):Int):=by omega
   (have W:=ndI k1 (ndI k2 (ndI k3 (ndI w8 (ndI wd0 @wrI))));(repeat(any_goals(first|((with_reducible refine Q0g ?_ ?_);rfl;intro K hK;simp(disch:=omega) only[go_sem,W,wq,wd];((repeat(refine ndI (by first|assumption|omega|rfl) ?_));refine hK _ ?_;clear hK K))|(with_reducible first|(refine Q0i ?_;refine hR _ ?_;clear hR R)|((first|refine Q0h ?_|refine Q0c ?_);intro Ψ hΨ hΨ')|(refine Q0b ?_;intro R hR)|(refine hΨ _ ?_;clear hΨ hΨ' Ψ)|refine Q0d ?_|refine Q0j ?_|refine Q0e ?_)|((with_reducible refine hΨ' _ _ ?_ ?_);(focus(simp;done));clear hΨ hΨ' Ψ)|((with_reducible apply Q0f);rfl;rfl;all_goals(intro hc;first|(cases hc;done)|(try simp only at hc)))))))
   all_goals refine Q3t ?_ ?_
   all_goals first|rfl|skip
   intro K hK
   refine Q4v (b:=UInt8.ofNat (bitsLen m)) rfl rfl rfl rfl rfl Try.underlying9 (tabOf _ (by decide +kernel) (by omega)) ?_
   simp only[go_sem,e8]
   refine hK _ ?_
   clear hK K
   (have W:=ndI k1 (ndI k2 (ndI k3 (ndI w8 (ndI wd0 @wrI))));(repeat(any_goals(first|((with_reducible refine Q0g ?_ ?_);rfl;intro K hK;simp(disch:=omega) only[go_sem,W,wq,wd];((repeat(refine ndI (by first|assumption|omega|rfl) ?_));refine hK _ ?_;clear hK K))|(with_reducible first|(refine Q0i ?_;refine hR _ ?_;clear hR R)|((first|refine Q0h ?_|refine Q0c ?_);intro Ψ hΨ hΨ')|(refine Q0b ?_;intro R hR)|(refine hΨ _ ?_;clear hΨ hΨ' Ψ)|refine Q0d ?_|refine Q0j ?_|refine Q0e ?_)|((with_reducible refine hΨ' _ _ ?_ ?_);(focus(simp;done));clear hΨ hΨ' Ψ)|((with_reducible apply Q0f);rfl;rfl;all_goals(intro hc;first|(cases hc;done)|(try simp only at hc)))))))
   (refine⟨by simp,⟨_,?_,AV.le_refl _⟩,Q0y (by simp[leH,hget])⟩;simp only[Try.results74,resL,ldA,Q1o,go_sem])
 have k2:decide ((n:Int)≥65536)=false:=decide_eq_false (by omega)
 by_cases h2:256≤n
 · have k3:decide ((n:Int)≥256)=true:=decide_eq_true (by omega)
   rw[bl_256 h2]
   obtain⟨m,hm⟩:∃m,n/256=m:=⟨_,rfl⟩
   have wq:(n:Int).fdiv (2 ^ min 8 IntKind.u64.bits)=(m:Int):=by rw[←hm];show(n:Int).fdiv 256=_;rw[Int.fdiv_eq_ediv_of_nonneg _ (by omega)];omega
   have w8:IntKind.u8.wrap (m:Int)=(m:Int):=by rw[IntKind.wrap_u8];omega
   obtain⟨e8,l8⟩:=tab8 (m:=m) (by omega)
   rw[hm]
   have wd:(0:Int)+8=8:=rfl
   have wd2:(8:Int)+(bitsLen m:Int)=((8+bitsLen m:Nat):Int):=by omega
   (have W:=ndI k1 (ndI k2 (ndI k3 (ndI w8 (ndI wd2 @wrI))));(repeat(any_goals(first|((with_reducible refine Q0g ?_ ?_);rfl;intro K hK;simp(disch:=omega) only[go_sem,W,wq,wd];((repeat(refine ndI (by first|assumption|omega|rfl) ?_));refine hK _ ?_;clear hK K))|(with_reducible first|(refine Q0i ?_;refine hR _ ?_;clear hR R)|((first|refine Q0h ?_|refine Q0c ?_);intro Ψ hΨ hΨ')|(refine Q0b ?_;intro R hR)|(refine hΨ _ ?_;clear hΨ hΨ' Ψ)|refine Q0d ?_|refine Q0j ?_|refine Q0e ?_)|((with_reducible refine hΨ' _ _ ?_ ?_);(focus(simp;done));clear hΨ hΨ' Ψ)|((with_reducible apply Q0f);rfl;rfl;all_goals(intro hc;first|(cases hc;done)|(try simp only at hc)))))))
   all_goals refine Q3t ?_ ?_
   all_goals first|rfl|skip
   intro K hK
   refine Q4v (b:=UInt8.ofNat (bitsLen m)) rfl rfl rfl rfl rfl Try.underlying9 (tabOf _ (by decide +kernel) (by omega)) ?_
   simp only[go_sem,e8]
   refine hK _ ?_
   clear hK K
   (have W:=ndI k1 (ndI k2 (ndI k3 (ndI w8 (ndI wd2 @wrI))));(repeat(any_goals(first|((with_reducible refine Q0g ?_ ?_);rfl;intro K hK;simp(disch:=omega) only[go_sem,W,wq,wd];((repeat(refine ndI (by first|assumption|omega|rfl) ?_));refine hK _ ?_;clear hK K))|(with_reducible first|(refine Q0i ?_;refine hR _ ?_;clear hR R)|((first|refine Q0h ?_|refine Q0c ?_);intro Ψ hΨ hΨ')|(refine Q0b ?_;intro R hR)|(refine hΨ _ ?_;clear hΨ hΨ' Ψ)|refine Q0d ?_|refine Q0j ?_|refine Q0e ?_)|((with_reducible refine hΨ' _ _ ?_ ?_);(focus(simp;done));clear hΨ hΨ' Ψ)|((with_reducible apply Q0f);rfl;rfl;all_goals(intro hc;first|(cases hc;done)|(try simp only at hc)))))))
   (refine⟨by simp,⟨_,?_,AV.le_refl _⟩,Q0y (by simp[leH,hget])⟩;simp only[Try.results74,resL,ldA,Q1o,go_sem])
 · have k3:decide ((n:Int)≥256)=false:=decide_eq_false (by omega)
   obtain⟨m,rfl⟩:∃m,n=m:=⟨_,rfl⟩
   have w8:IntKind.u8.wrap (n:Int)=(n:Int):=by rw[IntKind.wrap_u8];omega
   obtain⟨e8,l8⟩:=tab8 (m:=n) (by omega)
   have wd:(0:Int)+(bitsLen n:Int)=(bitsLen n:Int):=by omega
   (have W:=ndI k1 (ndI k2 (ndI k3 (ndI w8 @wrI)));(repeat(any_goals(first|((with_reducible refine Q0g ?_ ?_);rfl;intro K hK;simp(disch:=omega) only[go_sem,W,wd];((repeat(refine ndI (by first|assumption|omega|rfl) ?_));refine hK _ ?_;clear hK K))|(with_reducible first|(refine Q0i ?_;refine hR _ ?_;clear hR R)|((first|refine Q0h ?_|refine Q0c ?_);intro Ψ hΨ hΨ')|(refine Q0b ?_;intro R hR)|(refine hΨ _ ?_;clear hΨ hΨ' Ψ)|refine Q0d ?_|refine Q0j ?_|refine Q0e ?_)|((with_reducible refine hΨ' _ _ ?_ ?_);(focus(simp;done));clear hΨ hΨ' Ψ)|((with_reducible apply Q0f);rfl;rfl;all_goals(intro hc;first|(cases hc;done)|(try simp only at hc)))))))
   all_goals refine Q3t ?_ ?_
   all_goals first|rfl|skip
   intro K hK
   refine Q4v (b:=UInt8.ofNat (bitsLen n)) rfl rfl rfl rfl rfl Try.underlying9 (tabOf _ (by decide +kernel) (by omega)) ?_
   simp only[go_sem,e8]
   refine hK _ ?_
   clear hK K
   (have W:=ndI k1 (ndI k2 (ndI k3 (ndI w8 @wrI)));(repeat(any_goals(first|((with_reducible refine Q0g ?_ ?_);rfl;intro K hK;simp(disch:=omega) only[go_sem,W,wd];((repeat(refine ndI (by first|assumption|omega|rfl) ?_));refine hK _ ?_;clear hK K))|(with_reducible first|(refine Q0i ?_;refine hR _ ?_;clear hR R)|((first|refine Q0h ?_|refine Q0c ?_);intro Ψ hΨ hΨ')|(refine Q0b ?_;intro R hR)|(refine hΨ _ ?_;clear hΨ hΨ' Ψ)|refine Q0d ?_|refine Q0j ?_|refine Q0e ?_)|((with_reducible refine hΨ' _ _ ?_ ?_);(focus(simp;done));clear hΨ hΨ' Ψ)|((with_reducible apply Q0f);rfl;rfl;all_goals(intro hc;first|(cases hc;done)|(try simp only at hc)))))))
   (refine⟨by simp,⟨_,?_,AV.le_refl _⟩,Q0y (by simp[leH,hget])⟩;simp only[Try.results74,resL,ldA,Q1o,go_sem])
theorem len_fn(n:Nat)(hn:n≤1000000):Fn Try.prog 53 [vi .u64 (n:Int)] [] (vi .i64 (bitsLen n:Int)) []:=by
 have g:=len64_fn n hn
 (refine Q1q Try.func53 rfl (by rfl) ?_;simp only[Try.ntmps53,List.length_cons,List.length_nil,Nat.reduceAdd,Nat.reduceSub,List.replicate,List.cons_append,List.nil_append])
 (repeat(any_goals(first|((with_reducible refine Q1d ?_ ?_ ?_);rfl;rfl;intro K hK;((apply Q0x (g);rfl;rfl;rfl;rfl;exact Try.func74);kernel_rfl;rfl;(focus((simp(disch:=omega) only[go_sem]);(try rfl);done));(first|rfl|simp[AV.inNL,AV.inN]));(simp(disch:=omega) only[go_sem];refine hK _ ?_;clear hK K))|((with_reducible refine Q0g ?_ ?_);rfl;intro K hK;simp(disch:=omega) only[go_sem];((repeat(refine ndI (by first|assumption|omega|rfl) ?_));refine hK _ ?_;clear hK K))|(with_reducible first|(refine Q0i ?_;refine hR _ ?_;clear hR R)|((first|refine Q0h ?_|refine Q0c ?_);intro Ψ hΨ hΨ')|(refine Q0b ?_;intro R hR)|(refine hΨ _ ?_;clear hΨ hΨ' Ψ)|refine Q0d ?_|refine Q0j ?_|refine Q0e ?_)|((with_reducible refine hΨ' _ _ ?_ ?_);(focus(simp;done));clear hΨ hΨ' Ψ)|((with_reducible apply Q0f);rfl;rfl;all_goals(intro hc;first|(cases hc;done)|(try simp only at hc))))))
 (refine⟨by simp,⟨_,?_,AV.le_refl _⟩,Q0y (by simp[leH,hget])⟩;simp only[Try.results53,resL,ldA,Q1o,go_sem])
theorem shl_len{l:Nat}(h:l≤20):IntKind.u64.wrap (1*2 ^ min l IntKind.u64.bits)=((1 <<< l:Nat):Int):=by
 have e:min l IntKind.u64.bits=l:=by show min l 64=l;omega
 have h2:(2:Nat) ^ l≤2 ^ 20:=Nat.pow_le_pow_right (by decide) h
 rw[e,Nat.one_shiftLeft,IntKind.wrap_u64,show((1:Int)*2 ^ l)=((2 ^ l:Nat):Int) by push_cast;omega]
 generalize (2:Nat) ^ l=p at h2
 omega
theorem pow_fn(n:Nat)(hn:n≤1000000):Fn Try.prog 85 [vi .i64 (n:Int)] [] (vi .u64 ((1 <<< bitsLen n:Nat):Int)) []:=by
 have g:=len_fn n hn
 have h2:bitsLen n≤20:=(bitsLen_le_iff n 20).2 (by omega)
 have w1:IntKind.u64.wrap (n:Int)=(n:Int):=by rw[IntKind.wrap_u64];omega
 have w2:=shl_len h2
 generalize bitsLen n=l at *
 have h0:(0:Int)≤(l:Int):=by omega
 generalize (1 <<< l:Nat)=M at *
 (refine Q1q Try.func85 rfl (by rfl) ?_;simp only[Try.ntmps85,List.length_cons,List.length_nil,Nat.reduceAdd,Nat.reduceSub,List.replicate,List.cons_append,List.nil_append])
 (have W:=ndI w1 (ndI w2 h0);(repeat(any_goals(first|((with_reducible refine Q1d ?_ ?_ ?_);rfl;rfl;intro K hK;((apply Q0x (g);rfl;rfl;rfl;rfl;exact Try.func53);kernel_rfl;rfl;(focus((simp(disch:=omega) only[go_sem,W]);(try rfl);done));(first|rfl|simp[AV.inNL,AV.inN]));(simp(disch:=omega) only[go_sem,W];refine hK _ ?_;clear hK K))|((with_reducible refine Q0g ?_ ?_);rfl;intro K hK;simp(disch:=omega) only[go_sem,W];((repeat(refine ndI (by first|assumption|omega|rfl) ?_));refine hK _ ?_;clear hK K))|(with_reducible first|(refine Q0i ?_;refine hR _ ?_;clear hR R)|((first|refine Q0h ?_|refine Q0c ?_);intro Ψ hΨ hΨ')|(refine Q0b ?_;intro R hR)|(refine hΨ _ ?_;clear hΨ hΨ' Ψ)|refine Q0d ?_|refine Q0j ?_|refine Q0e ?_)|((with_reducible refine hΨ' _ _ ?_ ?_);(focus(simp;done));clear hΨ hΨ' Ψ)|((with_reducible apply Q0f);rfl;rfl;all_goals(intro hc;first|(cases hc;done)|(try simp only at hc)))))))
 (refine⟨by simp,⟨_,?_,AV.le_refl _⟩,Q0y (by simp[leH,hget])⟩;simp only[Try.results85,resL,ldA,Q1o,go_sem])
theorem xorN{a b:Nat}(ha:a<18446744073709551616)(hb:b<18446744073709551616):IntKind.u64.wrap ((BitVec.ofInt IntKind.u64.bits (a:Int) ^^^ BitVec.ofInt IntKind.u64.bits (b:Int)).toNat:Int)=((a ^^^ b:Nat):Int):=by
 show IntKind.u64.wrap ((BitVec.ofInt 64 (a:Int) ^^^ BitVec.ofInt 64 (b:Int)).toNat:Int)=_
 rw[BitVec.toNat_xor,BitVec.toNat_ofInt,BitVec.toNat_ofInt,show((a:Int)%((2 ^ 64:Nat):Int)).toNat=a by omega,show((b:Int)%((2 ^ 64:Nat):Int)).toNat=b by omega,IntKind.wrap_u64]
 have:a ^^^ b<2 ^ 64:=Nat.xor_lt_two_pow ha hb
 omega
theorem andN{a b:Nat}(ha:a<18446744073709551616)(hb:b<18446744073709551616):IntKind.u64.wrap ((BitVec.ofInt IntKind.u64.bits (a:Int) &&& BitVec.ofInt IntKind.u64.bits (b:Int)).toNat:Int)=((a &&& b:Nat):Int):=by
 show IntKind.u64.wrap ((BitVec.ofInt 64 (a:Int) &&& BitVec.ofInt 64 (b:Int)).toNat:Int)=_
 rw[BitVec.toNat_and,BitVec.toNat_ofInt,BitVec.toNat_ofInt,show((a:Int)%((2 ^ 64:Nat):Int)).toNat=a by omega,show((b:Int)%((2 ^ 64:Nat):Int)).toNat=b by omega,IntKind.wrap_u64]
 have:a &&& b≤a:=Nat.and_le_left
 omega
theorem next_fn(x:Nat)(hx:x<18446744073709551616):Fn Try.prog 86 [.ptr 1000 0] [(1000,[vi .u64 (x:Int)])] (vi .u64 (xorNextN x:Int)) [(1000,[vi .u64 (xorNextN x:Int)])]:=by
 obtain⟨a0,ha0⟩:∃a,x*8192%18446744073709551616=a:=⟨_,rfl⟩
 have l0:a0<18446744073709551616:=by omega
 have e0:IntKind.u64.wrap ((x:Int)*2 ^ min 13 IntKind.u64.bits)=(a0:Int):=by show IntKind.u64.wrap ((x:Int)*8192)=_;rw[IntKind.wrap_u64];omega
 obtain⟨a,ha⟩:∃a,x ^^^ a0=a:=⟨_,rfl⟩
 have la:a<18446744073709551616:=by rw[←ha];exact Nat.xor_lt_two_pow (n:=64) hx l0
 have e1:=xorN hx l0
 rw[ha] at e1
 obtain⟨b0,hb0⟩:∃b,a/128=b:=⟨_,rfl⟩
 have e2:(a:Int).fdiv (2 ^ min 7 IntKind.u64.bits)=(b0:Int):=by show(a:Int).fdiv 128=_;rw[Int.fdiv_eq_ediv_of_nonneg _ (by omega)];omega
 have lb0:b0<18446744073709551616:=by omega
 obtain⟨b,hb⟩:∃b,a ^^^ b0=b:=⟨_,rfl⟩
 have lb:b<18446744073709551616:=by rw[←hb];exact Nat.xor_lt_two_pow (n:=64) la lb0
 have e3:=xorN la lb0
 rw[hb] at e3
 obtain⟨c0,hc0⟩:∃c,b*131072%18446744073709551616=c:=⟨_,rfl⟩
 have lc0:c0<18446744073709551616:=by omega
 have e4:IntKind.u64.wrap ((b:Int)*2 ^ min 17 IntKind.u64.bits)=(c0:Int):=by show IntKind.u64.wrap ((b:Int)*131072)=_;rw[IntKind.wrap_u64];omega
 obtain⟨c,hc0'⟩:∃c,b ^^^ c0=c:=⟨_,rfl⟩
 have e5:=xorN lb lc0
 rw[hc0'] at e5
 have er:xorNextN x=c:=by unfold xorNextN;simp only[];rw[ha0,ha,hb0,hb,hc0,hc0']
 rw[er]
 clear er ha0 ha hb0 hb hc0 hc0'
 (refine Q1q Try.func86 rfl (by rfl) ?_;simp only[Try.ntmps86,List.length_cons,List.length_nil,Nat.reduceAdd,Nat.reduceSub,List.replicate,List.cons_append,List.nil_append])
 (have W:=ndI e0 (ndI e1 (ndI e2 (ndI e3 (ndI e4 e5))));(repeat(any_goals(first|((with_reducible refine Q0g ?_ ?_);rfl;intro K hK;simp(disch:=omega) only[go_sem,W];((repeat(refine ndI (by first|assumption|omega|rfl) ?_));refine hK _ ?_;clear hK K))|(with_reducible first|(refine Q0i ?_;refine hR _ ?_;clear hR R)|((first|refine Q0h ?_|refine Q0c ?_);intro Ψ hΨ hΨ')|(refine Q0b ?_;intro R hR)|(refine hΨ _ ?_;clear hΨ hΨ' Ψ)|refine Q0d ?_|refine Q0j ?_|refine Q0e ?_)|((with_reducible refine hΨ' _ _ ?_ ?_);(focus(simp;done));clear hΨ hΨ' Ψ)|((with_reducible apply Q0f);rfl;rfl;all_goals(intro hc;first|(cases hc;done)|(try simp only at hc)))|((with_reducible refine Q0t ?_ ?_);kernel_rfl;(with_reducible refine hR _ ?_);clear hR R)|(((with_reducible apply Q0u);rfl;rfl;(simp(disch:=omega) only[rdE,rdOf,go_sem,W];rfl);(intro τ hA hQ hN;((try simp only[Q1h,Op.operands,Call.operands,go_sem,W,go_sem,List.mem_cons,List.not_mem_nil,forall_eq_or_imp,forall_eq,List.append_toArray,Option.toArray] at hA);(try simp only[go_sem,W,List.mem_cons,List.not_mem_nil,forall_eq_or_imp,forall_eq] at hQ hN);(first|(revert hA;intro hA)|have hA:=trivial);(first|(revert hQ;intro hQ)|have hQ:=trivial);(first|(revert hN;intro hN)|have hN:=trivial);simp(disch:=omega) only[go_sem,W,go_sem,hA,hQ,hN];(repeat(refine ndI (by first|assumption|omega|rfl) ?_));(first|apply Q1b|apply Q1a|apply Q0w))));(simp(disch:=omega) only[St.eff,setO,Q0q,go_sem,W]))|((with_reducible refine Q0p ?_ ?_ ?_ ?_);kernel_rfl;kernel_rfl;(first|kernel_rfl|simp[Q0m,Q1j,St.free,Q1i,AV.refsL,AV.refs]);intro R hR)))))
 (refine⟨by simp,⟨_,?_,AV.le_refl _⟩,Q0y (by simp[leH,hget])⟩;simp only[Try.results86,resL,ldA,Q1o,go_sem])
end
section
open Go.RowKit
open Nat (reduceBEq)
open Go.Sort (bitsLen xorNext xorNextN breakStep bitsLen_le_iff)
attribute [-go_sem] IntKind.bits
set_option maxRecDepth 20000
set_option maxHeartbeats 2000000
attribute [local simp] Q0l Q0a Q0k
def bpGo(a L M i0:Nat):Nat→Nat→UInt64×Array Int→Array Int
 |0,_,st=>st.2
 |k+1,t,st=>bpGo a L M i0 k (t+1) (breakStep a L M st (i0+t))
theorem bp_eq(d:Array Int)(a b:Nat)(h:b-a≥8):Sort.breakPatterns d a b=bpGo a (b-a) (1 <<< bitsLen (b-a)) (a+(b-a)/4*2-1) 3 0 (UInt64.ofNat (b-a),d):=by
 unfold Sort.breakPatterns
 rw[if_pos h]
 rfl
theorem bp_no(d:Array Int)(a b:Nat)(h:¬b-a≥8):Sort.breakPatterns d a b=d:=by
 unfold Sort.breakPatterns
 rw[if_neg h]
abbrev stBk(d:Array Int)(n a b l M t i0:Nat)(x:UInt64):St:=⟨[.row 1000 adT 1 n,vi .i64 (a:Int),vi .i64 (b:Int),.any,.any,.any,vi .i64 (l:Int),.ptr 7 0,vi .u64 (M:Int),vi .i64 ((i0+t:Nat):Int),.any,.any,.any,.any,.any,.any,.any,.any,.any,.any,.any,.any,.any,.any,.any,.any,.any,.any,.any,.any,.any,.any,.any,.any,.any,.any,.any,.any,.any,.any,.any,.any,.any,.any,.any,.any,.any,.any,.any,.any,.any,.any,.any,.any,.any,.any,.any,.any,.any,.any,.any,.any,.any,.any,.any],[(1000,rI d),(7,[vi .u64 (x.toNat:Int)])]⟩
theorem brk_fn(n a b:Nat)(hab:a≤b)(hb:b≤n)(hn:n≤1000000)(d0:Array Int)(h0:d0.size=n):Fn Try.prog 66 [.row 1000 adT 1 n,vi .i64 (a:Int),vi .i64 (b:Int)] [(1000,rI d0)] (.tup []) [(1000,rI (Sort.breakPatterns d0 a b))]:=by
 obtain⟨l,hl⟩:∃l,b-a=l:=⟨_,rfl⟩
 have w1:(b:Int)-(a:Int)=(l:Int):=by omega
 by_cases h8:l≥8
 rotate_left
 · rw[bp_no d0 a b (by omega)]
   have k1:decide ((l:Int)≥8)=false:=decide_eq_false (by omega)
   (refine Q1q Try.func66 rfl (by rfl) ?_;simp only[Try.ntmps66,List.length_cons,List.length_nil,Nat.reduceAdd,Nat.reduceSub,List.replicate,List.cons_append,List.nil_append])
   (have W:=ndI k1 (ndI w1 @wrI);(repeat(any_goals(first|((with_reducible refine Q0g ?_ ?_);rfl;intro K hK;simp(disch:=omega) only[go_sem,W];((repeat(refine ndI (by first|assumption|omega|rfl) ?_));refine hK _ ?_;clear hK K))|(with_reducible first|(refine Q0i ?_;refine hR _ ?_;clear hR R)|((first|refine Q0h ?_|refine Q0c ?_);intro Ψ hΨ hΨ')|(refine Q0b ?_;intro R hR)|(refine hΨ _ ?_;clear hΨ hΨ' Ψ)|refine Q0d ?_|refine Q0j ?_|refine Q0e ?_)|((with_reducible refine hΨ' _ _ ?_ ?_);(focus(simp;done));clear hΨ hΨ' Ψ)|((with_reducible apply Q0f);rfl;rfl;all_goals(intro hc;first|(cases hc;done)|(try simp only at hc)))|((with_reducible refine Q0t ?_ ?_);kernel_rfl;(with_reducible refine hR _ ?_);clear hR R)|(((with_reducible apply Q0u);rfl;rfl;(simp(disch:=omega) only[rdE,rdOf,go_sem,W];rfl);(intro τ hA hQ hN;((try simp only[Q1h,Op.operands,Call.operands,go_sem,W,go_sem,List.mem_cons,List.not_mem_nil,forall_eq_or_imp,forall_eq,List.append_toArray,Option.toArray] at hA);(try simp only[go_sem,W,List.mem_cons,List.not_mem_nil,forall_eq_or_imp,forall_eq] at hQ hN);(first|(revert hA;intro hA)|have hA:=trivial);(first|(revert hQ;intro hQ)|have hQ:=trivial);(first|(revert hN;intro hN)|have hN:=trivial);simp(disch:=omega) only[go_sem,W,go_sem,hA,hQ,hN];(repeat(refine ndI (by first|assumption|omega|rfl) ?_));(first|apply Q1b|apply Q1a|apply Q0w))));(simp(disch:=omega) only[St.eff,setO,Q0q,go_sem,W]))|((with_reducible refine Q0p ?_ ?_ ?_ ?_);kernel_rfl;kernel_rfl;(first|kernel_rfl|simp[Q0m,Q1j,St.free,Q1i,AV.refsL,AV.refs]);intro R hR)))))
   (refine⟨by simp,⟨_,?_,AV.le_refl _⟩,Q0y (by simp[leH,hget])⟩;simp only[Try.results66,resL,ldA,Q1o,go_sem])
 have k1:decide ((l:Int)≥8)=true:=decide_eq_true (by omega)
 rw[bp_eq d0 a b (by omega),hl]
 have gp:=pow_fn l (by omega)
 have hM1:bitsLen l≤20:=(bitsLen_le_iff l 20).2 (by omega)
 have hM2:=Sort.two_pow_bitsLen_le (n:=l) (by omega)
 obtain⟨M,hM⟩:∃M,1 <<< bitsLen l=M:=⟨_,rfl⟩
 rw[hM] at gp ⊢
 rw[←Nat.one_shiftLeft,hM] at hM2
 have hM0:1≤M:=by rw[←hM,Nat.one_shiftLeft];exact Nat.two_pow_pos _
 clear hM hM1
 obtain⟨i0,hi0⟩:∃i,a+l/4*2-1=i:=⟨_,rfl⟩
 rw[hi0]
 have w2:IntKind.u64.wrap (l:Int)=(l:Int):=by rw[IntKind.wrap_u64];omega
 obtain⟨q1,hq1⟩:∃q,l/4=q:=⟨_,rfl⟩
 obtain⟨q2,hq2⟩:∃q,q1*2=q:=⟨_,rfl⟩
 obtain⟨q3,hq3⟩:∃q,a+q2=q:=⟨_,rfl⟩
 have w3:(l:Int).tdiv 4=(q1:Int):=by rw[Int.tdiv_eq_ediv_of_nonneg (by omega)];omega
 have w4:(q1:Int)*2=(q2:Int):=by omega
 have w5:(a:Int)+(q2:Int)=(q3:Int):=by omega
 have w6:(q3:Int)-1=(i0:Int):=by omega
 have w7:(q3:Int)+1=((q3+1:Nat):Int):=by omega
 have b1:l≤1000000:=by omega
 have b2:q2≤1000000:=by omega
 have b3:q3≤2000000:=by omega
 have b4:q1≤1000000:=by omega
 have b5:M≤2000000:=by omega
 have b6:i0≤2000000:=by omega
 have b7:i0=q3-1:=by omega
 have b8:i0+3≤b:=by omega
 have b9:a≤i0:=by omega
 have Hi:=hide b7
 have Hb:=hide (show 1≤q3 by omega)
 have Hl:=hide hl
 have Hm:=hide hM2
 have H8:=hide b8
 have H9:=hide b9
 have Ha:=hide hab
 have Hc:=hide w2
 have Hd:=hide w3
 clear w2 w3 hq1 hq2 hq3 hi0 b7 b8 b9 hl hM2 hab
 have a1:a≤1000000:=Nat.le_trans Ha.out (Nat.le_trans hb hn)
 obtain⟨x0,hx0⟩:∃x,UInt64.ofNat l=x:=⟨_,rfl⟩
 have wl:l=x0.toNat:=by rw[←hx0,UInt64.toNat_ofNat'];omega
 rw[hx0]
 obtain⟨res,hres⟩:∃q,bpGo a l M i0 3 0 (x0,d0)=q:=⟨_,rfl⟩
 rw[hres]
 clear hx0
 have HR:=fun (_:1=1)=>hres
 have HW:=fun (_:1=1)=>wl
 clear hres wl
 (refine Q1q Try.func66 rfl (by rfl) ?_;simp only[Try.ntmps66,List.length_cons,List.length_nil,Nat.reduceAdd,Nat.reduceSub,List.replicate,List.cons_append,List.nil_append])
 (have W:=ndI k1 (ndI w1 (ndI w4 (ndI w5 (ndI w6 (ndI w7 @wrI)))));(repeat(any_goals(first|((with_reducible refine Q1d ?_ ?_ ?_);rfl;rfl;intro K hK;((apply Q0x (gp);rfl;rfl;rfl;rfl;exact Try.func85);kernel_rfl;rfl;(focus((simp(disch:=omega) only[go_sem,W,Hc.out,Hd.out,Q0a]);(try rfl);done));(first|rfl|simp[AV.inNL,AV.inN]));(simp(disch:=omega) only[go_sem,W,Hc.out,Hd.out,Q0a];refine hK _ ?_;clear hK K))|((with_reducible refine Q0g ?_ ?_);rfl;intro K hK;simp(disch:=omega) only[go_sem,W,Hc.out,Hd.out,Q0a];((repeat(refine ndI (by first|assumption|omega|rfl) ?_));refine hK _ ?_;clear hK K))|(with_reducible first|(refine Q0i ?_;refine hR _ ?_;clear hR R)|((first|refine Q0h ?_|refine Q0c ?_);intro Ψ hΨ hΨ')|(refine Q0b ?_;intro R hR)|(refine hΨ _ ?_;clear hΨ hΨ' Ψ)|refine Q0d ?_|refine Q0j ?_|refine Q0e ?_)|((with_reducible refine hΨ' _ _ ?_ ?_);(focus(simp;done));clear hΨ hΨ' Ψ)|((with_reducible apply Q0f);rfl;rfl;all_goals(intro hc;first|(cases hc;done)|(try simp only at hc)))|((with_reducible refine Q0t ?_ ?_);kernel_rfl;(with_reducible refine hR _ ?_);clear hR R)|(((with_reducible apply Q0u);rfl;rfl;(simp(disch:=omega) only[rdE,rdOf,go_sem,W,Hc.out,Hd.out,Q0a];rfl);(intro τ hA hQ hN;((try simp only[Q1h,Op.operands,Call.operands,go_sem,W,Hc.out,Hd.out,Q0a,go_sem,List.mem_cons,List.not_mem_nil,forall_eq_or_imp,forall_eq,List.append_toArray,Option.toArray] at hA);(try simp only[go_sem,W,Hc.out,Hd.out,Q0a,List.mem_cons,List.not_mem_nil,forall_eq_or_imp,forall_eq] at hQ hN);(first|(revert hA;intro hA)|have hA:=trivial);(first|(revert hQ;intro hQ)|have hQ:=trivial);(first|(revert hN;intro hN)|have hN:=trivial);simp(disch:=omega) only[go_sem,W,Hc.out,Hd.out,Q0a,go_sem,hA,hQ,hN];(repeat(refine ndI (by first|assumption|omega|rfl) ?_));(first|apply Q1b|apply Q1a|apply Q0w))));(simp(disch:=omega) only[St.eff,setO,Q0q,go_sem,W,Hc.out,Hd.out,Q0a]))|((with_reducible refine Q0p ?_ ?_ ?_ ?_);kernel_rfl;kernel_rfl;(first|kernel_rfl|simp[Q0m,Q1j,St.free,Q1i,AV.refsL,AV.refs]);intro R hR)))))
 refine Q2v (α:={q:(Nat×UInt64)×Array Int // q.1.1≤3∧q.2.size=n∧bpGo a l M i0 (3-q.1.1) q.1.1 (q.1.2,q.2)=res}) (fun q=>stBk q.1.2 n a b l M q.1.1.1 i0 q.1.1.2) (fun q=>3-q.1.1.1) ⟨((0,x0),d0),by dsimp only;omega,h0,HR rfl⟩ (by have e:=HW rfl;subst e;exact St.le_of (by simp[leT]) (by simp[leH,hget])) ?_
 rintro ⟨⟨⟨t,x⟩,d⟩,g1,hs,hr⟩ Ψ hΨ hΨ'
 (try dsimp only at g1 hs hr hΨ ⊢)
 clear HR HW
 rcases Nat.lt_or_ge t 3 with h3|h3
 rotate_left
 · obtain rfl:t=3:=by omega
   have k2:decide (((i0+3:Nat):Int)≤((q3+1:Nat):Int))=false:=decide_eq_false (by have:=Hi.out;have:=Hb.out;omega)
   have e:res=d:=hr.symm
   subst e
   clear hr
   (have W:=ndI k2 (ndI w1 (ndI w4 (ndI w5 (ndI w6 (ndI w7 @wrI)))));(repeat(any_goals(first|((with_reducible refine Q0g ?_ ?_);rfl;intro K hK;simp(disch:=omega) only[go_sem,W,Hc.out,Hd.out,Q0a,Nat.mul_one];((repeat(refine ndI (by first|assumption|omega|rfl) ?_));refine hK _ ?_;clear hK K))|(with_reducible first|(refine Q0i ?_;refine hR _ ?_;clear hR R)|((first|refine Q0h ?_|refine Q0c ?_);intro Ψ hΨ hΨ')|(refine Q0b ?_;intro R hR)|(refine hΨ _ ?_;clear hΨ hΨ' Ψ)|refine Q0d ?_|refine Q0j ?_|refine Q0e ?_)|((with_reducible refine hΨ' _ _ ?_ ?_);(focus(simp;done));clear hΨ hΨ' Ψ)|((with_reducible apply Q0f);rfl;rfl;all_goals(intro hc;first|(cases hc;done)|(try simp only at hc)))|((with_reducible refine Q0t ?_ ?_);kernel_rfl;(with_reducible refine hR _ ?_);clear hR R)|(((with_reducible apply Q0u);rfl;rfl;(simp(disch:=omega) only[rdE,rdOf,go_sem,W,Hc.out,Hd.out,Q0a,Nat.mul_one];rfl);(intro τ hA hQ hN;((try simp only[Q1h,Op.operands,Call.operands,go_sem,W,Hc.out,Hd.out,Q0a,Nat.mul_one,go_sem,List.mem_cons,List.not_mem_nil,forall_eq_or_imp,forall_eq,List.append_toArray,Option.toArray] at hA);(try simp only[go_sem,W,Hc.out,Hd.out,Q0a,Nat.mul_one,List.mem_cons,List.not_mem_nil,forall_eq_or_imp,forall_eq] at hQ hN);(first|(revert hA;intro hA)|have hA:=trivial);(first|(revert hQ;intro hQ)|have hQ:=trivial);(first|(revert hN;intro hN)|have hN:=trivial);simp(disch:=omega) only[go_sem,W,Hc.out,Hd.out,Q0a,Nat.mul_one,go_sem,hA,hQ,hN];(repeat(refine ndI (by first|assumption|omega|rfl) ?_));(first|apply Q1b|apply Q1a|apply Q0w))));(simp(disch:=omega) only[St.eff,setO,Q0q,go_sem,W,Hc.out,Hd.out,Q0a,Nat.mul_one]))|((with_reducible refine Q0p ?_ ?_ ?_ ?_);kernel_rfl;kernel_rfl;(first|kernel_rfl|simp[Q0m,Q1j,St.free,Q1i,AV.refsL,AV.refs]);intro R hR)))))
   all_goals(refine⟨by simp,⟨_,?_,AV.le_refl _⟩,Q0y (by simp[leH,hget])⟩;simp only[Try.results66,resL,ldA,Q1o,go_sem])
 · have k2:decide (((i0+t:Nat):Int)≤((q3+1:Nat):Int))=true:=decide_eq_true (by have:=Hi.out;have:=Hb.out;omega)
   obtain⟨y,hy⟩:∃y,xorNext x=y:=⟨_,rfl⟩
   have gn:=next_fn x.toNat x.toNat_lt
   rw[←Sort.xorNext_toNat,hy] at gn
   obtain⟨o0,ho0⟩:∃o,y.toNat &&& (M-1)=o:=⟨_,rfl⟩
   have bo0:o0≤M-1:=by rw[←ho0];exact Nat.and_le_right
   have hr2:bpGo a l M i0 (3-(t+1)) (t+1) (y,Sort.swp d (i0+t) (a+if o0≥l then o0-l else o0))=res:=by
    rw[←hr,show 3-t=(3-(t+1))+1 by omega,bpGo,breakStep]
    simp only[hy,ho0]
   have an:=andN (a:=y.toNat) (b:=M-1) y.toNat_lt (by omega)
   rw[ho0] at an
   have Hx:=hide an
   have um:IntKind.u64.wrap ((M:Int)-1)=((M-1:Nat):Int):=by rw[IntKind.wrap_u64];omega
   have Hu:=hide um
   clear an um hr hy ho0
   have w12:((i0+t:Nat):Int)+1=((i0+(t+1):Nat):Int):=by omega
   have bm:=Hm.out
   have bo1:o0<2*l:=by omega
   clear bm
   by_cases h3:o0≥l
   · have k3:decide ((o0:Int)≥(l:Int))=true:=decide_eq_true (by omega)
     obtain⟨o,ho⟩:∃o,o0-l=o:=⟨_,rfl⟩
     have w10:(o0:Int)-(l:Int)=(o:Int):=by omega
     rw[if_pos h3,ho] at hr2
     have bo:a+o<n:=by have:=Hl.out;have:=Ha.out;omega
     have w11:(a:Int)+(o:Int)=((a+o:Nat):Int):=by omega
     have b10:a+o≤2000000:=by omega
     have hs9:(Sort.swp d (i0+t) (a+o)).size=n:=by rw[Q2m];exact hs
     have hΨ1:∀σ':St,σ'.le (stBk (Sort.swp d (i0+t) (a+o)) n a b l M (t+1) i0 y)→Ψ .normal σ':=fun σ' h=>hΨ σ' ⟨((t+1,y),Sort.swp d (i0+t) (a+o)),by dsimp only;omega,hs9,hr2⟩ (by dsimp only;omega) h
     clear hΨ hr2 hs9
     have a2:=H8.out
     have bi:i0+t<n:=by omega
     have z0:=Q1z d
     rw[hs] at z0
     have z1:=Q2o d (j:=(i0+t)) (by omega)
     have z2:=Q2o d (j:=a+o) (by omega)
     obtain⟨t1,t2⟩:=Q3p d (i:=(i0+t)) (j:=a+o) (by omega) (by omega)
     have z4:(rI (d.setIfInBounds (i0+t) d[a+o]!)).length=n:=by rw[Q1z,Array.size_setIfInBounds];exact hs
     generalize d.setIfInBounds (i0+t) d[a+o]! = e1 at t1 t2 z4
     generalize d[(i0+t)]! = zi at *
     generalize d[a+o]! = zj at *
     generalize Sort.swp d (i0+t) (a+o)=e9 at *
     clear a2
     (have W:=ndI k1 (ndI k2 (ndI k3 (ndI w1 (ndI w4 (ndI w5 (ndI w6 (ndI w7 (ndI w10 (ndI w11 (ndI w12 (ndI z0 (ndI z1 (ndI z2 (ndI z4 (ndI t1 (ndI t2 @wrI))))))))))))))));(repeat(any_goals(first|((with_reducible refine Q1d ?_ ?_ ?_);rfl;rfl;intro K hK;(apply Q1n (gn) (fun r=>if r=1000 then 7 else r);rfl;rfl;rfl;rfl;exact Try.func86;kernel_rfl;rfl;rfl;(intro r hr q hq h;simp(disch:=omega) only[List.map_cons,List.map_nil,List.cons_append,List.nil_append,List.mem_cons,List.not_mem_nil,or_false] at hr hq;(try dsimp only at h);first|omega|(rcases hr with rfl|rfl|rfl<;>rcases hq with rfl|rfl|rfl<;>simp at h ⊢)|(rcases hr with rfl|rfl<;>rcases hq with rfl|rfl<;>simp at h ⊢)|((repeat' split at h)<;>omega));(simp(disch:=omega) only[Q1t,Q2h,AV.ren,AV.renL,Q1c,List.mem_cons,List.not_mem_nil,forall_eq_or_imp,forall_eq,Q2d,List.contains_cons,List.contains_nil,AV.refsL,AV.refs,Q0z,AV.inN,AV.inNL,inH,Q1k,go_sem,W,Hc.out,Hd.out,Hu.out,Hx.out,Q0l,Q0k,Q0a,Nat.mul_one]));(simp(disch:=omega) only[Q0q,Q2k,renH,AV.ren,AV.renL,Q1c,go_sem,W,Hc.out,Hd.out,Hu.out,Hx.out,Q0l,Q0k,Q0a,Nat.mul_one];refine hK _ ?_;clear hK K))|((with_reducible refine Q0g ?_ ?_);rfl;intro K hK;simp(disch:=omega) only[go_sem,W,Hc.out,Hd.out,Hu.out,Hx.out,Q0l,Q0k,Q0a,Nat.mul_one];((repeat(refine ndI (by first|assumption|omega|rfl) ?_));refine hK _ ?_;clear hK K))|(with_reducible first|(refine Q0i ?_;refine hR _ ?_;clear hR R)|((first|refine Q0h ?_|refine Q0c ?_);intro Ψ hΨ hΨ')|(refine Q0b ?_;intro R hR)|(refine hΨ _ ?_;clear hΨ hΨ' Ψ)|refine Q0d ?_|refine Q0j ?_|refine Q0e ?_)|((with_reducible refine hΨ' _ _ ?_ ?_);(focus(simp;done));clear hΨ hΨ' Ψ)|((with_reducible apply Q0f);rfl;rfl;all_goals(intro hc;first|(cases hc;done)|(try simp only at hc)))|((with_reducible refine Q0t ?_ ?_);(apply Q1f);(focus(repeat(first|exact Sims.nil|((apply Sims.cons);(focus(first|((apply Ef.sim_row);assumption)|exact Ef.sim_refl _))))));kernel_rfl;(with_reducible refine hR _ ?_);clear hR R)|((first|((with_reducible apply Q0r);rfl;rfl;rfl;rfl)|((with_reducible apply Q0n);rfl;rfl;rfl)|((first|((with_reducible apply Q0u);rfl;rfl)|((with_reducible apply Q0s);rfl;rfl;rfl;rfl;rfl));(simp(disch:=omega) only[rdE,rdOf,go_sem,W,Hc.out,Hd.out,Hu.out,Hx.out,Q0l,Q0k,Q0a,Nat.mul_one];rfl);(intro τ hA hQ hN;((try simp only[Q1h,Op.operands,Call.operands,go_sem,W,Hc.out,Hd.out,Hu.out,Hx.out,Q0l,Q0k,Q0a,Nat.mul_one,go_sem,List.mem_cons,List.not_mem_nil,forall_eq_or_imp,forall_eq,List.append_toArray,Option.toArray] at hA);(try simp only[go_sem,W,Hc.out,Hd.out,Hu.out,Hx.out,Q0l,Q0k,Q0a,Nat.mul_one,List.mem_cons,List.not_mem_nil,forall_eq_or_imp,forall_eq] at hQ hN);(first|(revert hA;intro hA)|have hA:=trivial);(first|(revert hQ;intro hQ)|have hQ:=trivial);(first|(revert hN;intro hN)|have hN:=trivial);simp(disch:=omega) only[go_sem,W,Hc.out,Hd.out,Hu.out,Hx.out,Q0l,Q0k,Q0a,Nat.mul_one,go_sem,hA,hQ,hN];(repeat(refine ndI (by first|assumption|omega|rfl) ?_));(first|apply Q1b|apply Q1a|apply Q0w)))));(simp(disch:=omega) only[St.eff,setO,Q0q,go_sem,W,Hc.out,Hd.out,Hu.out,Hx.out,Q0l,Q0k,Q0a,Nat.mul_one]))|((with_reducible apply Q0o);rfl;rfl;rfl;all_goals intro hb;all_goals(simp(disch:=omega) only[St.eff,setO,Q0q,go_sem,W,Hc.out,Hd.out,Hu.out,Hx.out,Q0l,Q0k,Q0a,Nat.mul_one]))|((with_reducible refine Q0p ?_ ?_ ?_ ?_);kernel_rfl;kernel_rfl;(simp[Q0m,Q1j,St.free,Q1i,AV.refsL,AV.refs,Q0a]);intro R hR)))))
     all_goals exact hΨ1 _ (St.le_of (by simp[leT]) (by simp[leH,hget]))
   · have k3:decide ((o0:Int)≥(l:Int))=false:=decide_eq_false (by omega)
     obtain⟨o,ho⟩:∃o,o=o0:=⟨_,rfl⟩
     subst ho
     have w10:(0:Int)+0=0:=rfl
     rw[if_neg h3] at hr2
     have bo:a+o<n:=by have:=Hl.out;have:=Ha.out;omega
     have w11:(a:Int)+(o:Int)=((a+o:Nat):Int):=by omega
     have b10:a+o≤2000000:=by omega
     have hs9:(Sort.swp d (i0+t) (a+o)).size=n:=by rw[Q2m];exact hs
     have hΨ1:∀σ':St,σ'.le (stBk (Sort.swp d (i0+t) (a+o)) n a b l M (t+1) i0 y)→Ψ .normal σ':=fun σ' h=>hΨ σ' ⟨((t+1,y),Sort.swp d (i0+t) (a+o)),by dsimp only;omega,hs9,hr2⟩ (by dsimp only;omega) h
     clear hΨ hr2 hs9
     have a2:=H8.out
     have bi:i0+t<n:=by omega
     have z0:=Q1z d
     rw[hs] at z0
     have z1:=Q2o d (j:=(i0+t)) (by omega)
     have z2:=Q2o d (j:=a+o) (by omega)
     obtain⟨t1,t2⟩:=Q3p d (i:=(i0+t)) (j:=a+o) (by omega) (by omega)
     have z4:(rI (d.setIfInBounds (i0+t) d[a+o]!)).length=n:=by rw[Q1z,Array.size_setIfInBounds];exact hs
     generalize d.setIfInBounds (i0+t) d[a+o]! = e1 at t1 t2 z4
     generalize d[(i0+t)]! = zi at *
     generalize d[a+o]! = zj at *
     generalize Sort.swp d (i0+t) (a+o)=e9 at *
     clear a2
     (have W:=ndI k1 (ndI k2 (ndI k3 (ndI w1 (ndI w4 (ndI w5 (ndI w6 (ndI w7 (ndI w10 (ndI w11 (ndI w12 (ndI z0 (ndI z1 (ndI z2 (ndI z4 (ndI t1 (ndI t2 @wrI))))))))))))))));(repeat(any_goals(first|((with_reducible refine Q1d ?_ ?_ ?_);rfl;rfl;intro K hK;(apply Q1n (gn) (fun r=>if r=1000 then 7 else r);rfl;rfl;rfl;rfl;exact Try.func86;kernel_rfl;rfl;rfl;(intro r hr q hq h;simp(disch:=omega) only[List.map_cons,List.map_nil,List.cons_append,List.nil_append,List.mem_cons,List.not_mem_nil,or_false] at hr hq;(try dsimp only at h);first|omega|(rcases hr with rfl|rfl|rfl<;>rcases hq with rfl|rfl|rfl<;>simp at h ⊢)|(rcases hr with rfl|rfl<;>rcases hq with rfl|rfl<;>simp at h ⊢)|((repeat' split at h)<;>omega));(simp(disch:=omega) only[Q1t,Q2h,AV.ren,AV.renL,Q1c,List.mem_cons,List.not_mem_nil,forall_eq_or_imp,forall_eq,Q2d,List.contains_cons,List.contains_nil,AV.refsL,AV.refs,Q0z,AV.inN,AV.inNL,inH,Q1k,go_sem,W,Hc.out,Hd.out,Hu.out,Hx.out,Q0l,Q0k,Q0a,Nat.mul_one]));(simp(disch:=omega) only[Q0q,Q2k,renH,AV.ren,AV.renL,Q1c,go_sem,W,Hc.out,Hd.out,Hu.out,Hx.out,Q0l,Q0k,Q0a,Nat.mul_one];refine hK _ ?_;clear hK K))|((with_reducible refine Q0g ?_ ?_);rfl;intro K hK;simp(disch:=omega) only[go_sem,W,Hc.out,Hd.out,Hu.out,Hx.out,Q0l,Q0k,Q0a,Nat.mul_one];((repeat(refine ndI (by first|assumption|omega|rfl) ?_));refine hK _ ?_;clear hK K))|(with_reducible first|(refine Q0i ?_;refine hR _ ?_;clear hR R)|((first|refine Q0h ?_|refine Q0c ?_);intro Ψ hΨ hΨ')|(refine Q0b ?_;intro R hR)|(refine hΨ _ ?_;clear hΨ hΨ' Ψ)|refine Q0d ?_|refine Q0j ?_|refine Q0e ?_)|((with_reducible refine hΨ' _ _ ?_ ?_);(focus(simp;done));clear hΨ hΨ' Ψ)|((with_reducible apply Q0f);rfl;rfl;all_goals(intro hc;first|(cases hc;done)|(try simp only at hc)))|((with_reducible refine Q0t ?_ ?_);(apply Q1f);(focus(repeat(first|exact Sims.nil|((apply Sims.cons);(focus(first|((apply Ef.sim_row);assumption)|exact Ef.sim_refl _))))));kernel_rfl;(with_reducible refine hR _ ?_);clear hR R)|((first|((with_reducible apply Q0r);rfl;rfl;rfl;rfl)|((with_reducible apply Q0n);rfl;rfl;rfl)|((first|((with_reducible apply Q0u);rfl;rfl)|((with_reducible apply Q0s);rfl;rfl;rfl;rfl;rfl));(simp(disch:=omega) only[rdE,rdOf,go_sem,W,Hc.out,Hd.out,Hu.out,Hx.out,Q0l,Q0k,Q0a,Nat.mul_one];rfl);(intro τ hA hQ hN;((try simp only[Q1h,Op.operands,Call.operands,go_sem,W,Hc.out,Hd.out,Hu.out,Hx.out,Q0l,Q0k,Q0a,Nat.mul_one,go_sem,List.mem_cons,List.not_mem_nil,forall_eq_or_imp,forall_eq,List.append_toArray,Option.toArray] at hA);(try simp only[go_sem,W,Hc.out,Hd.out,Hu.out,Hx.out,Q0l,Q0k,Q0a,Nat.mul_one,List.mem_cons,List.not_mem_nil,forall_eq_or_imp,forall_eq] at hQ hN);(first|(revert hA;intro hA)|have hA:=trivial);(first|(revert hQ;intro hQ)|have hQ:=trivial);(first|(revert hN;intro hN)|have hN:=trivial);simp(disch:=omega) only[go_sem,W,Hc.out,Hd.out,Hu.out,Hx.out,Q0l,Q0k,Q0a,Nat.mul_one,go_sem,hA,hQ,hN];(repeat(refine ndI (by first|assumption|omega|rfl) ?_));(first|apply Q1b|apply Q1a|apply Q0w)))));(simp(disch:=omega) only[St.eff,setO,Q0q,go_sem,W,Hc.out,Hd.out,Hu.out,Hx.out,Q0l,Q0k,Q0a,Nat.mul_one]))|((with_reducible apply Q0o);rfl;rfl;rfl;all_goals intro hb;all_goals(simp(disch:=omega) only[St.eff,setO,Q0q,go_sem,W,Hc.out,Hd.out,Hu.out,Hx.out,Q0l,Q0k,Q0a,Nat.mul_one]))|((with_reducible refine Q0p ?_ ?_ ?_ ?_);kernel_rfl;kernel_rfl;(simp[Q0m,Q1j,St.free,Q1i,AV.refsL,AV.refs,Q0a]);intro R hR)))))
     all_goals exact hΨ1 _ (St.le_of (by simp[leT]) (by simp[leH,hget]))
end
end Go.Proofs.Ytbmcdemnnbndeaa
