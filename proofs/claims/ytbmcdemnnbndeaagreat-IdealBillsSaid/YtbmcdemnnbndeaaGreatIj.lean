/-
  Receipts in memory of their own; reckoned.
-/
import Derived.Test.YtbmcdemnnbndeaaGreatSs
import Derived.Test.YtbmcdemnnbndeaaGreatWa
import Derived.Test.YtbmcdemnnbndeaaGreatPqf
import Derived.Test.YtbmcdemnnbndeaaGreatAvW
namespace Go.Proofs.YtbmcdemnnbndeaaGreat
set_option linter.unusedSimpArgs false
set_option linter.unusedVariables false
namespace lg
open Go.RowKit
open Nat (reduceBEq)
set_option maxRecDepth 20000
set_option maxHeartbeats 2000000
def posA(l:List Hd)(a:Int):Nat:=l.findIdx fun h=>decide (a≤h.a)
theorem posA_le(l:List Hd)(a:Int):posA l a≤l.length:=List.findIdx_le_length
theorem posA_at{l:List Hd}{a:Int}{i:Nat}{y:Hd}(h:∀j,j<i→∀n,l[j]? = some n→n.a<a)(hy:l[i]? = some y)(hm:a≤y.a):posA l a=i:=by
 obtain⟨hlt,rfl⟩:=List.getElem?_eq_some_iff.1 hy
 unfold posA
 rw[List.findIdx_eq hlt]
 refine⟨by simpa using hm,fun j hj=>?_⟩
 have:=h j hj _ (List.getElem?_eq_getElem (by omega))
 simp;omega
theorem posA_none{l:List Hd}{a:Int}(h:∀j,j<l.length→∀n,l[j]? = some n→n.a<a):posA l a=l.length:=by
 unfold posA
 rw[List.findIdx_eq_length]
 intro x hx
 obtain⟨j,hj⟩:=List.mem_iff_getElem?.1 hx
 have:=h j (List.getElem?_eq_some_iff.1 hj).1 x hj
 simp;omega
theorem Q6p(x:Int)(p s:Nat)(d f a:Int):Fn Tryz.prog 92 [h11 x p s d f,.ptr 1003 0] [(1003,[vi .u64 a])] (vb (decide (x≥a))) [(1003,[vi .u64 a])]:=by
 (refine Q1c Tryz.func92 rfl (by rfl) ?_;simp only[Tryz.ntmps92,List.length_cons,List.length_nil,Nat.reduceAdd,Nat.reduceSub,List.replicate,List.cons_append,List.nil_append])
 (repeat(any_goals(first|((with_reducible refine Q0d ?_ ?_);rfl;intro K hK;simp only[go_sem];((repeat(refine ndI (by first|assumption) ?_));refine hK _ ?_;clear hK K))|(with_reducible first|(refine Q0c ?_;refine hR _ ?_;clear hR R)|((first|refine Q0e ?_);intro Ψ hΨ hΨ')|(refine Q0b ?_;intro R hR)|(refine hΨ _ ?_;clear hΨ hΨ' Ψ)|refine Q0l ?_))))
 all_goals(refine⟨by simp,⟨_,?_,AV.le_refl _⟩,Q0i (by simp[leH,hget])⟩;simp only[Tryz.results92,resL,ldA,Q0z,go_sem])
theorem index_fn(ex:Bool)(l:List Hd)(hl:l.length≤1000)(a:Int):Fn Tryz.prog 91 [hsl ex l,.fn 92 [.ptr 1003 0]] [(1003,[vi .u64 a])] (vi .i64 (if posA l a<l.length then(posA l a:Int) else -1)) [(1003,[vi .u64 a])]:=by
 obtain⟨tr,htr⟩:∃r:Int,(if posA l a<l.length then(posA l a:Int) else -1)=r:=⟨_,rfl⟩
 rw[htr]
 (refine Q1c Tryz.func91 rfl (by rfl) ?_;simp only[Tryz.ntmps91,List.length_cons,List.length_nil,Nat.reduceAdd,Nat.reduceSub,List.replicate,List.cons_append,List.nil_append])
 (repeat(any_goals(first|((with_reducible refine Q0d ?_ ?_);rfl;intro K hK;simp only[go_sem];((repeat(refine ndI (by first|assumption) ?_));refine hK _ ?_;clear hK K))|(with_reducible first|(refine Q0c ?_;refine hR _ ?_;clear hR R)|((first|refine Q0e ?_|refine Q0g ?_);intro Ψ hΨ hΨ')|(refine Q0b ?_;intro R hR)|(refine hΨ _ ?_;clear hΨ hΨ' Ψ)))))
 refine Q2n (α:={i:Nat // i≤l.length∧∀j,j<i→∀n,l[j]? = some n→n.a<a}) (fun p=>⟨[hsl ex l,.fn 92 [.ptr 1003 0],.any,.any,.any,.any,hsl ex l,vi .i64 l.length,vi .i64 p.1,.any,.any,.any,.any,.any,.any,.any,.any,.any,.any],[(1003,[vi .u64 a])]⟩) (fun p=>l.length-p.1) ⟨0,Nat.zero_le _,fun j hj=>by omega⟩ (St.le_of (by simp[leT]) (by simp[leH,hget])) ?_
 rintro ⟨i,hi,hno⟩ Ψ hΨ hΨ'
 dsimp only at hi hΨ ⊢
 rcases Nat.lt_or_ge i l.length with hlt|hge
 · obtain⟨y,hy⟩:∃y,l[i]? = some y:=⟨l[i],List.getElem?_eq_getElem hlt⟩
   have k1:(decide ((i:Int)<(l.length:Int)))=true:=by simpa using hlt
   have k2:=X2m hy
   have k7:(i:Int)+1=((i+1:Nat):Int):=by omega
   have pl:=Q6p y.a y.p y.s y.d y.f a
   by_cases hm:a≤y.a
   · have e:(decide (y.a≥a))=true:=by simpa using hm
     rw[e] at pl
     have hp:=posA_at hno hy hm
     rw[hp,if_pos hlt] at htr
     (have W:=ndI k1 (ndI k2 (ndI k7 @wrI));(repeat(any_goals(first|((with_reducible refine Q0p ?_ ?_ ?_);rfl;rfl;intro K hK;(apply Q1b (pl) (fun r=>r);rfl;rfl;rfl;rfl;exact Tryz.func92;kernel_rfl;rfl;rfl;(intro r hr q hq h;simp(disch:=omega) only[List.map_cons,List.map_nil,List.cons_append,List.nil_append,List.mem_cons,List.not_mem_nil,or_false] at hr hq;(try dsimp only at h);first|omega);(simp(disch:=omega) only[Q1f,Q1y,AV.ren,AV.renL,Q0q,List.mem_cons,List.not_mem_nil,forall_eq_or_imp,forall_eq,Q1t,List.contains_cons,List.contains_nil,AV.refsL,AV.refs,Q0m,AV.inN,AV.inNL,inH,Q1a,go_sem,W]));(simp(disch:=omega) only[Q0x,Q2c,renH,AV.ren,AV.renL,Q0q,go_sem,W];refine hK _ ?_;clear hK K))|((with_reducible refine Q0d ?_ ?_);rfl;intro K hK;simp(disch:=omega) only[go_sem,W];((repeat(refine ndI (by first|assumption|omega|rfl) ?_));refine hK _ ?_;clear hK K))|(with_reducible first|(refine Q0c ?_;refine hR _ ?_;clear hR R)|((first|refine Q0e ?_|refine Q0g ?_);intro Ψ hΨ hΨ')|(refine Q0b ?_;intro R hR)|(refine hΨ _ ?_;clear hΨ hΨ' Ψ)|refine Q0h ?_|refine Q0l ?_)|((with_reducible refine hΨ' _ _ ?_ ?_);(focus(simp;done));clear hΨ hΨ' Ψ)|((with_reducible apply Q0f);rfl;rfl;all_goals(intro hc;first|(cases hc;done)|(try simp only at hc)))))))
     all_goals(refine⟨by simp,⟨_,?_,AV.le_refl _⟩,Q0i (by simp[leH,hget])⟩;simp only[Tryz.results91,resL,ldA,Q0z,go_sem])
     all_goals rw[htr]
   · have e:(decide (y.a≥a))=false:=by simp;omega
     rw[e] at pl
     (have W:=ndI k1 (ndI k2 (ndI k7 @wrI));(repeat(any_goals(first|((with_reducible refine Q0p ?_ ?_ ?_);rfl;rfl;intro K hK;(apply Q1b (pl) (fun r=>r);rfl;rfl;rfl;rfl;exact Tryz.func92;kernel_rfl;rfl;rfl;(intro r hr q hq h;simp(disch:=omega) only[List.map_cons,List.map_nil,List.cons_append,List.nil_append,List.mem_cons,List.not_mem_nil,or_false] at hr hq;(try dsimp only at h);first|omega);(simp(disch:=omega) only[Q1f,Q1y,AV.ren,AV.renL,Q0q,List.mem_cons,List.not_mem_nil,forall_eq_or_imp,forall_eq,Q1t,List.contains_cons,List.contains_nil,AV.refsL,AV.refs,Q0m,AV.inN,AV.inNL,inH,Q1a,go_sem,W]));(simp(disch:=omega) only[Q0x,Q2c,renH,AV.ren,AV.renL,Q0q,go_sem,W];refine hK _ ?_;clear hK K))|((with_reducible refine Q0d ?_ ?_);rfl;intro K hK;simp(disch:=omega) only[go_sem,W];((repeat(refine ndI (by first|assumption|omega|rfl) ?_));refine hK _ ?_;clear hK K))|(with_reducible first|(refine Q0c ?_;refine hR _ ?_;clear hR R)|((first|refine Q0e ?_|refine Q0g ?_);intro Ψ hΨ hΨ')|(refine Q0b ?_;intro R hR)|(refine hΨ _ ?_;clear hΨ hΨ' Ψ)|refine Q0h ?_)|((with_reducible refine hΨ' _ _ ?_ ?_);(focus(simp;done));clear hΨ hΨ' Ψ)|((with_reducible apply Q0f);rfl;rfl;all_goals(intro hc;first|(cases hc;done)|(try simp only at hc)))))))
     refine hΨ _ ⟨i+1,hlt,fun j hj n hn=>?_⟩ (by simp only;omega) (St.le_of (by simp[leT]) (by simp[leH,hget]))
     rcases Nat.lt_or_ge j i with h'|h'
     · exact hno j h' n hn
     · obtain rfl:j=i:=by omega
       rw[hy] at hn;cases hn;omega
 · have k1:(decide ((i:Int)<(l.length:Int)))=false:=by simpa using hge
   have hp:=posA_none (l:=l) (a:=a) fun j hj=>hno j (by omega)
   rw[hp,if_neg (Nat.lt_irrefl _)] at htr
   (repeat(any_goals(first|((with_reducible refine Q0d ?_ ?_);rfl;intro K hK;simp only[go_sem,k1];((repeat(refine ndI (by first|assumption) ?_));refine hK _ ?_;clear hK K))|(with_reducible first|(refine Q0c ?_;refine hR _ ?_;clear hR R)|((first|refine Q0e ?_);intro Ψ hΨ hΨ')|(refine Q0b ?_;intro R hR)|(refine hΨ _ ?_;clear hΨ hΨ' Ψ)|refine Q0l ?_|refine Q0v ?_)|((with_reducible refine hΨ' _ _ ?_ ?_);(focus(simp;done));clear hΨ hΨ' Ψ)|((with_reducible apply Q0f);rfl;rfl;all_goals(intro hc;first|(cases hc;done)|(try simp only at hc))))))
   all_goals(refine⟨by simp,⟨_,?_,AV.le_refl _⟩,Q0i (by simp[leH,hget])⟩;simp only[Tryz.results91,resL,ldA,Q0z,go_sem])
   all_goals rw[←htr]
def isA(l:List Hd)(a:Int):Bool:=match l[posA l a]? with|some y=>y.a==a|none=>false
theorem X0j(ex:Bool)(l:List Hd)(hl:l.length≤1000)(a:Int):Fn Tryz.prog 69 [lg ex l,vi .u64 a] [] (.tup [vi .i64 (posA l a:Int),vb (isA l a)]) []:=by
 have ix:=index_fn ex l hl a
 have hle:=posA_le l a
 rcases Nat.lt_or_ge (posA l a) l.length with hlt|hge
 · rw[if_pos hlt] at ix
   obtain⟨y,hy⟩:∃y,l[posA l a]? = some y:=⟨_,List.getElem?_eq_getElem hlt⟩
   have hA:isA l a=(y.a==a):=by unfold isA;rw[hy]
   rw[hA]
   have k2:=X2m hy
   generalize posA l a=i at ix hlt hy k2
   have k3:(decide ((i:Int)<0))=false:=by simp
   (refine Q1c Tryz.func69 rfl (by rfl) ?_;simp only[Tryz.ntmps69,List.length_cons,List.length_nil,Nat.reduceAdd,Nat.reduceSub,List.replicate,List.cons_append,List.nil_append])
   (repeat(any_goals(first|((with_reducible refine Q0p ?_ ?_ ?_);rfl;rfl;intro K hK;(apply Q1b (ix) (fun r=>r-1000);rfl;rfl;rfl;rfl;exact Tryz.func91;kernel_rfl;rfl;rfl;(intro r hr q hq h;simp(disch:=omega) only[List.map_cons,List.map_nil,List.cons_append,List.nil_append,List.mem_cons,List.not_mem_nil,or_false] at hr hq;(try dsimp only at h);first|omega);(simp(disch:=omega) only[Q1f,Q1y,AV.ren,AV.renL,Q0q,List.mem_cons,List.not_mem_nil,forall_eq_or_imp,forall_eq,Q1t,List.contains_cons,List.contains_nil,AV.refsL,AV.refs,Q0m,AV.inN,AV.inNL,inH,Q1a,go_sem,k2,k3]));(simp(disch:=omega) only[Q0x,Q2c,renH,AV.ren,AV.renL,Q0q,go_sem,k2,k3];refine hK _ ?_;clear hK K))|((with_reducible refine Q0d ?_ ?_);rfl;intro K hK;simp(disch:=omega) only[go_sem,k2,k3];((repeat(refine ndI (by first|assumption|rfl) ?_));refine hK _ ?_;clear hK K))|(with_reducible first|(refine Q0c ?_;refine hR _ ?_;clear hR R)|((first|refine Q0e ?_);intro Ψ hΨ hΨ')|(refine Q0b ?_;intro R hR)|(refine hΨ _ ?_;clear hΨ hΨ' Ψ)|refine Q0h ?_|refine Q0l ?_)|((with_reducible apply Q0f);rfl;rfl;all_goals(intro hc;first|(cases hc;done)|(try simp only at hc)))|((with_reducible refine Q0w ?_ ?_);kernel_rfl;(with_reducible refine hR _ ?_);clear hR R)|(((with_reducible apply Q0u);rfl;rfl;(simp(disch:=omega) only[rdE,rdOf,go_sem,k2,k3];rfl);(intro τ hA hQ hN;((try simp only[Q1g,Op.operands,Call.operands,go_sem,k2,k3,go_sem,List.mem_cons,List.not_mem_nil,forall_eq_or_imp,forall_eq,List.append_toArray,Option.toArray] at hA);(try simp only[go_sem,k2,k3,List.mem_cons,List.not_mem_nil,forall_eq_or_imp,forall_eq] at hQ hN);(first|(revert hA;intro hA));(first|(revert hQ;intro hQ));(first|(revert hN;intro hN));simp(disch:=omega) only[go_sem,k2,k3,go_sem,hA,hQ,hN];(repeat(refine ndI (by first|assumption|omega|rfl) ?_));(first|apply Q1d))));(simp(disch:=omega) only[St.eff,setO,Q0x,go_sem,k2,k3]))|((with_reducible refine Q0r ?_ ?_ ?_ ?_);kernel_rfl;kernel_rfl;(first|kernel_rfl);intro R hR))))
   all_goals(refine⟨by simp,⟨_,?_,AV.le_refl _⟩,Q0i (by simp[leH,hget])⟩;simp only[Tryz.results69,resL,ldA,Q0z,go_sem])
 · have e:posA l a=l.length:=by omega
   have hA:isA l a=false:=by unfold isA;rw[e,List.getElem?_eq_none (Nat.le_refl _)]
   rw[hA,e]
   rw[if_neg (by omega)] at ix
   (refine Q1c Tryz.func69 rfl (by rfl) ?_;simp only[Tryz.ntmps69,List.length_cons,List.length_nil,Nat.reduceAdd,Nat.reduceSub,List.replicate,List.cons_append,List.nil_append])
   (repeat(any_goals(first|((with_reducible refine Q0p ?_ ?_ ?_);rfl;rfl;intro K hK;(apply Q1b (ix) (fun r=>r-1000);rfl;rfl;rfl;rfl;exact Tryz.func91;kernel_rfl;rfl;rfl;(intro r hr q hq h;simp only[List.map_cons,List.map_nil,List.cons_append,List.nil_append,List.mem_cons,List.not_mem_nil,or_false] at hr hq;(try dsimp only at h);first|omega);(simp only[Q1f,Q1y,AV.ren,AV.renL,Q0q,List.mem_cons,List.not_mem_nil,forall_eq_or_imp,forall_eq,Q1t,List.contains_cons,List.contains_nil,AV.refsL,AV.refs,Q0m,AV.inN,AV.inNL,inH,Q1a,go_sem,Int.reduceLT,Int.reduceNeg,decide_true]));(simp only[Q0x,Q2c,renH,AV.ren,AV.renL,Q0q,go_sem,Int.reduceLT,Int.reduceNeg,decide_true];refine hK _ ?_;clear hK K))|((with_reducible refine Q0d ?_ ?_);rfl;intro K hK;simp only[go_sem,Int.reduceLT,Int.reduceNeg,decide_true];((repeat(refine ndI (by first|assumption) ?_));refine hK _ ?_;clear hK K))|(with_reducible first|(refine Q0c ?_;refine hR _ ?_;clear hR R)|((first|refine Q0e ?_);intro Ψ hΨ hΨ')|(refine Q0b ?_;intro R hR)|(refine hΨ _ ?_;clear hΨ hΨ' Ψ)|refine Q0l ?_)|((with_reducible refine hΨ' _ _ ?_ ?_);(focus(simp;done));clear hΨ hΨ' Ψ)|((with_reducible apply Q0f);rfl;rfl;all_goals(intro hc;first|(cases hc;done)|(try simp only at hc))))))
   all_goals(refine⟨by simp,⟨_,?_,AV.le_refl _⟩,Q0i (by simp[leH,hget])⟩;simp only[Tryz.results69,resL,ldA,Q0z,go_sem])
def findH(l:List Hd)(a:Int):Hd:=match l[posA l a]? with|some y=>if y.a=a then y else⟨a,0,0,0,0⟩|none=>⟨a,0,0,0,0⟩
abbrev hA(h:Hd):AV:=h11 h.a h.p h.s h.d h.f
theorem find_fn(ex:Bool)(l:List Hd)(hl:l.length≤1000)(a:Int):Fn Tryz.prog 57 [lg ex l,vi .u64 a] [] (hA (findH l a)) []:=by
 have pl:=X0j ex l hl a
 by_cases h:isA l a=true
 · rw[h] at pl
   unfold isA at h
   cases hy:l[posA l a]? with
   |none=>rw[hy] at h;cases h
   |some y=>
    rw[hy] at h
    simp only[beq_iff_eq] at h
    have hF:findH l a=y:=by unfold findH;rw[hy];simp[h]
    rw[hF]
    have k2:=X2m hy
    have hlt:=(List.getElem?_eq_some_iff.1 hy).1
    generalize posA l a=i at pl k2 hlt
    (refine Q1c Tryz.func57 rfl (by rfl) ?_;simp only[Tryz.ntmps57,List.length_cons,List.length_nil,Nat.reduceAdd,Nat.reduceSub,List.replicate,List.cons_append,List.nil_append])
    (repeat(any_goals(first|((with_reducible refine Q0p ?_ ?_ ?_);rfl;rfl;intro K hK;((apply Q0k (pl);rfl;rfl;rfl;rfl;exact Tryz.func69);kernel_rfl;rfl;(focus((simp(disch:=omega) only[go_sem,k2]);(try rfl);done));(first|rfl));(simp(disch:=omega) only[go_sem,k2];refine hK _ ?_;clear hK K))|((with_reducible refine Q0d ?_ ?_);rfl;intro K hK;simp(disch:=omega) only[go_sem,k2];((repeat(refine ndI (by first|assumption|omega|rfl) ?_));refine hK _ ?_;clear hK K))|(with_reducible first|(refine Q0c ?_;refine hR _ ?_;clear hR R)|((first|refine Q0e ?_);intro Ψ hΨ hΨ')|(refine Q0b ?_;intro R hR)|(refine hΨ _ ?_;clear hΨ hΨ' Ψ)|refine Q0l ?_)|((with_reducible refine hΨ' _ _ ?_ ?_);(focus(simp;done));clear hΨ hΨ' Ψ)|((with_reducible apply Q0f);rfl;rfl;all_goals(intro hc;first|(cases hc;done)|(try simp only at hc))))))
    all_goals(refine⟨by simp,⟨_,?_,AV.le_refl _⟩,Q0i (by simp[leH,hget])⟩;simp only[Tryz.results57,resL,ldA,Q0z,go_sem])
 · have h':isA l a=false:=by simpa using h
   rw[h'] at pl
   have hF:findH l a=⟨a,0,0,0,0⟩:=by
    unfold findH
    unfold isA at h'
    cases hy:l[posA l a]? with
    |none=>rfl
    |some y=>
     rw[hy] at h'
     simp only[beq_eq_false_iff_ne,ne_eq] at h'
     simp[h']
   rw[hF]
   (refine Q1c Tryz.func57 rfl (by rfl) ?_;simp only[Tryz.ntmps57,List.length_cons,List.length_nil,Nat.reduceAdd,Nat.reduceSub,List.replicate,List.cons_append,List.nil_append])
   (repeat(any_goals(first|((with_reducible refine Q0p ?_ ?_ ?_);rfl;rfl;intro K hK;((apply Q0k (pl);rfl;rfl;rfl;rfl;exact Tryz.func69);kernel_rfl;rfl;(focus((simp only[go_sem]);(try rfl);done));(first|rfl));(simp only[go_sem];refine hK _ ?_;clear hK K))|((with_reducible refine Q0d ?_ ?_);rfl;intro K hK;simp only[go_sem];((repeat(refine ndI (by first|assumption) ?_));refine hK _ ?_;clear hK K))|(with_reducible first|(refine Q0c ?_;refine hR _ ?_;clear hR R)|((first|refine Q0e ?_);intro Ψ hΨ hΨ')|(refine Q0b ?_;intro R hR)|(refine hΨ _ ?_;clear hΨ hΨ' Ψ)|refine Q0h ?_|refine Q0l ?_)|((with_reducible apply Q0f);rfl;rfl;all_goals(intro hc;first|(cases hc;done)|(try simp only at hc))))))
   all_goals(refine⟨by simp,⟨_,?_,AV.le_refl _⟩,Q0i (by simp[leH,hget])⟩;simp only[Tryz.results57,resL,ldA,Q0z,go_sem])
   all_goals simp only[hA,h11,c11,Q3w,Q3v,Q3u,Q3t]
end lg
namespace lg
open Go.RowKit
set_option maxRecDepth 20000
set_option maxHeartbeats 2000000
theorem okL_len{l:List Hd}(h:okL l=true):l.length≤24:=by
 unfold okL at h
 rw[Bool.and_eq_true] at h
 exact of_decide_eq_true h.1
end lg
namespace lg
open Go.RowKit
open Nat (reduceBEq)
set_option maxRecDepth 20000
set_option maxHeartbeats 2000000
def findP(l:List Hd)(a:Int):Hd:=if a=0 then⟨0,0,0,0,0⟩ else if okL l=true then findH l a else⟨0,0,0,0,0⟩
theorem findF_fn(ex:Bool)(l:List Hd)(hl:l.length≤maxLen)(ok:∀h∈l,h.ok)(a:Int):Fn Tryz.prog 39 [lg ex l,vi .u64 a] [] (hA (findP l a)) []:=by
 by_cases ha:a=0
 · subst ha
   rw[show findP l 0=⟨0,0,0,0,0⟩ from if_pos rfl]
   simp only[hA,h11,c11,Q3w,Q3v,Q3u,Q3t]
   (refine Q1c Tryz.func39 rfl (by rfl) ?_;simp only[Tryz.ntmps39,List.length_cons,List.length_nil,Nat.reduceAdd,Nat.reduceSub,List.replicate,List.cons_append,List.nil_append])
   (repeat(any_goals(first|((with_reducible refine Q0d ?_ ?_);rfl;intro K hK;simp only[go_sem];((repeat(refine ndI (by first|assumption) ?_));refine hK _ ?_;clear hK K))|(with_reducible first|(refine Q0c ?_;refine hR _ ?_;clear hR R)|((first|refine Q0e ?_);intro Ψ hΨ hΨ')|(refine Q0b ?_;intro R hR)|(refine hΨ _ ?_;clear hΨ hΨ' Ψ)|refine Q0l ?_)|((with_reducible refine hΨ' _ _ ?_ ?_);(focus(simp;done));clear hΨ hΨ' Ψ)|((with_reducible apply Q1i);rfl;rfl;rfl;all_goals(intro hb;first|(cases hb;done)|((try simp only[Bool.not_true,Bool.not_false] at hb);(first|((fail_if_success (with_reducible intro _));simp only[go_sem])))))|((with_reducible apply Q0f);rfl;rfl;all_goals(intro hc;first|(cases hc;done)|(try simp only at hc))))))
   all_goals(refine⟨by simp,⟨_,?_,AV.le_refl _⟩,Q0i (by simp[leH,hget])⟩;simp only[Tryz.results39,resL,ldA,Q0z,go_sem])
 · have ck:=check_fn ex l hl ok
   have ea:(a==0)=false:=by simp[ha]
   cases hk:okL l with
   |false=>
    rw[hk,if_neg (by decide)] at ck
    rw[show findP l a=⟨0,0,0,0,0⟩ by unfold findP;rw[if_neg ha,hk,if_neg (by decide)]]
    simp only[hA,h11,c11,Q3w,Q3v,Q3u,Q3t]
    (refine Q1c Tryz.func39 rfl (by rfl) ?_;simp only[Tryz.ntmps39,List.length_cons,List.length_nil,Nat.reduceAdd,Nat.reduceSub,List.replicate,List.cons_append,List.nil_append])
    (repeat(any_goals(first|((with_reducible refine Q0d ?_ ?_);rfl;intro K hK;simp only[go_sem,ea];((repeat(refine ndI (by first|assumption) ?_));refine hK _ ?_;clear hK K))|(with_reducible first|(refine Q0c ?_;refine hR _ ?_;clear hR R)|((first|refine Q0e ?_);intro Ψ hΨ hΨ')|(refine Q0b ?_;intro R hR)|(refine hΨ _ ?_;clear hΨ hΨ' Ψ)|refine Q0l ?_)|((with_reducible refine hΨ' _ _ ?_ ?_);(focus(simp;done));clear hΨ hΨ' Ψ)|((with_reducible apply Q1i);rfl;rfl;rfl;all_goals(intro hb;first|(cases hb;done)|((try simp only[Bool.not_true,Bool.not_false] at hb);(first|((with_reducible intro K hK);(first|((apply Q0k (ck);rfl;rfl;rfl;rfl;exact Tryz.func56);kernel_rfl;rfl;(focus((simp only[go_sem,ea]);(try rfl);done));(first|rfl))|skip);simp only[go_sem,ea];((repeat(refine ndI (by first|assumption) ?_));refine hK _ ?_;clear hK K))))))|((with_reducible apply Q0f);rfl;rfl;all_goals(intro hc;first|(cases hc;done)|(try simp only at hc))))))
    all_goals(refine⟨by simp,⟨_,?_,AV.le_refl _⟩,Q0i (by simp[leH,hget])⟩;simp only[Tryz.results39,resL,ldA,Q0z,go_sem])
   |true=>
    have hl4:=okL_len hk
    have fi:=find_fn ex l (by omega) a
    rw[hk,if_pos rfl] at ck
    rw[show findP l a=findH l a by unfold findP;rw[if_neg ha,hk,if_pos rfl]]
    generalize findH l a=h0 at fi ⊢
    obtain⟨x,p,s,d,f⟩:=h0
    dsimp only[hA] at fi ⊢
    (refine Q1c Tryz.func39 rfl (by rfl) ?_;simp only[Tryz.ntmps39,List.length_cons,List.length_nil,Nat.reduceAdd,Nat.reduceSub,List.replicate,List.cons_append,List.nil_append])
    (repeat(any_goals(first|((with_reducible refine Q0p ?_ ?_ ?_);rfl;rfl;intro K hK;((apply Q0k (fi);rfl;rfl;rfl;rfl;exact Tryz.func57);kernel_rfl;rfl;(focus((simp only[go_sem,ea]);(try rfl);done));(first|rfl));(simp only[go_sem,ea];refine hK _ ?_;clear hK K))|((with_reducible refine Q0d ?_ ?_);rfl;intro K hK;simp only[go_sem,ea];((repeat(refine ndI (by first|assumption) ?_));refine hK _ ?_;clear hK K))|(with_reducible first|(refine Q0c ?_;refine hR _ ?_;clear hR R)|((first|refine Q0e ?_);intro Ψ hΨ hΨ')|(refine Q0b ?_;intro R hR)|(refine hΨ _ ?_;clear hΨ hΨ' Ψ)|refine Q0h ?_|refine Q0l ?_)|((with_reducible apply Q1i);rfl;rfl;rfl;all_goals(intro hb;first|(cases hb;done)|((try simp only[Bool.not_true,Bool.not_false] at hb);(first|((with_reducible intro K hK);(first|((apply Q0k (ck);rfl;rfl;rfl;rfl;exact Tryz.func56);kernel_rfl;rfl;(focus((simp only[go_sem,ea]);(try rfl);done));(first|rfl))|skip);simp only[go_sem,ea];((repeat(refine ndI (by first|assumption) ?_));refine hK _ ?_;clear hK K))))))|((with_reducible apply Q0f);rfl;rfl;all_goals(intro hc;first|(cases hc;done)|(try simp only at hc))))))
    all_goals(refine⟨by simp,⟨_,?_,AV.le_refl _⟩,Q0i (by simp[leH,hget])⟩;simp only[Tryz.results39,resL,ldA,Q0z,go_sem])
theorem okL_tot{l:List Hd}(h:okL l=true):tot l<WW:=by
 unfold okL at h
 rw[Bool.and_eq_true,Bool.and_eq_true] at h
 exact of_decide_eq_true h.2.2
def sumP(l:List Hd):Nat:=if okL l=true then tot l else 0
theorem sumF_fn(ex:Bool)(l:List Hd)(hl:l.length≤maxLen)(ok:∀h∈l,h.ok):Fn Tryz.prog 50 [lg ex l] [] (wN (sumP l)) []:=by
 have ck:=check_fn ex l hl ok
 cases hk:okL l with
 |false=>
  rw[hk,if_neg (by decide)] at ck
  rw[show sumP l=0 by unfold sumP;rw[hk,if_neg (by decide)]]
  simp only[wN,w4,Q3w,Q3v,Q3u,Q3t]
  (refine Q1c Tryz.func50 rfl (by rfl) ?_;simp only[Tryz.ntmps50,List.length_cons,List.length_nil,Nat.reduceAdd,Nat.reduceSub,List.replicate,List.cons_append,List.nil_append])
  (repeat(any_goals(first|((with_reducible refine Q0p ?_ ?_ ?_);rfl;rfl;intro K hK;((apply Q0k (ck);rfl;rfl;rfl;rfl;exact Tryz.func56);kernel_rfl;rfl;(focus((simp only[go_sem]);(try rfl);done));(first|rfl));(simp only[go_sem];refine hK _ ?_;clear hK K))|((with_reducible refine Q0d ?_ ?_);rfl;intro K hK;simp only[go_sem];((repeat(refine ndI (by first|assumption) ?_));refine hK _ ?_;clear hK K))|(with_reducible first|(refine Q0c ?_;refine hR _ ?_;clear hR R)|((first|refine Q0e ?_);intro Ψ hΨ hΨ')|(refine Q0b ?_;intro R hR)|(refine hΨ _ ?_;clear hΨ hΨ' Ψ)|refine Q0l ?_)|((with_reducible refine hΨ' _ _ ?_ ?_);(focus(simp;done));clear hΨ hΨ' Ψ)|((with_reducible apply Q0f);rfl;rfl;all_goals(intro hc;first|(cases hc;done)|(try simp only at hc))))))
  all_goals(refine⟨by simp,⟨_,?_,AV.le_refl _⟩,Q0i (by simp[leH,hget])⟩;simp only[Tryz.results50,resL,ldA,Q0z,go_sem])
 |true=>
  have hl4:=okL_len hk
  have al:=all_nil ex l (by omega) ok
  rw[hk,if_pos rfl] at ck
  rw[Nat.mod_eq_of_lt (okL_tot hk),decide_eq_false (by have:=okL_tot hk;omega)] at al
  rw[show sumP l=tot l by unfold sumP;rw[hk,if_pos rfl]]
  generalize tot l=n at al ⊢
  (refine Q1c Tryz.func50 rfl (by rfl) ?_;simp only[Tryz.ntmps50,List.length_cons,List.length_nil,Nat.reduceAdd,Nat.reduceSub,List.replicate,List.cons_append,List.nil_append])
  (repeat(any_goals(first|((with_reducible refine Q0p ?_ ?_ ?_);rfl;rfl;intro K hK;((first|(apply Q0k (ck);rfl;rfl;rfl;rfl;exact Tryz.func56)|(apply Q0k (al);rfl;rfl;rfl;rfl;exact Tryz.func64));kernel_rfl;rfl;(focus((simp only[go_sem]);(try rfl);done));(first|rfl));(simp only[go_sem];refine hK _ ?_;clear hK K))|((with_reducible refine Q0d ?_ ?_);rfl;intro K hK;simp only[go_sem];((repeat(refine ndI (by first|assumption) ?_));refine hK _ ?_;clear hK K))|(with_reducible first|(refine Q0c ?_;refine hR _ ?_;clear hR R)|((first|refine Q0e ?_);intro Ψ hΨ hΨ')|(refine Q0b ?_;intro R hR)|(refine hΨ _ ?_;clear hΨ hΨ' Ψ)|refine Q0h ?_|refine Q0l ?_)|((with_reducible apply Q0f);rfl;rfl;all_goals(intro hc;first|(cases hc;done)|(try simp only at hc))))))
  all_goals(refine⟨by simp,⟨_,?_,AV.le_refl _⟩,Q0i (by simp[leH,hget])⟩;simp only[Tryz.results50,resL,ldA,Q0z,go_sem])
end lg
section
open Go.RowKit
open Nat (reduceBEq)
set_option maxRecDepth 20000
set_option maxHeartbeats 2000000
theorem Wl.ok.kl{w:Wl}(hw:w.ok):Okl w.S:=⟨Nat.le_trans hw.s.1 (by decide),fun x hx=>⟨(hw.s.2 x hx).1,Nat.le_trans (hw.s.2 x hx).2.1 (by decide),Nat.le_trans (hw.s.2 x hx).2.2 (by decide)⟩⟩
theorem X5n(w:Wl)(hw:w.ok)(a:Int):Fn Tryz.prog 38 [wlA w,vi .u64 a] [] (wN (OfS w.S a).b) []:=by
 have f:=OfS_fn false w.S hw.kl a
 generalize OfS w.S a=x at f ⊢
 obtain⟨a',b,n,c,s⟩:=x
 dsimp only at f ⊢
 (refine Q1c Tryz.func38 rfl (by rfl) ?_;simp only[Tryz.ntmps38,List.length_cons,List.length_nil,Nat.reduceAdd,Nat.reduceSub,List.replicate,List.cons_append,List.nil_append])
 (repeat(any_goals(first|((with_reducible refine Q0p ?_ ?_ ?_);rfl;rfl;intro K hK;((apply Q0k (f);rfl;rfl;rfl;rfl;exact Tryz.func55);kernel_rfl;rfl;(focus((simp only[go_sem]);(try rfl);done));(first|rfl));(simp only[go_sem];refine hK _ ?_;clear hK K))|((with_reducible refine Q0d ?_ ?_);rfl;intro K hK;simp only[go_sem];((repeat(refine ndI (by first|assumption) ?_));refine hK _ ?_;clear hK K))|(with_reducible first|(refine Q0c ?_;refine hR _ ?_;clear hR R)|((first|refine Q0e ?_);intro Ψ hΨ hΨ')|(refine Q0b ?_;intro R hR)|(refine hΨ _ ?_;clear hΨ hΨ' Ψ)|refine Q0l ?_))))
 all_goals(refine⟨by simp,⟨_,?_,AV.le_refl _⟩,Q0i (by simp[leH,hget])⟩;simp only[Tryz.results38,resL,ldA,Q0z,go_sem])
def hasN(w:Wl):Nat:=if Q1u w then(OfS w.S 1).b else 0
def Q2z(w:Wl):Nat:=if Q1u w then lg.sumP w.L else 0
def Q2a(w:Wl):Nat:=if Q1u w then X1k w.S else 0
def X3f(w:Wl)(a:Int):Nat:=if a=0 then 0 else if Q1u w then([(OfS w.S a).b,(lg.findP w.L a).p,(lg.findP w.L a).s].sum%WW) else 0
theorem sumP_lt(l:List lg.Hd):lg.sumP l<WW:=by
 unfold lg.sumP
 split
 · rename_i h
   unfold lg.okL at h
   simp only[Bool.and_eq_true,decide_eq_true_eq] at h
   exact h.2.2
 · decide
theorem totalS_lt(L:List Ac):X1k L<WW:=by
 unfold X1k
 split
 · exact Nat.mod_lt _ (by decide)
 · decide
theorem of_lt{w:Wl}(hw:w.ok)(a:Int)(ha:U a):(OfS w.S a).b<WW:=(OfS_ok hw.kl ha).1.2.1
theorem u1:U 1:=by unfold U;decide
theorem Q7g{w:Wl}(hw:w.ok):hasN w<WW:=by
 unfold hasN
 split
 · exact of_lt hw 1 u1
 · decide
theorem Q6q(w:Wl):Q2z w<WW:=by
 unfold Q2z
 split
 · exact sumP_lt _
 · decide
theorem Q6a(w:Wl):Q2a w<WW:=by
 unfold Q2a
 split
 · exact totalS_lt _
 · decide
theorem has_fn(w:Wl)(hw:w.ok):Fn Tryz.prog 26 [wlA w] [] (wN (hasN w)) []:=by
 have f:=Q8v true w hw
 have g:=X5n w hw 1
 unfold hasN
 cases e:Q1u w<;>simp only[e,if_true,if_false,Bool.false_eq_true] at f ⊢
 all_goals(refine Q1c Tryz.func26 rfl (by rfl) ?_;simp only[Tryz.ntmps26,List.length_cons,List.length_nil,Nat.reduceAdd,Nat.reduceSub,List.replicate,List.cons_append,List.nil_append])
 all_goals(repeat(any_goals(first|((with_reducible refine Q3p ?_ ?_);rfl;intro K hK;apply Q1s;rfl;rfl;(focus(simp only[go_sem];try rfl));(focus(simp only[go_sem];try rfl));rfl;(first|omega);(first|omega);(first|omega);(simp only[go_sem];rfl);rfl;(focus((simp only[unC,Option.map_some]);(try rfl)));(simp only[go_sem];refine hK _ ?_;clear hK K))|((with_reducible refine Q0p ?_ ?_ ?_);rfl;rfl;intro K hK;((first|(apply Q0k (f);rfl;rfl;rfl;rfl;exact Tryz.func28)|(apply Q0k (g);rfl;rfl;rfl;rfl;exact Tryz.func38));kernel_rfl;rfl;(focus((simp only[go_sem]);(try rfl);done));(first|rfl));(simp only[go_sem];refine hK _ ?_;clear hK K))|((with_reducible refine Q0d ?_ ?_);rfl;intro K hK;simp only[go_sem];((repeat(refine ndI (by first|assumption) ?_));refine hK _ ?_;clear hK K))|(with_reducible first|(refine Q0c ?_;refine hR _ ?_;clear hR R)|((first|refine Q0e ?_);intro Ψ hΨ hΨ')|(refine Q0b ?_;intro R hR)|(refine hΨ _ ?_;clear hΨ hΨ' Ψ)|refine Q0h ?_|refine Q0l ?_)|((with_reducible refine hΨ' _ _ ?_ ?_);(focus(simp;done));clear hΨ hΨ' Ψ)|((with_reducible apply Q0f);rfl;rfl;all_goals(intro hc;first|(cases hc;done)|(try simp only at hc))))))
 all_goals(refine⟨by simp,⟨_,?_,AV.le_refl _⟩,Q0i (by simp[leH,hget])⟩;simp only[Tryz.results26,resL,ldA,Q0z,go_sem])
 all_goals rfl
theorem X3n(w:Wl)(hw:w.ok):Fn Tryz.prog 27 [wlA w] [] (wN (Q2z w)) []:=by
 have f:=Q8v true w hw
 have g:=lg.sumF_fn false w.L (Nat.le_trans hw.l.1 (by decide)) hw.l.2
 unfold Q2z
 cases e:Q1u w<;>simp only[e,if_true,if_false,Bool.false_eq_true] at f ⊢
 all_goals(refine Q1c Tryz.func27 rfl (by rfl) ?_;simp only[Tryz.ntmps27,List.length_cons,List.length_nil,Nat.reduceAdd,Nat.reduceSub,List.replicate,List.cons_append,List.nil_append])
 all_goals(repeat(any_goals(first|((with_reducible refine Q3p ?_ ?_);rfl;intro K hK;apply Q1s;rfl;rfl;(focus(simp only[go_sem];try rfl));(focus(simp only[go_sem];try rfl));rfl;(first|omega);(first|omega);(first|omega);(simp only[go_sem];rfl);rfl;(focus((simp only[unC,Option.map_some]);(try rfl)));(simp only[go_sem];refine hK _ ?_;clear hK K))|((with_reducible refine Q0p ?_ ?_ ?_);rfl;rfl;intro K hK;((first|(apply Q0k (f);rfl;rfl;rfl;rfl;exact Tryz.func28)|(apply Q0k (g);rfl;rfl;rfl;rfl;exact Tryz.func50));kernel_rfl;rfl;(focus((simp only[go_sem]);(try rfl);done));(first|rfl));(simp only[go_sem];refine hK _ ?_;clear hK K))|((with_reducible refine Q0d ?_ ?_);rfl;intro K hK;simp only[go_sem];((repeat(refine ndI (by first|assumption) ?_));refine hK _ ?_;clear hK K))|(with_reducible first|(refine Q0c ?_;refine hR _ ?_;clear hR R)|((first|refine Q0e ?_);intro Ψ hΨ hΨ')|(refine Q0b ?_;intro R hR)|(refine hΨ _ ?_;clear hΨ hΨ' Ψ)|refine Q0h ?_|refine Q0l ?_)|((with_reducible refine hΨ' _ _ ?_ ?_);(focus(simp;done));clear hΨ hΨ' Ψ)|((with_reducible apply Q0f);rfl;rfl;all_goals(intro hc;first|(cases hc;done)|(try simp only at hc))))))
 all_goals(refine⟨by simp,⟨_,?_,AV.le_refl _⟩,Q0i (by simp[leH,hget])⟩;simp only[Tryz.results27,resL,ldA,Q0z,go_sem])
 all_goals rfl
theorem Q8c(w:Wl)(hw:w.ok):Fn Tryz.prog 15 [wlA w] [] (wN (Q2a w)) []:=by
 have f:=Q8v true w hw
 have g:=totalS_fn false w.S hw.kl
 unfold Q2a
 cases e:Q1u w<;>simp only[e,if_true,if_false,Bool.false_eq_true] at f ⊢
 all_goals(refine Q1c Tryz.func15 rfl (by rfl) ?_;simp only[Tryz.ntmps15,List.length_cons,List.length_nil,Nat.reduceAdd,Nat.reduceSub,List.replicate,List.cons_append,List.nil_append])
 all_goals(repeat(any_goals(first|((with_reducible refine Q3p ?_ ?_);rfl;intro K hK;apply Q1s;rfl;rfl;(focus(simp only[go_sem];try rfl));(focus(simp only[go_sem];try rfl));rfl;(first|omega);(first|omega);(first|omega);(simp only[go_sem];rfl);rfl;(focus((simp only[unC,Option.map_some]);(try rfl)));(simp only[go_sem];refine hK _ ?_;clear hK K))|((with_reducible refine Q0p ?_ ?_ ?_);rfl;rfl;intro K hK;((first|(apply Q0k (f);rfl;rfl;rfl;rfl;exact Tryz.func28)|(apply Q0k (g);rfl;rfl;rfl;rfl;exact Tryz.func40));kernel_rfl;rfl;(focus((simp only[go_sem]);(try rfl);done));(first|rfl));(simp only[go_sem];refine hK _ ?_;clear hK K))|((with_reducible refine Q0d ?_ ?_);rfl;intro K hK;simp only[go_sem];((repeat(refine ndI (by first|assumption) ?_));refine hK _ ?_;clear hK K))|(with_reducible first|(refine Q0c ?_;refine hR _ ?_;clear hR R)|((first|refine Q0e ?_);intro Ψ hΨ hΨ')|(refine Q0b ?_;intro R hR)|(refine hΨ _ ?_;clear hΨ hΨ' Ψ)|refine Q0h ?_|refine Q0l ?_)|((with_reducible refine hΨ' _ _ ?_ ?_);(focus(simp;done));clear hΨ hΨ' Ψ)|((with_reducible apply Q0f);rfl;rfl;all_goals(intro hc;first|(cases hc;done)|(try simp only at hc))))))
 all_goals(refine⟨by simp,⟨_,?_,AV.le_refl _⟩,Q0i (by simp[leH,hget])⟩;simp only[Tryz.results15,resL,ldA,Q0z,go_sem])
 all_goals rfl
end
section
open Go.RowKit
open Nat (reduceBEq)
set_option maxRecDepth 20000
set_option maxHeartbeats 2000000
structure Rp where
 a:Int
 h:Nat
 c:Nat
 g:Int
 k:Bool
 b:Bool
def Rp.ok(r:Rp):Prop:=U r.a∧r.h<WW∧r.c<WW∧U r.g
def Rp.pv(r:Rp):List PV:=[.v (.int .u64 r.a),.v (.int .u64 (l0 r.h)),.v (.int .u64 (l1 r.h)),.v (.int .u64 (l2 r.h)),.v (.int .u64 (l3 r.h)),.v (.int .u64 (l0 r.c)),.v (.int .u64 (l1 r.c)),.v (.int .u64 (l2 r.c)),.v (.int .u64 (l3 r.c)),.v (.int .u64 r.g),.v (.bool r.k),.v (.bool r.b)]
theorem X1q(r:Rp):r.pv.length=12:=rfl
abbrev rpV(l:List Rp):PV:=.sl false 12 l.length (l.flatMap Rp.pv)
abbrev rsl(ex:Bool)(l:List Rp):AV:=.c (.sl ex 12 l.length (l.flatMap Rp.pv))
abbrev rpA(r:Rp):AV:=.agg [vi .u64 r.a,vi .u64 (l0 r.h),vi .u64 (l1 r.h),vi .u64 (l2 r.h),vi .u64 (l3 r.h),vi .u64 (l0 r.c),vi .u64 (l1 r.c),vi .u64 (l2 r.c),vi .u64 (l3 r.c),vi .u64 r.g,vb r.k,vb r.b]
theorem X5t{l:List Rp}{i:Nat}{y:Rp}(h:l[i]? = some y):((l.flatMap Rp.pv).drop (i*12)).take 12=[.v (.int .u64 y.a),.v (.int .u64 (l0 y.h)),.v (.int .u64 (l1 y.h)),.v (.int .u64 (l2 y.h)),.v (.int .u64 (l3 y.h)),.v (.int .u64 (l0 y.c)),.v (.int .u64 (l1 y.c)),.v (.int .u64 (l2 y.c)),.v (.int .u64 (l3 y.c)),.v (.int .u64 y.g),.v (.bool y.k),.v (.bool y.b)]:=Q4m (f:=Rp.pv) X1q h
def csL(l:List Rp):List Nat:=l.map Rp.c
theorem csL_lt{l:List Rp}(ok:∀r∈l,r.ok):∀x∈csL l,x<WW:=fun x hx=>by
 obtain⟨r,hr,rfl⟩:=List.mem_map.1 hx
 exact(ok r hr).2.2.1
abbrev stC(ex:Bool)(l:List Rp)(r:Nat)(out:List Nat)(i:Int):St:=⟨[rsl ex l,.any,.c (.v (.slice none 0 0)),.row r 27 4 out.length,.any,.any,rsl ex l,vi .i64 l.length,vi .i64 i,.any,.any,.any,.any,.any,.any,.any,.any,.any,.any],[(r,rcW out)]⟩
theorem stC_rn(ex:Bool)(l:List Rp)(out:List Nat)(i:Int):(stC ex l 16 out i).to (stC ex l 500 out i):=by
 refine(St.to.rn (fun r=>if r=16 then 500 else r) (fun r=>if r=500 then 16 else r) [16] (by simp[AV.inNL,AV.inN]) (by simp) (by simp[inH,AV.inNL,AV.inN,Q6e]) (by simp) (by simp)).trans (St.to.of_le (St.le_of (by simp[leT,AV.renL,AV.ren]) (by simp[leH,hget,renH,AV.renL,AV.ren,Q4y])))
theorem X2z(ex:Bool)(l:List Rp)(hl:l.length≤900):Fn Tryz.prog 18 [rsl ex l] [] (.row 500 27 4 l.length) [(500,rcW (csL l))]:=by
 (refine Q1c Tryz.func18 rfl (by rfl) ?_;simp only[Tryz.ntmps18,List.length_cons,List.length_nil,Nat.reduceAdd,Nat.reduceSub,List.replicate,List.cons_append,List.nil_append])
 (repeat(any_goals(first|((with_reducible refine Q0d ?_ ?_);rfl;intro K hK;simp only[go_sem];((repeat(refine ndI (by first|assumption) ?_));refine hK _ ?_;clear hK K))|(with_reducible first|(refine Q0c ?_;refine hR _ ?_;clear hR R)|((first|refine Q0e ?_|refine Q0g ?_);intro Ψ hΨ hΨ')|(refine Q0b ?_;intro R hR)|(refine hΨ _ ?_;clear hΨ hΨ' Ψ)))))
 refine Q4n l.length (fun i=>stC ex l 500 ((l.take i).map Rp.c) i) ?_ ?_
 · refine(St.to.nilrow 3 500 27 4 rfl (by simp) (by simp[St.free,Q1j,AV.refs,AV.refsL]) (by omega)).trans (St.to.of_le (St.le_of (by simp[leT]) (by simp[leH,hget,hput,rcW])))
 · intro i hi Ψ hΨ hΨ'
   have k8:l.length<9223372036854775808:=by omega
   have ln:((l.take i).map Rp.c).length≤900:=by rw[List.length_map,List.length_take];omega
   rcases Nat.lt_or_ge i l.length with hlt|hge
   · obtain⟨x,hx⟩:∃x,l[i]? = some x:=⟨_,List.getElem?_eq_getElem hlt⟩
     have k1:(decide ((i:Int)<(l.length:Int)))=true:=decide_eq_true (by omega)
     have k2:=X5t hx
     have k7:(i:Int)+1=((i+1:Nat):Int):=by omega
     have k3:(l.take (i+1)).map Rp.c=(l.take i).map Rp.c++[x.c]:=by rw[List.take_add_one,hx,List.map_append];rfl
     (try dsimp only at hΨ ⊢)
     rw[k3] at hΨ
     generalize (l.take i).map Rp.c=out at hΨ ln ⊢
     have e1:=Q8i out
     have e2:rcW (out++[x.c])=rcW out++(wpv x.c).map .c:=by unfold rcW;rw[List.flatMap_append];simp[List.flatMap_cons]
     have e3:∀r,AV.refsL r (rcW out)=false:=fun r=>Q0m r _
     (have W:=ndI k1 (ndI k2 (ndI k7 (ndI e1 (ndI e3 @wrI))));(repeat(any_goals(first|((with_reducible refine Q0d ?_ ?_);rfl;intro K hK;simp(disch:=omega) only[go_sem,W];((repeat(refine ndI (by first|assumption|omega|rfl) ?_));refine hK _ ?_;clear hK K))|(with_reducible first|(refine Q0c ?_;refine hR _ ?_;clear hR R)|((first|refine Q0e ?_|refine Q0g ?_);intro Ψ hΨ hΨ')|(refine Q0b ?_;intro R hR)|(refine hΨ _ ?_;clear hΨ hΨ' Ψ)|refine Q0h ?_)|((with_reducible refine hΨ' _ _ ?_ ?_);(focus(simp;done));clear hΨ hΨ' Ψ)|((with_reducible apply Q0f);rfl;rfl;all_goals(intro hc;first|(cases hc;done)|(try simp only at hc)))))))
     all_goals exact hΨ _ hlt (St.to.trans (St.to.of_le (τ:=stC ex l 16 (out++[x.c]) ((i+1:Nat):Int)) (St.le_of (by simp[leT]) (by simp[leH,hget,e2,wpv]))) (stC_rn ex l _ _))
   · have k1:(decide ((i:Int)<(l.length:Int)))=false:=decide_eq_false (by omega)
     rw[List.take_of_length_le hge]
     (try dsimp only)
     (repeat(any_goals(first|((with_reducible refine Q0d ?_ ?_);rfl;intro K hK;simp only[go_sem,k1];((repeat(refine ndI (by first|assumption) ?_));refine hK _ ?_;clear hK K))|(with_reducible first|(refine Q0c ?_;refine hR _ ?_;clear hR R)|((first|refine Q0e ?_);intro Ψ hΨ hΨ')|(refine Q0b ?_;intro R hR)|(refine hΨ _ ?_;clear hΨ hΨ' Ψ)|refine Q0l ?_|refine Q0v ?_)|((with_reducible refine hΨ' _ _ ?_ ?_);(focus(simp;done));clear hΨ hΨ' Ψ)|((with_reducible apply Q0f);rfl;rfl;all_goals(intro hc;first|(cases hc;done)|(try simp only at hc))))))
     exact⟨by simp,⟨_,rfl,by show AV.le (AV.row 500 27 4 (l.map Rp.c).length) _;rw[List.length_map];exact AV.le_refl _⟩,Q0i (by simp[leH,hget,csL])⟩
theorem costs_fn(ex:Bool)(l:List Rp)(hl:l.length≤900):Fn Tryz.prog 18 [rsl ex l] [] (wsl false (csL l)) []:=by
 have k:=(X2z ex l hl).frzN (d:=500) (pcs:=(csL l).flatMap wpv) rfl
 have e1:((csL l).flatMap wpv).length=l.length*4:=by rw[Q1e Q5g];unfold csL;rw[List.length_map]
 have e2:(csL l).length=l.length:=by unfold csL;rw[List.length_map]
 simpa [-List.length_flatMap,wsl,e1,e2,AV.frz,AV.frzL,frzH,vi] using k
abbrev twA(n:Nat):AV:=.agg [vb (decide (WW≤n)),vi .u64 (l0 (n%WW)),vi .u64 (l1 (n%WW)),vi .u64 (l2 (n%WW)),vi .u64 (l3 (n%WW))]
theorem X1e(x y:Nat)(hx:x<WW)(hy:y<WW):Fn Tryz.prog 31 [wN x,wN y] [] (twA (x+y)) []:=by
 have f:=add_fn x y hx hy
 unfold twA
 generalize (x+y)%WW=m at f ⊢
 generalize decide (WW≤x+y)=q at f ⊢
 (refine Q1c Tryz.func31 rfl (by rfl) ?_;simp only[Tryz.ntmps31,List.length_cons,List.length_nil,Nat.reduceAdd,Nat.reduceSub,List.replicate,List.cons_append,List.nil_append])
 (repeat(any_goals(first|((with_reducible refine Q0p ?_ ?_ ?_);rfl;rfl;intro K hK;((apply Q0k (f);rfl;rfl;rfl;rfl;exact Tryz.func20);kernel_rfl;rfl;(focus((simp only[go_sem]);(try rfl);done));(first|rfl));(simp only[go_sem];refine hK _ ?_;clear hK K))|((with_reducible refine Q0d ?_ ?_);rfl;intro K hK;simp only[go_sem];((repeat(refine ndI (by first|assumption) ?_));refine hK _ ?_;clear hK K))|(with_reducible first|(refine Q0c ?_;refine hR _ ?_;clear hR R)|((first|refine Q0e ?_);intro Ψ hΨ hΨ')|(refine Q0b ?_;intro R hR)|(refine hΨ _ ?_;clear hΨ hΨ' Ψ)|refine Q0l ?_))))
 all_goals(refine⟨by simp,⟨_,?_,AV.le_refl _⟩,Q0i (by simp[leH,hget])⟩;simp only[Tryz.results31,resL,ldA,Q0z,go_sem])
theorem lessT_fn(m n:Nat)(hm:m<2*WW)(hn:n<2*WW):Fn Tryz.prog 30 [twA m,twA n] [] (vb (decide (m<n))) []:=by
 have f:=X5j (m%WW) (n%WW) (Nat.mod_lt _ (by decide)) (Nat.mod_lt _ (by decide))
 have hW:0<WW:=by decide
 unfold twA
 have m1:m%WW=if WW≤m then m-WW else m:=by
  split
  · rw[Nat.mod_eq_sub_mod (by assumption),Nat.mod_eq_of_lt (by omega)]
  · exact Nat.mod_eq_of_lt (by omega)
 have n1:n%WW=if WW≤n then n-WW else n:=by
  split
  · rw[Nat.mod_eq_sub_mod (by assumption),Nat.mod_eq_of_lt (by omega)]
  · exact Nat.mod_eq_of_lt (by omega)
 generalize hx:m%WW=x at f m1 ⊢
 generalize hy:n%WW=y at f n1 ⊢
 generalize WW=W at *
 by_cases h1:W≤m<;>by_cases h2:W≤n
 · have e:decide ((if x<y then(-1:Int) else if y<x then 1 else 0)<0)=decide (m<n):=by
    rw[if_pos h1] at m1
    rw[if_pos h2] at n1
    refine decide_eq_decide.2 ?_
    repeat' split
    all_goals omega
   generalize (if x<y then(-1:Int) else if y<x then 1 else 0)=z at f e
   rw[←e,decide_eq_true h1,decide_eq_true h2]
   (refine Q1c Tryz.func30 rfl (by rfl) ?_;simp only[Tryz.ntmps30,List.length_cons,List.length_nil,Nat.reduceAdd,Nat.reduceSub,List.replicate,List.cons_append,List.nil_append])
   (repeat(any_goals(first|((with_reducible refine Q0p ?_ ?_ ?_);rfl;rfl;intro K hK;((apply Q0k (f);rfl;rfl;rfl;rfl;exact Tryz.func36);kernel_rfl;rfl;(focus((simp only[go_sem,bne_self_eq_false]);(try rfl);done));(first|rfl));(simp only[go_sem,bne_self_eq_false];refine hK _ ?_;clear hK K))|((with_reducible refine Q0d ?_ ?_);rfl;intro K hK;simp only[go_sem,bne_self_eq_false];((repeat(refine ndI (by first|assumption) ?_));refine hK _ ?_;clear hK K))|(with_reducible first|(refine Q0c ?_;refine hR _ ?_;clear hR R)|((first|refine Q0e ?_);intro Ψ hΨ hΨ')|(refine Q0b ?_;intro R hR)|(refine hΨ _ ?_;clear hΨ hΨ' Ψ)|refine Q0h ?_|refine Q0l ?_)|((with_reducible apply Q0f);rfl;rfl;all_goals(intro hc;first|(cases hc;done)|(try simp only at hc))))))
   all_goals(refine⟨by simp,⟨_,?_,AV.le_refl _⟩,Q0i (by simp[leH,hget])⟩;simp only[Tryz.results30,resL,ldA,Q0z,go_sem])
 · rw[decide_eq_false (show ¬m<n by omega),decide_eq_true h1,decide_eq_false h2]
   (refine Q1c Tryz.func30 rfl (by rfl) ?_;simp only[Tryz.ntmps30,List.length_cons,List.length_nil,Nat.reduceAdd,Nat.reduceSub,List.replicate,List.cons_append,List.nil_append])
   (repeat(any_goals(first|((with_reducible refine Q0d ?_ ?_);rfl;intro K hK;simp only[go_sem,bne_self_eq_false];((repeat(refine ndI (by first|assumption) ?_));refine hK _ ?_;clear hK K))|(with_reducible first|(refine Q0c ?_;refine hR _ ?_;clear hR R)|((first|refine Q0e ?_);intro Ψ hΨ hΨ')|(refine Q0b ?_;intro R hR)|(refine hΨ _ ?_;clear hΨ hΨ' Ψ)|refine Q0l ?_)|((with_reducible refine hΨ' _ _ ?_ ?_);(focus(simp;done));clear hΨ hΨ' Ψ)|((with_reducible apply Q0f);rfl;rfl;all_goals(intro hc;first|(cases hc;done)|(try simp only at hc))))))
   all_goals(refine⟨by simp,⟨_,?_,AV.le_refl _⟩,Q0i (by simp[leH,hget])⟩;simp only[Tryz.results30,resL,ldA,Q0z,go_sem])
 · rw[decide_eq_true (show m<n by omega),decide_eq_false h1,decide_eq_true h2]
   (refine Q1c Tryz.func30 rfl (by rfl) ?_;simp only[Tryz.ntmps30,List.length_cons,List.length_nil,Nat.reduceAdd,Nat.reduceSub,List.replicate,List.cons_append,List.nil_append])
   (repeat(any_goals(first|((with_reducible refine Q0d ?_ ?_);rfl;intro K hK;simp only[go_sem,bne_self_eq_false];((repeat(refine ndI (by first|assumption) ?_));refine hK _ ?_;clear hK K))|(with_reducible first|(refine Q0c ?_;refine hR _ ?_;clear hR R)|((first|refine Q0e ?_);intro Ψ hΨ hΨ')|(refine Q0b ?_;intro R hR)|(refine hΨ _ ?_;clear hΨ hΨ' Ψ)|refine Q0l ?_)|((with_reducible refine hΨ' _ _ ?_ ?_);(focus(simp;done));clear hΨ hΨ' Ψ)|((with_reducible apply Q0f);rfl;rfl;all_goals(intro hc;first|(cases hc;done)|(try simp only at hc))))))
   all_goals(refine⟨by simp,⟨_,?_,AV.le_refl _⟩,Q0i (by simp[leH,hget])⟩;simp only[Tryz.results30,resL,ldA,Q0z,go_sem])
 · have e:decide ((if x<y then(-1:Int) else if y<x then 1 else 0)<0)=decide (m<n):=by
    rw[if_neg h1] at m1
    rw[if_neg h2] at n1
    refine decide_eq_decide.2 ?_
    repeat' split
    all_goals omega
   generalize (if x<y then(-1:Int) else if y<x then 1 else 0)=z at f e
   rw[←e,decide_eq_false h1,decide_eq_false h2]
   (refine Q1c Tryz.func30 rfl (by rfl) ?_;simp only[Tryz.ntmps30,List.length_cons,List.length_nil,Nat.reduceAdd,Nat.reduceSub,List.replicate,List.cons_append,List.nil_append])
   (repeat(any_goals(first|((with_reducible refine Q0p ?_ ?_ ?_);rfl;rfl;intro K hK;((apply Q0k (f);rfl;rfl;rfl;rfl;exact Tryz.func36);kernel_rfl;rfl;(focus((simp only[go_sem,bne_self_eq_false]);(try rfl);done));(first|rfl));(simp only[go_sem,bne_self_eq_false];refine hK _ ?_;clear hK K))|((with_reducible refine Q0d ?_ ?_);rfl;intro K hK;simp only[go_sem,bne_self_eq_false];((repeat(refine ndI (by first|assumption) ?_));refine hK _ ?_;clear hK K))|(with_reducible first|(refine Q0c ?_;refine hR _ ?_;clear hR R)|((first|refine Q0e ?_);intro Ψ hΨ hΨ')|(refine Q0b ?_;intro R hR)|(refine hΨ _ ?_;clear hΨ hΨ' Ψ)|refine Q0h ?_|refine Q0l ?_)|((with_reducible apply Q0f);rfl;rfl;all_goals(intro hc;first|(cases hc;done)|(try simp only at hc))))))
   all_goals(refine⟨by simp,⟨_,?_,AV.le_refl _⟩,Q0i (by simp[leH,hget])⟩;simp only[Tryz.results30,resL,ldA,Q0z,go_sem])
end
section
open Go.RowKit
open Nat (reduceBEq)
attribute [-go_sem] IntKind.bits
set_option maxRecDepth 20000
set_option maxHeartbeats 2000000
structure Bl where
 a:Int
 o:Nat
 c:Nat
def blL(b:Bl):List Value:=[.int .u64 b.a,.int .i64 b.o,.int .u64 (l0 b.c),.int .u64 (l1 b.c),.int .u64 (l2 b.c),.int .u64 (l3 b.c)]
def Bl.pv(b:Bl):List PV:=[.v (.int .u64 b.a),.v (.int .i64 b.o),.v (.int .u64 (l0 b.c)),.v (.int .u64 (l1 b.c)),.v (.int .u64 (l2 b.c)),.v (.int .u64 (l3 b.c))]
theorem X5k(b:Bl):b.pv.length=6:=rfl
abbrev blA(b:Bl):AV:=.agg [vi .u64 b.a,vi .i64 b.o,vi .u64 (l0 b.c),vi .u64 (l1 b.c),vi .u64 (l2 b.c),vi .u64 (l3 b.c)]
abbrev bsl(ex:Bool)(l:List Bl):AV:=.c (.sl ex 6 l.length (l.flatMap Bl.pv))
abbrev blT:Nat:=37
def rcBl(l:List Bl):List AV:=(l.flatMap Bl.pv).map .c
theorem X4p(l:List Bl):(rcBl l).length=l.length*6:=by unfold rcBl;rw[List.length_map,Q1e X5k]
theorem bl_at{l:List Bl}{i:Nat}{y:Bl}(h:l[i]? = some y):((l.flatMap Bl.pv).drop (i*6)).take 6=[.v (.int .u64 y.a),.v (.int .i64 y.o),.v (.int .u64 (l0 y.c)),.v (.int .u64 (l1 y.c)),.v (.int .u64 (l2 y.c)),.v (.int .u64 (l3 y.c))]:=Q4m (f:=Bl.pv) X5k h
def bl0:Bl:=⟨0,0,0⟩
abbrev imL(m:List (Int×Bl)):List (Value×Value):=im (mv blL) m
theorem zero_bl(w:World):(zeroValue blT).run Tryz.prog w = .ok (mv blL bl0) w:=run_zeroV (by kernel_rfl) w
theorem lkl_fn{o:Oper}{σ : St}{K:St→Prop}{m:List (Int×Bl)}{x ix:Operand}{b:Nat}{k:Int}(ho:o.op = .lookup 64 x ix false)(hx:Q0j x=true)(hi:Q0j ix=true)(h1:σ.ev x = .c (.mp b (imL m)))(h2:σ.ev ix=vi .u64 k)(hK:K (σ.put o.dst (blA (mget bl0 m k)))):OpA Tryz.prog o σ K:=
 X3q blL bl0 m ho hx hi Tryz.underlying64 Tryz.underlying35 zero_bl h1 h2 (fun v x hx=>by simp[blL] at hx;rcases hx with rfl|rfl|rfl|rfl|rfl|rfl<;>rfl) hK
theorem mul_fn{E0:Env}{o:Oper}{σ : St}{K:St→Prop}{m:List (Int×Bl)}{x ix vx:Operand}{b:Nat}{k:Int}{v:Bl}(ho:o.op = .mapUpdate 64 x ix vx)(hd:o.dst=none)(hx:Q0j x=true)(hi:Q0j ix=true)(hvx:Q0j vx=true)
 (h1:σ.ev x = .c (.mp b (imL m))) (h2:σ.ev ix=vi .u64 k) (h3:σ.ev vx=blA v) (hb:E0.w.heap.size≤b) (hH:Q6w σ.H=false) (hK:K ⟨σ.T.map (AV.mpU b (imL (mput m k v))),σ.H⟩):OpE (fun E=>E=E0) Tryz.prog o σ K:=
 Q9j blL m ho hd hx hi hvx Tryz.underlying64 Tryz.underlying35 h1 h2 h3 hb hH hK
def Q5f(r:Rp)(b:Bl):Bl:=⟨r.a,b.o+1,(b.c+r.c)%WW⟩
def Q5z(l:List Rp):List (Int×Bl):=l.foldl (fun m r=>mput m r.a (Q5f r (mget bl0 m r.a))) []
theorem X6d{l:List Rp}{i:Nat}{y:Rp}(h:l[i]? = some y):Q5z (l.take (i+1))=mput (Q5z (l.take i)) y.a (Q5f y (mget bl0 (Q5z (l.take i)) y.a)):=by
 unfold Q5z
 rw[List.take_add_one,h,List.foldl_append]
 rfl
theorem X4w{V:Type}(k:Int)(v:V):∀m:List (Int×V),m.length≤(mput m k v).length∧(mput m k v).length≤m.length+1
 |[]=>⟨Nat.zero_le _,Nat.le_refl _⟩
 |p::m=>by
  have ih:=X4w k v m
  unfold mput
  split
  · simp
  · simp only[List.length_cons]
    omega
def BlOk(n:Nat)(m:List (Int×Bl)):Prop:=m.length≤n∧∀a,(mget bl0 m a).o≤n∧(mget bl0 m a).c<WW
theorem X1f(l:List Rp):BlOk l.length (Q5z l):=by
 have key:∀(l:List Rp) (m:List (Int×Bl)) (n:Nat),BlOk n m→BlOk (n+l.length) (l.foldl (fun m r=>mput m r.a (Q5f r (mget bl0 m r.a))) m):=by
  intro l
  induction l with
  |nil=>intro m n h;exact h
  |cons r l ih=>
   intro m n h
   have h2:BlOk (n+1) (mput m r.a (Q5f r (mget bl0 m r.a))):=by
    refine⟨by have:=X4w r.a (Q5f r (mget bl0 m r.a)) m;have:=h.1;omega,fun a=>?_⟩
    rw[Q6d]
    have:=h.2 r.a
    have h3:=h.2 a
    split
    · exact⟨by show(mget bl0 m r.a).o+1≤n+1;omega,Nat.mod_lt _ (by decide)⟩
    · exact⟨by omega,h3.2⟩
   have:=ih _ _ h2
   rw[List.foldl_cons,List.length_cons,show n+(l.length+1)=n+1+l.length by omega]
   exact this
 have:=key l [] 0 ⟨Nat.le_refl _,fun a=>⟨Nat.le_refl _,show 0<WW by decide⟩⟩
 rw[Nat.zero_add] at this
 exact this
def Q4p(l:List Rp):List Bl:=(srtI ((Q5z l).map (·.1))).map (mget bl0 (Q5z l))
theorem raK_at{l:List Int}{i:Nat}{a:Int}(h:l[i]? = some a):(raK l)[i]? = some (vi .u64 a):=by
 rw[rI_raK,rI_eq]
 simp[h]
theorem X2l(N:List Nat)(l:List Bl):AV.inNL N (rcBl l)=true:=Q1a N _
theorem X1t(ρ : Nat→Nat)(l:List Bl):AV.renL ρ (rcBl l)=rcBl l:=Q0q ρ _
abbrev stBo(mb:Nat)(m:List (Int×Bl))(ks:List Int)(r:Nat)(out:List Bl)(j:Int):St:=⟨[.any,.any,.any,.c (.mp mb (imL m)),.any,.any,.any,.row r blT 6 out.length,.any,.any,.any,.any,.any,.any,.any,.any,.any,.any,.any,.any,.any,.any,.any,.any,.any,.any,.any,.any,.any,.any,.any,.any,.any,.any,.any,.any,.any,.any,.any,.any,.any,.any,.any,.any,.row 600 adT 1 ks.length,vi .i64 ks.length,vi .i64 j,.any,.any,.any,.any,.any,.any,.any,.any,.any,.any,.any],[(600,raK ks),(r,rcBl out)]⟩
theorem stBo_rn(mb:Nat)(m:List (Int×Bl))(ks:List Int)(out:List Bl)(j:Int):(stBo mb m ks 55 out j).to (stBo mb m ks 500 out j):=by
 refine(St.to.rn (fun r=>if r=55 then 500 else r) (fun r=>if r=500 then 55 else r) [55,600] (by simp[AV.inNL,AV.inN]) (by simp) (by simp[inH,AV.inNL,AV.inN,X2l,Q1a]) (by simp) (by simp)).trans (St.to.of_le (St.le_of (by simp[leT,AV.renL,AV.ren]) (by simp[leH,hget,renH,AV.renL,AV.ren,X1t,Q0q])))
theorem rp_mp(l:List Rp):PV.hasMpL (l.flatMap Rp.pv)=false:=X3y _ (fun _=>rfl) l
theorem bills_row(ex:Bool)(l:List Rp)(hl:l.length≤900)(ok:∀r∈l,r.ok):Fn Tryz.prog 9 [rsl ex l] [] (.row 500 blT 6 (Q4p l).length) [(500,rcBl (Q4p l))]:=by
 obtain⟨res,hres⟩:∃r,Q4p l=r:=⟨_,rfl⟩
 rw[hres]
 refine Fn.known fun E0=>?_
 (refine X5e Tryz.func9 rfl (by rfl) ?_;simp only[Tryz.ntmps9,List.length_cons,List.length_nil,Nat.reduceAdd,Nat.reduceSub,List.replicate,List.cons_append,List.nil_append])
 (repeat(any_goals(first|((with_reducible refine Q0d ?_ ?_);rfl;intro K hK;simp only[go_sem];((repeat(refine ndI (by first|assumption) ?_));refine hK _ ?_;clear hK K))|((with_reducible first|refine AWE.seqI ?_|refine AWE.blockI ?_);intro Ψ hΨ hΨ')|((with_reducible apply AWE.regionM);rfl;rfl;rfl;rfl;intro R hR;simp only[List.take_succ_cons,List.take_zero,List.drop_succ_cons,List.drop_zero,List.drop_nil] at hR ⊢)|(with_reducible refine AWE.ofR ?_)|((with_reducible apply X3o);rfl;intro mb umb R hR;simp only[go_sem])|(with_reducible first|(refine Q0c ?_;refine hR _ ?_;clear hR R)|(refine Q0b ?_;intro R hR)|(refine hΨ _ ?_;clear hΨ hΨ' Ψ)))))
 refine AWE.loopI (α:={i:Nat // i≤l.length}) (fun i=>⟨[rsl ex l,.any,.any,.c (.mp mb (imL (Q5z (l.take i.1)))),.any,.any,.any,.any,.any,.any,.any,rsl ex l,vi .i64 l.length,vi .i64 (i.1:Int),.any,.any,.any,.any,.any,.any,.any,.any,.any,.any,.any,.any,.any,.any,.any,.any,.any,.any,.any,.any,.any,.any,.any,.any,.any,.any,.any,.any,.any,.any,.any,.any,.any,.any,.any,.any,.any,.any,.any,.any,.any,.any,.any,.any],[]⟩) (fun i=>l.length-i.1) ⟨0,Nat.zero_le _⟩ (St.to.of_le (St.le_of (by simp[leT,Q5z,im]) (by simp[leH,hget]))) ?_
 rintro ⟨i,hi⟩ Ψ hΨ hΨ'
 (try dsimp only at hi hΨ ⊢)
 rcases Nat.lt_or_ge i l.length with hlt|hge
 · obtain⟨y,hy⟩:∃y,l[i]? = some y:=⟨_,List.getElem?_eq_getElem hlt⟩
   have k1:(decide ((i:Int)<(l.length:Int)))=true:=decide_eq_true (by omega)
   have k2:=X5t hy
   have k7:(i:Int)+1=((i+1:Nat):Int):=by omega
   have bo:=(X1f (l.take i)).2 y.a
   have yo:=ok y (List.mem_of_getElem? hy)
   have hli:(l.take i).length≤900:=by rw[List.length_take];omega
   have hΨ1:∀σ',σ'.to ⟨[rsl ex l,.any,.any,.c (.mp mb (imL (mput (Q5z (l.take i)) y.a (Q5f y (mget bl0 (Q5z (l.take i)) y.a))))),.any,.any,.any,.any,.any,.any,.any,rsl ex l,vi .i64 l.length,vi .i64 ((i+1:Nat):Int),.any,.any,.any,.any,.any,.any,.any,.any,.any,.any,.any,.any,.any,.any,.any,.any,.any,.any,.any,.any,.any,.any,.any,.any,.any,.any,.any,.any,.any,.any,.any,.any,.any,.any,.any,.any,.any,.any,.any,.any,.any,.any,.any,.any],[]⟩→Ψ .normal σ':=fun σ' h=>hΨ σ' ⟨i+1,hlt⟩ (by dsimp only;omega) (by dsimp only;rw[X6d hy];exact h)
   clear hΨ
   generalize Q5z (l.take i)=m at *
   obtain⟨z,hz⟩:∃z,mget bl0 m y.a=z:=⟨_,rfl⟩
   rw[hz] at bo hΨ1
   have ad:=add_fn z.c y.c bo.2 yo.2.2.1
   have k8:(z.o:Int)+1=((z.o+1:Nat):Int):=by omega
   have hb1:=bo.1
   clear bo yo
   obtain⟨c2,hc2⟩:∃c,(z.c+y.c)%WW=c:=⟨_,rfl⟩
   rw[show Q5f y z=⟨y.a,z.o+1,c2⟩ by unfold Q5f;rw[hc2]] at hΨ1
   rw[hc2] at ad
   clear hc2
   (have W:=ndI k1 (ndI k2 (ndI k7 (ndI k8 @wrI)));(repeat(any_goals(first|((with_reducible refine Q3p ?_ ?_);rfl;intro K hK;apply lkl_fn;rfl;rfl;rfl;rfl;rfl;(simp(disch:=omega) only[go_sem,W,hz];refine hK _ ?_;clear hK K))|((with_reducible refine Q0p ?_ ?_ ?_);rfl;rfl;intro K hK;((apply Q0k (ad);rfl;rfl;rfl;rfl;exact Tryz.func20);kernel_rfl;rfl;(focus((simp(disch:=omega) only[go_sem,W,hz]);(try rfl);done));(first|rfl));(simp(disch:=omega) only[go_sem,W,hz];refine hK _ ?_;clear hK K))|((with_reducible refine Q0d ?_ ?_);rfl;intro K hK;simp(disch:=omega) only[go_sem,W,hz];((repeat(refine ndI (by first|assumption|omega|rfl) ?_));refine hK _ ?_;clear hK K))|((with_reducible first|refine AWE.seqI ?_|refine AWE.blockI ?_);intro Ψ hΨ hΨ')|(with_reducible first|refine AWE.ofSkip ?_)|((with_reducible apply AWE.regionM);rfl;rfl;rfl;rfl;intro R hR;simp only[List.take_succ_cons,List.take_zero,List.drop_succ_cons,List.drop_zero,List.drop_nil] at hR ⊢)|(with_reducible refine AWE.ofR ?_)|((with_reducible apply AWE.cond);rfl;rfl;all_goals(intro hc;first|(cases hc;done)|(try simp only at hc)))|(apply(mul_fn (v:=⟨y.a,z.o+1,c2⟩));rfl;rfl;rfl;rfl;rfl;rfl;rfl;rfl;assumption;(focus(simp only[AV.mpU,Q6w,AV.hasMpA,AV.hasMp,PV.hasMp,PV.hasMpL,Q9q,Bool.or_false,Bool.false_eq_true,if_false,if_true,List.map_cons,List.map_nil,rp_mp];done));intro R hR;simp only[AV.mpU,Q6w,AV.hasMpA,AV.hasMp,PV.hasMp,PV.hasMpL,Q9q,Bool.or_false,Bool.false_eq_true,if_false,if_true,List.map_cons,List.map_nil,rp_mp])|(with_reducible first|(refine Q0c ?_;refine hR _ ?_;clear hR R)|(refine Q0b ?_;intro R hR)|(refine hΨ _ ?_;clear hΨ hΨ' Ψ))|((with_reducible refine hΨ' _ _ ?_ ?_);(focus(simp;done));clear hΨ hΨ' Ψ)))))
   exact hΨ1 _ (St.to.of_le (St.le_of (by simp[leT]) (by simp[leH,hget])))
 · have k1:(decide ((i:Int)<(l.length:Int)))=false:=decide_eq_false (by omega)
   have bm:=X1f l
   rw[List.take_of_length_le hge]
   unfold Q4p at hres
   clear hΨ
   have hΨ:=trivial
   generalize Q5z l=m at *
   have ky:=keysA_fn (mv blL) m mb
   have so:=X3h (mv blL) m (by have:=bm.1;omega) mb
   (repeat(any_goals(first|((with_reducible refine Q0p ?_ ?_ ?_);rfl;rfl;intro K hK;(first|(apply Q1b (ky) (fun r=>43);rfl;rfl;rfl;rfl;exact Tryz.func22;kernel_rfl;rfl;rfl;(intro r hr q hq h;simp(disch:=omega) only[List.map_cons,List.map_nil,List.cons_append,List.nil_append,List.mem_cons,List.not_mem_nil,or_false] at hr hq;(try dsimp only at h);first|omega);(simp(disch:=omega) only[Q1f,Q1y,AV.ren,AV.renL,Q0q,List.mem_cons,List.not_mem_nil,forall_eq_or_imp,forall_eq,Q1t,List.contains_cons,List.contains_nil,AV.refsL,AV.refs,Q0m,AV.inN,AV.inNL,inH,Q1a,go_sem,k1,wrI]))|(apply Q1b (so) (fun r=>if r=1001 then 43 else r);rfl;rfl;rfl;rfl;exact Tryz.func21;kernel_rfl;rfl;rfl;(intro r hr q hq h;simp(disch:=omega) only[List.map_cons,List.map_nil,List.cons_append,List.nil_append,List.mem_cons,List.not_mem_nil,or_false] at hr hq;(try dsimp only at h);first|(rcases hr with rfl|rfl|rfl<;>rcases hq with rfl|rfl|rfl<;>simp at h ⊢));(simp(disch:=omega) only[Q1f,Q1y,AV.ren,AV.renL,Q0q,List.mem_cons,List.not_mem_nil,forall_eq_or_imp,forall_eq,Q1t,List.contains_cons,List.contains_nil,AV.refsL,AV.refs,Q0m,AV.inN,AV.inNL,inH,Q1a,go_sem,k1,wrI])));(simp(disch:=omega) only[Q0x,Q2c,renH,AV.ren,AV.renL,Q0q,go_sem,k1,wrI];refine hK _ ?_;clear hK K))|((with_reducible refine Q0d ?_ ?_);rfl;intro K hK;simp(disch:=omega) only[go_sem,k1,wrI];((repeat(refine ndI (by first|assumption|rfl) ?_));refine hK _ ?_;clear hK K))|((with_reducible first|refine AWE.seqI ?_|refine AWE.blockI ?_);intro Ψ hΨ hΨ')|(with_reducible first|refine AWE.ofExit ?_)|(with_reducible refine AWE.ofR ?_)|((with_reducible apply AWE.cond);rfl;rfl;all_goals(intro hc;first|(cases hc;done)|(try simp only at hc)))|(with_reducible first|(refine Q0c ?_;refine hR _ ?_;clear hR R)|(refine Q0b ?_;intro R hR)|(refine hΨ _ ?_;clear hΨ hΨ' Ψ))|((with_reducible refine hΨ' _ _ ?_ ?_);(focus(simp;done));clear hΨ hΨ' Ψ))))
   obtain⟨ks,hks⟩:∃k,srtI (m.map (·.1))=k:=⟨_,rfl⟩
   rw[hks] at hres
   have hkl:m.length=ks.length:=by rw[←hks];unfold srtI;rw[List.length_mergeSort,List.length_map]
   have hk9:ks.length≤900:=by have:=bm.1;omega
   rw[hks,hkl]
   refine AWE.of ?_
   clear bm so ky hks
   refine Q4n ks.length (fun j=>stBo mb m ks 500 ((ks.take j).map (mget bl0 m)) j) ?_ ?_
   · refine(St.to.nilrow 7 500 blT 6 rfl (by simp) (by simp[St.free,Q1j,AV.refs,AV.refsL,Q0m]) (by omega)).trans (St.to.of_le (St.le_of (by simp[leT]) (by simp[leH,hget,hput,rcBl])))
   · intro j hj Ψ hΨ hΨ'
     have ln:((ks.take j).map (mget bl0 m)).length≤900:=by rw[List.length_map,List.length_take];omega
     rcases Nat.lt_or_ge j ks.length with hjt|hje
     · obtain⟨x,hx⟩:∃x,ks[j]? = some x:=⟨_,List.getElem?_eq_getElem hjt⟩
       have c1:(decide ((j:Int)<(ks.length:Int)))=true:=decide_eq_true (by omega)
       have c2:=raK_at hx
       have c5:(raK ks).length=ks.length:=by rw[List.length_map,Q1e Q5d];simp
       have c7:(j:Int)+1=((j+1:Nat):Int):=by omega
       have c3:(ks.take (j+1)).map (mget bl0 m)=(ks.take j).map (mget bl0 m)++[mget bl0 m x]:=by rw[List.take_add_one,hx,List.map_append];rfl
       (try dsimp only at hΨ ⊢)
       rw[c3] at hΨ
       generalize (ks.take j).map (mget bl0 m)=out at hΨ ln ⊢
       have e1:=X4p out
       have e3:∀r,AV.refsL r (rcBl out)=false:=fun r=>Q0m r _
       have e4:∀r,AV.refsL r (raK ks)=false:=fun r=>Q0m r _
       have hΨ1:=hΨ
       clear hΨ c3
       have e2:rcBl (out++[mget bl0 m x])=rcBl out++(mget bl0 m x).pv.map .c:=by unfold rcBl;rw[List.flatMap_append];simp[List.flatMap_cons]
       (have W:=ndI c1 (ndI c2 (ndI c5 (ndI c7 (ndI e1 (ndI e3 (ndI e4 @wrI))))));(repeat(any_goals(first|((with_reducible refine Q3p ?_ ?_);rfl;intro K hK;apply lkl_fn;rfl;rfl;rfl;rfl;rfl;(simp(disch:=omega) only[go_sem,W,Nat.mul_one];refine hK _ ?_;clear hK K))|((with_reducible refine Q0d ?_ ?_);rfl;intro K hK;simp(disch:=omega) only[go_sem,W,Nat.mul_one];((repeat(refine ndI (by first|assumption|omega|rfl) ?_));refine hK _ ?_;clear hK K))|(with_reducible first|(refine Q0c ?_;refine hR _ ?_;clear hR R)|((first|refine Q0e ?_|refine Q0g ?_);intro Ψ hΨ hΨ')|(refine Q0b ?_;intro R hR)|(refine hΨ _ ?_;clear hΨ hΨ' Ψ)|refine Q0h ?_)|((with_reducible refine hΨ' _ _ ?_ ?_);(focus(simp;done));clear hΨ hΨ' Ψ)|((with_reducible apply Q0f);rfl;rfl;all_goals(intro hc;first|(cases hc;done)|(try simp only at hc)))))))
       all_goals exact hΨ1 _ hjt (St.to.trans (St.to.of_le (τ:=stBo mb m ks 55 (out++[mget bl0 m x]) ((j+1:Nat):Int)) (St.le_of (by simp[leT]) (by simp[leH,hget,e2,Bl.pv]))) (stBo_rn mb m ks _ _))
     · have c1:(decide ((j:Int)<(ks.length:Int)))=false:=decide_eq_false (by omega)
       rw[List.take_of_length_le hje,hres]
       (try dsimp only)
       clear hres
       (repeat(any_goals(first|((with_reducible refine Q0d ?_ ?_);rfl;intro K hK;simp(disch:=omega) only[go_sem,c1];((repeat(refine ndI (by first|assumption|rfl) ?_));refine hK _ ?_;clear hK K))|((with_reducible first|refine AWE.seqI ?_);intro Ψ hΨ hΨ')|(with_reducible first|refine AWE.ofRet ?_)|(with_reducible refine AWE.ofR ?_)|(with_reducible first|(refine Q0c ?_;refine hR _ ?_;clear hR R)|((first|refine Q0e ?_);intro Ψ hΨ hΨ')|(refine Q0b ?_;intro R hR)|(refine hΨ _ ?_;clear hΨ hΨ' Ψ)|refine Q0v ?_)|((with_reducible refine hΨ' _ _ ?_ ?_);(focus(simp;done));clear hΨ hΨ' Ψ)|((with_reducible apply Q0f);rfl;rfl;all_goals(intro hc;first|(cases hc;done)|(try simp only at hc))))))
       all_goals exact⟨by simp,⟨_,rfl,AV.le_refl _⟩,Q0i (by simp[leH,hget])⟩
theorem bills_fn(ex:Bool)(l:List Rp)(hl:l.length≤900)(ok:∀r∈l,r.ok):Fn Tryz.prog 9 [rsl ex l] [] (bsl false (Q4p l)) []:=by
 have k:=(bills_row ex l hl ok).frzN (d:=500) (pcs:=(Q4p l).flatMap Bl.pv) rfl
 have e1:((Q4p l).flatMap Bl.pv).length=(Q4p l).length*6:=Q1e X5k _
 simpa [-List.length_flatMap,bsl,e1,AV.frz,AV.frzL,frzH,vi] using k
end
section
open Go.RowKit
open Nat (reduceBEq)
set_option maxRecDepth 20000
set_option maxHeartbeats 2000000
theorem St.le_setD{T:List AV}{H:List (Nat×List AV)}{k:Nat}{x y:AV}(hx:T.getD k .any=x)(hk:k<T.length)(h:x.le y):(St.mk T H).le (St.mk (T.set k y) H):=
 ⟨by simp,fun i=>by
   show(T.getD i .any).le ((T.set k y).getD i .any)
   rw[List.getD_eq_getElem?_getD,List.getD_eq_getElem?_getD]
   by_cases e:k=i
   · subst e
     rw[List.getElem?_set_self hk,←List.getD_eq_getElem?_getD,hx]
     exact h
   · rw[List.getElem?_set_ne e]
     exact AV.le_refl _,fun _ _ h=>h⟩
theorem St.le_trans{a b c:St}(h:a.le b)(g:b.le c):a.le c:=
 ⟨h.1.trans g.1,fun i S ι w v hv=>g.2 i S ι w v (h.2 i S ι w v hv),fun r cs hr=>h.3 r cs (g.3 r cs hr)⟩
def posD:List Int→Int→Nat
 |[],_=>0
 |y::l,x=>if y<x then posD l x+1 else 0
theorem X3m:∀(l:List Int) (x:Int),posD l x≤l.length
 |[],_=>Nat.le_refl _
 |y::l,x=>by
  have:=X3m l x
  unfold posD
  split
  · rw[List.length_cons];omega
  · exact Nat.zero_le _
theorem posD_lt:∀{l:List Int} {x:Int} {i:Nat} {y:Int},i<posD l x→l[i]? = some y→y<x
 |[],x,i,y,h,hy=>by cases hy
 |z::l,x,i,y,h,hy=>by
  unfold posD at h
  split at h
  · rename_i hz
    cases i with
    |zero=>cases hy;exact hz
    |succ i=>exact posD_lt (Nat.lt_of_succ_lt_succ h) hy
  · omega
theorem posD_ge:∀{l:List Int} {x:Int} {y:Int},l[posD l x]? = some y→x≤y
 |[],x,y,hy=>by cases hy
 |z::l,x,y,hy=>by
  unfold posD at hy
  split at hy
  · exact posD_ge (l:=l) hy
  · rename_i hz
    cases hy
    omega
def insD(l:List Int)(x:Int):List Int:=if l[posD l x]? = some x then l else l.take (posD l x)++([x]++l.drop (posD l x))
def resD(l:List Int):Nat→List Int
 |0=>[]
 |i+1=>match l[i]? with
  |none=>resD l i
  |some x=>insD (resD l i) x
theorem insD_len(l:List Int)(x:Int):(insD l x).length≤l.length+1:=by
 unfold insD
 split
 · omega
 · simp;have:=X3m l x;omega
theorem X0f(l:List Int):∀i,(resD l i).length≤i
 |0=>Nat.le_refl _
 |i+1=>by
  have ih:=X0f l i
  unfold resD
  split
  · omega
  · have:=insD_len (resD l i) ‹Int›;omega
theorem asl_map(l:List Int):l.flatMap apv=l.map fun a=>PV.v (.int .u64 a):=by
 induction l with
 |nil=>rfl
 |cons a l ih=>rw[List.flatMap_cons,ih];rfl
theorem asl_drop(l:List Int)(k:Nat):(l.flatMap apv).drop k=(l.drop k).flatMap apv:=by
 rw[asl_map,asl_map,List.map_drop]
theorem X5s(ex:Bool)(l:List Int)(hl:l.length≤100000):Fn Tryz.prog 23 [asl ex l] [] (asl false (resD l l.length)) []:=by
 obtain⟨tot,htot⟩:∃t,resD l l.length=t:=⟨_,rfl⟩
 rw[htot]
 (refine Q1c Tryz.func23 rfl (by rfl) ?_;simp only[Tryz.ntmps23,List.length_cons,List.length_nil,Nat.reduceAdd,Nat.reduceSub,List.replicate,List.cons_append,List.nil_append])
 (repeat(any_goals(first|((with_reducible refine Q0d ?_ ?_);rfl;intro K hK;simp only[go_sem];((repeat(refine ndI (by first|assumption) ?_));refine hK _ ?_;clear hK K))|(with_reducible first|(refine Q0c ?_;refine hR _ ?_;clear hR R)|((first|refine Q0e ?_|refine Q0g ?_);intro Ψ hΨ hΨ')|(refine Q0b ?_;intro R hR)|(refine hΨ _ ?_;clear hΨ hΨ' Ψ)))))
 refine Q3f l.length (fun i=>⟨[asl ex l,.any,.any,asl false (resD l i),vi .i64 (i:Int),.any,.any,.any,.any,.any,.any,.any,.any,.any,.any,.any,.any,.any,.any,.any,.any,.any,.any,.any,.any,.any,.any,.any,.any,.any,.any,.any,.any,.any,.any,.any,.any,.any,.any,.any,.any,.any,.any,.any,.any,.any,.any,.any,.any,.any,.any,.any,.any,.any,.any,.any,.any,.any,.any],[]⟩) (St.le_trans (St.le_setD (k:=3) (x:=.c (.v (.slice none 0 0))) rfl (by simp) (AV.le_nil false 1)) (St.le_of (by simp[leT,resD]) (by simp[leH]))) ?_
 intro i hi Ψ hΨ hΨ'
 (try dsimp only at hΨ ⊢)
 rcases Nat.lt_or_ge i l.length with hlt|hge
 · have k1:(decide ((i:Int)<(l.length:Int)))=true:=by simp;omega
   have k7:(i:Int)+1=((i+1:Nat):Int):=by omega
   obtain⟨x,hx⟩:∃x,l[i]? = some x:=⟨_,List.getElem?_eq_getElem hlt⟩
   have k2:=X5o hx
   have hol:=X0f l i
   have hrs:resD l (i+1)=insD (resD l i) x:=by
    show(match l[i]? with|none=>_|some x=>_)=_
    rw[hx]
   rw[hrs] at hΨ
   generalize resD l i=out at hol hΨ ⊢
   obtain⟨p,hp⟩:∃p,posD out x=p:=⟨_,rfl⟩
   obtain⟨nxt,hnx⟩:∃r,insD out x=r:=⟨_,rfl⟩
   have hpl:p≤out.length:=by rw[←hp];exact X3m out x
   have hlow:∀a y,a<p→out[a]? = some y→y<x:=fun a y ha hy=>posD_lt (by rw[hp];exact ha) hy
   have hge':∀y,out[p]? = some y→x≤y:=fun y hy=>posD_ge (by rw[hp];exact hy)
   have hdup:out[p]? = some x→nxt=out:=fun h=>by rw[←hnx];unfold insD;rw[hp,if_pos h]
   have hnew:out[p]?≠some x→nxt=out.take p++([x]++out.drop p):=fun h=>by rw[←hnx];unfold insD;rw[hp,if_neg h]
   rw[hnx] at hΨ
   clear hrs hp hnx
   (repeat(any_goals(first|((with_reducible refine Q0d ?_ ?_);rfl;intro K hK;simp(disch:=omega) only[go_sem,k1];((repeat(refine ndI (by first|assumption|rfl) ?_));refine hK _ ?_;clear hK K))|(with_reducible first|(refine Q0c ?_;refine hR _ ?_;clear hR R)|((first|refine Q0e ?_|refine Q0g ?_);intro Ψ hΨ hΨ')|(refine Q0b ?_;intro R hR)|(refine hΨ _ ?_;clear hΨ hΨ' Ψ)|refine Q0h ?_)|((with_reducible apply Q0f);rfl;rfl;all_goals(intro hc;first|(cases hc;done)|(try simp only at hc))))))
   refine Q3f p (fun a=>⟨[asl ex l,.any,.any,asl false out,vi .i64 (i:Int),vi .i64 (a:Int),.any,.any,.any,.any,.any,.any,.any,.any,.any,.any,.any,.any,.any,.any,.any,.any,.any,.any,.any,.any,.any,.any,.any,.any,.any,.any,.any,.any,.any,.any,.any,.any,.any,.any,.any,.any,.any,.any,.any,.any,.any,.any,.any,.any,.any,.any,.any,.any,.any,.any,.any,.any,.any],[]⟩) (St.le_of (by simp[leT]) (by simp[leH])) ?_
   intro a ha Ψ hΨ hΨ'
   (try dsimp only at hΨ ⊢)
   rcases Nat.lt_or_ge a p with halt|hage
   · obtain⟨y,hy⟩:∃y,out[a]? = some y:=⟨_,List.getElem?_eq_getElem (by omega)⟩
     have n1:(decide ((a:Int)<(out.length:Int)))=true:=by simp;omega
     have n2:(decide (y<x))=true:=decide_eq_true (hlow a y halt hy)
     have n3:=X5o hy
     have n7:(a:Int)+1=((a+1:Nat):Int):=by omega
     have hal:a<out.length:=by omega
     (have W:=ndI n1 (ndI n2 (ndI n3 (ndI n7 (ndI k2 @wrI))));(repeat(any_goals(first|((with_reducible refine Q0d ?_ ?_);rfl;intro K hK;simp(disch:=omega) only[go_sem,W,Nat.mul_one];((repeat(refine ndI (by first|assumption|rfl) ?_));refine hK _ ?_;clear hK K))|(with_reducible first|(refine Q0c ?_;refine hR _ ?_;clear hR R)|((first|refine Q0e ?_|refine Q0g ?_);intro Ψ hΨ hΨ')|(refine Q0b ?_;intro R hR)|(refine hΨ _ ?_;clear hΨ hΨ' Ψ)|refine Q0h ?_)|((with_reducible refine hΨ' _ _ ?_ ?_);(focus(simp;done));clear hΨ hΨ' Ψ)|((with_reducible apply Q0f);rfl;rfl;all_goals(intro hc;first|(cases hc;done)|(try simp only at hc)))|((with_reducible refine Q0w ?_ ?_);kernel_rfl;(with_reducible refine hR _ ?_);clear hR R)|((first|((first|((with_reducible apply Q0u);rfl;rfl)|((with_reducible apply Q1l);rfl;rfl;rfl;rfl;rfl));(simp(disch:=omega) only[rdE,rdOf,go_sem,W,Nat.mul_one];rfl);(intro τ hA hQ hN;((try simp only[Q1g,Op.operands,Call.operands,go_sem,W,Nat.mul_one,go_sem,List.mem_cons,List.not_mem_nil,forall_eq_or_imp,forall_eq,List.append_toArray,Option.toArray] at hA);(try simp only[go_sem,W,Nat.mul_one,List.mem_cons,List.not_mem_nil,forall_eq_or_imp,forall_eq] at hQ hN);(first|(revert hA;intro hA));(first|(revert hQ;intro hQ));(first|(revert hN;intro hN));simp(disch:=omega) only[go_sem,W,Nat.mul_one,go_sem,hA,hQ,hN];(repeat(refine ndI (by first|assumption|omega|rfl) ?_));(first|apply Q1d)))));(simp(disch:=omega) only[St.eff,setO,Q0x,go_sem,W,Nat.mul_one]))|((with_reducible refine Q0r ?_ ?_ ?_ ?_);kernel_rfl;kernel_rfl;(first|kernel_rfl);intro R hR)))))
     all_goals exact hΨ _ halt (St.le_of (by simp[leT]) (by simp[leH]))
   · have eap:a=p:=by omega
     rw[eap]
     obtain⟨T,hT⟩:∃T,(out.take p).flatMap apv=T:=⟨_,rfl⟩
     obtain⟨D,hD⟩:∃D,(out.drop p).flatMap apv=D:=⟨_,rfl⟩
     have f1:(out.flatMap apv).take p=T:=by rw[asl_take,hT]
     have f2:((out.flatMap apv).drop p).take (out.length-p)=D:=by
      rw[asl_drop,hD,List.take_of_length_le]
      rw[←hD,Q1e Q5d,List.length_drop]
      omega
     have f3:T.length=p:=by rw[←hT,Q1e Q5d,List.length_take];omega
     have f4:D.length=out.length-p:=by rw[←hD,Q1e Q5d,List.length_drop];omega
     have heq:out[p]?≠some x→AV.c (.sl false 1 (p+(1+(out.length-p))) (T++(PV.v (.int .u64 x)::D)))=asl false nxt:=fun h=>by
      rw[hnew h]
      unfold asl
      rw[List.flatMap_append,List.flatMap_append,hT,hD,List.length_append,List.length_append,List.length_take,List.length_drop,Nat.min_eq_left hpl]
      rfl
     rcases Nat.lt_or_ge p out.length with hpL|hpL
     · obtain⟨y,hy⟩:∃y,out[p]? = some y:=⟨_,List.getElem?_eq_getElem hpL⟩
       have n1:(decide ((p:Int)<(out.length:Int)))=true:=by simp;omega
       have n2:(decide (y<x))=false:=decide_eq_false (by have:=hge' y hy;omega)
       have n3:=X5o hy
       by_cases hyx:y=x
       · have n4:(y==x)=true:=by simp[hyx]
         have en:=hdup (by rw[hy,hyx])
         (have W:=ndI n1 (ndI n2 (ndI n3 (ndI n4 (ndI k2 (ndI k7 @wrI)))));(repeat(any_goals(first|((with_reducible refine Q0d ?_ ?_);rfl;intro K hK;simp(disch:=omega) only[go_sem,W,Nat.mul_one];((repeat(refine ndI (by first|assumption|rfl) ?_));refine hK _ ?_;clear hK K))|(with_reducible first|(refine Q0c ?_;refine hR _ ?_;clear hR R)|((first|refine Q0e ?_);intro Ψ hΨ hΨ')|(refine Q0b ?_;intro R hR)|(refine hΨ _ ?_;clear hΨ hΨ' Ψ)|refine Q0v ?_)|((with_reducible refine hΨ' _ _ ?_ ?_);(focus(simp;done));clear hΨ hΨ' Ψ)|((with_reducible apply Q0f);rfl;rfl;all_goals(intro hc;first|(cases hc;done)|(try simp only at hc)))|((with_reducible refine Q0w ?_ ?_);kernel_rfl;(with_reducible refine hR _ ?_);clear hR R)|((first|((first|((with_reducible apply Q0u);rfl;rfl)|((with_reducible apply Q1l);rfl;rfl;rfl;rfl;rfl));(simp(disch:=omega) only[rdE,rdOf,go_sem,W,Nat.mul_one];rfl);(intro τ hA hQ hN;((try simp only[Q1g,Op.operands,Call.operands,go_sem,W,Nat.mul_one,go_sem,List.mem_cons,List.not_mem_nil,forall_eq_or_imp,forall_eq,List.append_toArray,Option.toArray] at hA);(try simp only[go_sem,W,Nat.mul_one,List.mem_cons,List.not_mem_nil,forall_eq_or_imp,forall_eq] at hQ hN);(first|(revert hA;intro hA));(first|(revert hQ;intro hQ));(first|(revert hN;intro hN));simp(disch:=omega) only[go_sem,W,Nat.mul_one,go_sem,hA,hQ,hN];(repeat(refine ndI (by first|assumption|omega|rfl) ?_));(first|apply Q1d)))));(simp(disch:=omega) only[St.eff,setO,Q0x,go_sem,W,Nat.mul_one]))|((with_reducible refine Q0r ?_ ?_ ?_ ?_);kernel_rfl;kernel_rfl;(first|kernel_rfl);intro R hR)))))
         all_goals exact hΨ _ hlt (St.le_of (by simp[leT,en]) (by simp[leH]))
       · have n4:(y==x)=false:=by simp[hyx]
         have en:=heq (by rw[hy];exact fun e=>hyx (Option.some.inj e))
         (have W:=ndI n1 (ndI n2 (ndI n3 (ndI n4 (ndI k2 (ndI k7 (ndI f1 (ndI f2 @wrI)))))));(repeat(any_goals(first|((with_reducible refine Q0d ?_ ?_);rfl;intro K hK;simp(disch:=omega) only[go_sem,W,en,eq_self,decide_true,Nat.mul_one];((repeat(refine ndI (by first|assumption|rfl) ?_));refine hK _ ?_;clear hK K))|(with_reducible first|(refine Q0c ?_;refine hR _ ?_;clear hR R)|((first|refine Q0e ?_);intro Ψ hΨ hΨ')|(refine Q0b ?_;intro R hR)|(refine hΨ _ ?_;clear hΨ hΨ' Ψ)|refine Q0h ?_|refine Q0v ?_)|((with_reducible refine hΨ' _ _ ?_ ?_);(focus(simp;done));clear hΨ hΨ' Ψ)|((with_reducible apply Q0f);rfl;rfl;all_goals(intro hc;first|(cases hc;done)|(try simp only at hc)))|((with_reducible refine Q0w ?_ ?_);kernel_rfl;(with_reducible refine hR _ ?_);clear hR R)|((first|((first|((with_reducible apply Q0u);rfl;rfl)|((with_reducible apply Q1l);rfl;rfl;rfl;rfl;rfl));(simp(disch:=omega) only[rdE,rdOf,go_sem,W,en,eq_self,decide_true,Nat.mul_one];rfl);(intro τ hA hQ hN;((try simp only[Q1g,Op.operands,Call.operands,go_sem,W,en,eq_self,decide_true,Nat.mul_one,go_sem,List.mem_cons,List.not_mem_nil,forall_eq_or_imp,forall_eq,List.append_toArray,Option.toArray] at hA);(try simp only[go_sem,W,en,eq_self,decide_true,Nat.mul_one,List.mem_cons,List.not_mem_nil,forall_eq_or_imp,forall_eq] at hQ hN);(first|(revert hA;intro hA));(first|(revert hQ;intro hQ));(first|(revert hN;intro hN));simp(disch:=omega) only[go_sem,W,en,eq_self,decide_true,Nat.mul_one,go_sem,hA,hQ,hN];(repeat(refine ndI (by first|assumption|omega|rfl) ?_));(first|apply Q1d))))|((with_reducible apply Q5u);rfl;rfl;rfl;rfl;(focus(simp only[go_sem];try rfl));(first|omega);(first|omega);rfl;rfl;(focus(first|omega|(simp(disch:=omega) only[go_sem,W,en,eq_self,decide_true,Nat.mul_one,spl,List.length_append,List.length_map,List.length_take,List.length_drop,List.length_replicate];omega)));(focus(first|omega|(focus(simp[spl];done))));(focus(first|omega));rfl;(focus(first|omega)))|((first|((with_reducible apply X0v);rfl));apply Q4l;rfl;rfl;(focus(simp only[go_sem];try rfl));(focus(simp only[go_sem];try rfl));rfl;(first|omega);(first|omega);(first|omega);(simp(disch:=omega) only[go_sem,W,en,eq_self,decide_true,Nat.mul_one];rfl);rfl;(focus((simp(disch:=omega) only[unC,Option.map_some]);(try rfl)))));(simp(disch:=omega) only[St.eff,setO,Q0x,go_sem,W,en,eq_self,decide_true,Nat.mul_one]))|((with_reducible refine Q0r ?_ ?_ ?_ ?_);kernel_rfl;kernel_rfl;(first|kernel_rfl);intro R hR)))))
         all_goals exact hΨ _ hlt (St.le_of (by simp[leT]) (by simp[leH]))
     · have n1:(decide ((p:Int)<(out.length:Int)))=false:=by simp;omega
       have en:=heq (by rw[List.getElem?_eq_none hpL];exact fun e=>by cases e)
       (have W:=ndI n1 (ndI k2 (ndI k7 (ndI f1 (ndI f2 @wrI))));(repeat(any_goals(first|((with_reducible refine Q0d ?_ ?_);rfl;intro K hK;simp(disch:=omega) only[go_sem,W,en,eq_self,decide_true,Nat.mul_one];((repeat(refine ndI (by first|assumption|rfl) ?_));refine hK _ ?_;clear hK K))|(with_reducible first|(refine Q0c ?_;refine hR _ ?_;clear hR R)|((first|refine Q0e ?_);intro Ψ hΨ hΨ')|(refine Q0b ?_;intro R hR)|(refine hΨ _ ?_;clear hΨ hΨ' Ψ)|refine Q0h ?_|refine Q0v ?_)|((with_reducible refine hΨ' _ _ ?_ ?_);(focus(simp;done));clear hΨ hΨ' Ψ)|((with_reducible apply Q0f);rfl;rfl;all_goals(intro hc;first|(cases hc;done)|(try simp only at hc)))|((with_reducible refine Q0w ?_ ?_);kernel_rfl;(with_reducible refine hR _ ?_);clear hR R)|((first|((with_reducible apply Q1w);rfl;rfl;rfl;rfl)|((first|((with_reducible apply Q0u);rfl;rfl));(simp(disch:=omega) only[rdE,rdOf,go_sem,W,en,eq_self,decide_true,Nat.mul_one];rfl);(intro τ hA hQ hN;((try simp only[Q1g,Op.operands,Call.operands,go_sem,W,en,eq_self,decide_true,Nat.mul_one,go_sem,List.mem_cons,List.not_mem_nil,forall_eq_or_imp,forall_eq,List.append_toArray,Option.toArray] at hA);(try simp only[go_sem,W,en,eq_self,decide_true,Nat.mul_one,List.mem_cons,List.not_mem_nil,forall_eq_or_imp,forall_eq] at hQ hN);(first|(revert hA;intro hA));(first|(revert hQ;intro hQ));(first|(revert hN;intro hN));simp(disch:=omega) only[go_sem,W,en,eq_self,decide_true,Nat.mul_one,go_sem,hA,hQ,hN];(repeat(refine ndI (by first|assumption|omega|rfl) ?_));(first|apply Q1d))))|((with_reducible apply Q5u);rfl;rfl;rfl;rfl;(focus(simp only[go_sem];try rfl));(first|omega);(first|omega);rfl;rfl;(focus(first|omega|(simp(disch:=omega) only[go_sem,W,en,eq_self,decide_true,Nat.mul_one,spl,List.length_append,List.length_map,List.length_take,List.length_drop,List.length_replicate];omega)));(focus(first|omega|(focus(simp[spl];done))));(focus(first|omega));rfl;(focus(first|omega)))|((first|((with_reducible apply X0v);rfl));apply Q4l;rfl;rfl;(focus(simp only[go_sem];try rfl));(focus(simp only[go_sem];try rfl));rfl;(first|omega);(first|omega);(first|omega);(simp(disch:=omega) only[go_sem,W,en,eq_self,decide_true,Nat.mul_one];rfl);rfl;(focus((simp(disch:=omega) only[unC,Option.map_some]);(try rfl)))));(simp(disch:=omega) only[St.eff,setO,Q0x,go_sem,W,en,eq_self,decide_true,Nat.mul_one]))|((with_reducible refine Q0r ?_ ?_ ?_ ?_);kernel_rfl;kernel_rfl;(first|kernel_rfl);intro R hR)))))
       all_goals exact hΨ _ hlt (St.le_of (by simp[leT]) (by simp[leH]))
 · have k1:(decide ((i:Int)<(l.length:Int)))=false:=by simp;omega
   obtain rfl:i=l.length:=by omega
   rw[htot]
   (repeat(any_goals(first|((with_reducible refine Q0d ?_ ?_);rfl;intro K hK;simp only[go_sem,k1];((repeat(refine ndI (by first|assumption) ?_));refine hK _ ?_;clear hK K))|(with_reducible first|(refine Q0c ?_;refine hR _ ?_;clear hR R)|((first|refine Q0e ?_);intro Ψ hΨ hΨ')|(refine Q0b ?_;intro R hR)|(refine hΨ _ ?_;clear hΨ hΨ' Ψ)|refine Q0l ?_|refine Q0v ?_)|((with_reducible refine hΨ' _ _ ?_ ?_);(focus(simp;done));clear hΨ hΨ' Ψ)|((with_reducible apply Q0f);rfl;rfl;all_goals(intro hc;first|(cases hc;done)|(try simp only at hc))))))
   all_goals(refine⟨by simp,⟨_,?_,AV.le_refl _⟩,Q0i (by simp[leH,hget])⟩;simp only[Tryz.results23,resL,ldA,Q0z,go_sem])
end
section
theorem rise_eq:∀{a b:List Int},a.Pairwise (· < ·)→b.Pairwise (· < ·)→(∀x,x∈a↔x∈b)→a=b
 |[],[],_,_,_=>rfl
 |[],y::b,_,_,h=>by have:=(h y).2 (by simp);simp at this
 |x::a,[],_,_,h=>by have:=(h x).1 (by simp);simp at this
 |x::a,y::b,ha,hb,h=>by
  rw[List.pairwise_cons] at ha hb
  have hx:=(h x).1 (by simp)
  have hy:=(h y).2 (by simp)
  rw[List.mem_cons] at hx hy
  have e:x=y:=by
   rcases hx with hx|hx
   · exact hx
   · rcases hy with hy|hy
     · exact hy.symm
     · have h1:=ha.1 y hy
       have h2:=hb.1 x hx
       omega
  subst e
  rw[rise_eq ha.2 hb.2 fun z=>by
   have hz:=h z
   rw[List.mem_cons,List.mem_cons] at hz
   constructor
   · intro hm
     rcases hz.1 (.inr hm) with e|hm'
     · have:=ha.1 z hm;omega
     · exact hm'
   · intro hm
     rcases hz.2 (.inr hm) with e|hm'
     · have:=hb.1 z hm;omega
     · exact hm']
end
section
open Go.RowKit
theorem X2k(y:Int)(l:List Int)(x:Int):insD (y::l) x=if y<x then y::insD l x else if y=x then y::l else x::y::l:=by
 by_cases h:y<x
 · rw[if_pos h]
   unfold insD
   have e:posD (y::l) x=posD l x+1:=by show(if y<x then _ else _)=_;rw[if_pos h]
   rw[e,List.getElem?_cons_succ]
   split<;>simp
 · rw[if_neg h]
   unfold insD
   have e:posD (y::l) x=0:=by show(if y<x then _ else _)=_;rw[if_neg h]
   rw[e,List.getElem?_cons_zero]
   by_cases h2:y=x
   · rw[if_pos (by rw[h2]),if_pos h2]
   · rw[if_neg (fun e=>h2 (Option.some.inj e)),if_neg h2]
     rfl
theorem X0s:∀(l:List Int) (x z:Int),z∈insD l x↔z=x∨z∈l
 |[],x,z=>by simp[insD,posD]
 |y::l,x,z=>by
  have ih:=X0s l x z
  rw[X2k]
  split
  · rw[List.mem_cons,List.mem_cons,ih]
    constructor
    · rintro (h|h|h)
      · exact .inr (.inl h)
      · exact .inl h
      · exact .inr (.inr h)
    · rintro (h|h|h)
      · exact .inr (.inl h)
      · exact .inl h
      · exact .inr (.inr h)
  · split
    · rename_i h
      rw[List.mem_cons,h]
      constructor
      · exact .inr
      · rintro (h|h)
        · exact .inl h
        · exact h
    · rw[List.mem_cons]
theorem insD_lt:∀(l:List Int) (x:Int),l.Pairwise (· < ·)→(insD l x).Pairwise (· < ·)
 |[],x,_=>by simp[insD,posD]
 |y::l,x,h=>by
  rw[List.pairwise_cons] at h
  have ih:=insD_lt l x h.2
  rw[X2k]
  split
  · rename_i hyx
    rw[List.pairwise_cons]
    refine⟨fun z hz=>?_,ih⟩
    rcases(X0s l x z).1 hz with rfl|hz
    · exact hyx
    · exact h.1 z hz
  · split
    · exact List.pairwise_cons.2 h
    · rw[List.pairwise_cons]
      refine⟨fun z hz=>?_,List.pairwise_cons.2 h⟩
      rcases List.mem_cons.1 hz with rfl|hz
      · omega
      · have:=h.1 z hz;omega
theorem X4o(l:List Int):∀i,i≤l.length→(resD l i).Pairwise (· < ·)∧∀x,x∈resD l i↔x∈l.take i
 |0,_=>by simp[resD]
 |i+1,h=>by
  obtain⟨h1,h2⟩:=X4o l i (by omega)
  have hb:l[i]? = some (l[i]'(by omega)):=List.getElem?_eq_getElem (by omega)
  have e:resD l (i+1)=insD (resD l i) (l[i]'(by omega)):=by
   show(match l[i]? with|none=>_|some x=>_)=_
   rw[hb]
  rw[e]
  refine⟨insD_lt _ _ h1,fun x=>?_⟩
  rw[X0s,h2,List.take_add_one,hb,List.mem_append,or_comm]
  simp
theorem res_uniq{l r:List Int}(h1:r.Pairwise (· < ·))(h2:∀x,x∈r↔x∈l):resD l l.length=r:=by
 obtain⟨g1,g2⟩:=X4o l l.length (Nat.le_refl _)
 refine rise_eq g1 h1 fun x=>?_
 rw[g2,h2,List.take_length]
end
section
open Go.RowKit
open Nat (reduceBEq)
set_option maxRecDepth 20000
set_option maxHeartbeats 2000000
def lbit(x:Int)(k:Nat):Int:=x/2 ^ k%2
theorem Q5a{x:Int}(h:U x)(k:Nat)(hk:k<64):IntKind.i64.wrap (IntKind.u64.wrap ((BitVec.ofInt IntKind.u64.bits (x.fdiv (2 ^ (min k IntKind.u64.bits))) &&& BitVec.ofInt IntKind.u64.bits 1).toNat:Nat))=lbit x k:=by
 obtain⟨h1,h2⟩:=h
 obtain⟨N,rfl⟩:=Int.eq_ofNat_of_zero_le h1
 have hm:min k IntKind.u64.bits=k:=Nat.min_eq_left (show k≤64 by omega)
 have hd:((N:Int)).fdiv (2 ^ k)=((N/2 ^ k:Nat):Int):=by
  rw[Int.fdiv_eq_ediv_of_nonneg _ (Int.le_of_lt (Int.pow_pos (by decide)))]
  simp
 rw[hm,hd]
 have hle:N/2 ^ k≤N:=Nat.div_le_self _ _
 generalize hq:N/2 ^ k=q at hle
 have e:(BitVec.ofInt IntKind.u64.bits (q:Int) &&& BitVec.ofInt IntKind.u64.bits 1).toNat=q%2:=by
  show(BitVec.ofInt 64 (q:Int) &&& BitVec.ofInt 64 1).toNat=q%2
  rw[BitVec.toNat_and]
  have e1:(BitVec.ofInt 64 (q:Int)).toNat=q:=by rw[BitVec.toNat_ofInt];omega
  have e2:(BitVec.ofInt 64 1).toNat=1:=by decide
  rw[e1,e2,Nat.and_one_is_mod]
 rw[e,wrU (by omega) (by omega),wrI (by omega) (by omega)]
 unfold lbit
 have:(N:Int)/2 ^ k=(q:Int):=by rw[←hq];simp
 rw[this];omega
def bitW(a b c d:Int)(n:Nat):Int:=if n<64 then lbit a n else if n<128 then lbit b (n-64) else if n<192 then lbit c (n-128) else lbit d (n-192)
theorem bit_fn(a b c d:Int)(u1:U a)(u2:U b)(u3:U c)(u4:U d)(n:Nat)(hn:n≤255):Fn Tryz.prog 63 [w4 a b c d,vi .i64 n] [] (vi .i64 (bitW a b c d n)) []:=by
 have e1:(decide ((n:Int)<0))=false:=by simp
 have e2:(decide ((n:Int)>255))=false:=by simp;omega
 have e3:(n:Int).tdiv 64=((n/64:Nat):Int):=rfl
 have e4:(n:Int).tmod 64=((n%64:Nat):Int):=rfl
 have hq:n/64=0∨n/64=1∨n/64=2∨n/64=3:=by omega
 rcases hq with hq|hq|hq|hq
 · (refine Q1c Tryz.func63 rfl (by rfl) ?_;simp only[Tryz.ntmps63,List.length_cons,List.length_nil,Nat.reduceAdd,Nat.reduceSub,List.replicate,List.cons_append,List.nil_append])
   (have W:=ndI e1 (ndI e2 (ndI e3 (ndI e4 @wrI)));(repeat(any_goals(first|((with_reducible refine Q0d ?_ ?_);rfl;intro K hK;simp(disch:=omega) only[go_sem,W,hq,Int.cast_ofNat_Int,Int.reduceEq,Int.toNat_natCast,Int.natCast_nonneg];((repeat(refine ndI (by first|assumption|rfl) ?_));refine hK _ ?_;clear hK K))|(with_reducible first|(refine Q0c ?_;refine hR _ ?_;clear hR R)|((first|refine Q0e ?_);intro Ψ hΨ hΨ')|(refine Q0b ?_;intro R hR)|(refine hΨ _ ?_;clear hΨ hΨ' Ψ)|refine Q0h ?_|refine Q0l ?_)|((with_reducible apply Q1i);rfl;rfl;rfl;all_goals(intro hb;first|(cases hb;done)|((try simp only[Bool.not_true,Bool.not_false] at hb);(first|((with_reducible intro K hK);simp(disch:=omega) only[go_sem,W,hq,Int.cast_ofNat_Int,Int.reduceEq,Int.toNat_natCast,Int.natCast_nonneg];((repeat(refine ndI (by first|assumption|rfl) ?_));refine hK _ ?_;clear hK K))))))|((with_reducible apply Q0f);rfl;rfl;all_goals(intro hc;first|(cases hc;done)|(try simp only at hc)))))))
   all_goals(refine⟨by simp,⟨_,?_,AV.le_refl _⟩,Q0i (by simp[leH,hget])⟩;simp only[Tryz.results63,resL,ldA,Q0z,go_sem])
   show vi .i64 (IntKind.i64.wrap (IntKind.u64.wrap ((BitVec.ofInt IntKind.u64.bits (a.fdiv (2 ^ (min (n%64) IntKind.u64.bits))) &&& BitVec.ofInt IntKind.u64.bits 1).toNat:Nat)))=_
   rw[Q5a u1 _ (Nat.mod_lt _ (by decide))]
   simp only[bitW,if_pos (show n<64 by omega),Nat.mod_eq_of_lt (show n<64 by omega)]
 · (refine Q1c Tryz.func63 rfl (by rfl) ?_;simp only[Tryz.ntmps63,List.length_cons,List.length_nil,Nat.reduceAdd,Nat.reduceSub,List.replicate,List.cons_append,List.nil_append])
   (have W:=ndI e1 (ndI e2 (ndI e3 (ndI e4 @wrI)));(repeat(any_goals(first|((with_reducible refine Q0d ?_ ?_);rfl;intro K hK;simp(disch:=omega) only[go_sem,W,hq,Int.cast_ofNat_Int,Int.natCast_one,Int.reduceEq,Int.toNat_natCast,Int.natCast_nonneg];((repeat(refine ndI (by first|assumption|rfl) ?_));refine hK _ ?_;clear hK K))|(with_reducible first|(refine Q0c ?_;refine hR _ ?_;clear hR R)|((first|refine Q0e ?_);intro Ψ hΨ hΨ')|(refine Q0b ?_;intro R hR)|(refine hΨ _ ?_;clear hΨ hΨ' Ψ)|refine Q0h ?_|refine Q0l ?_)|((with_reducible apply Q1i);rfl;rfl;rfl;all_goals(intro hb;first|(cases hb;done)|((try simp only[Bool.not_true,Bool.not_false] at hb);(first|((with_reducible intro K hK);simp(disch:=omega) only[go_sem,W,hq,Int.cast_ofNat_Int,Int.natCast_one,Int.reduceEq,Int.toNat_natCast,Int.natCast_nonneg];((repeat(refine ndI (by first|assumption|rfl) ?_));refine hK _ ?_;clear hK K))))))|((with_reducible apply Q0f);rfl;rfl;all_goals(intro hc;first|(cases hc;done)|(try simp only at hc)))))))
   all_goals(refine⟨by simp,⟨_,?_,AV.le_refl _⟩,Q0i (by simp[leH,hget])⟩;simp only[Tryz.results63,resL,ldA,Q0z,go_sem])
   show vi .i64 (IntKind.i64.wrap (IntKind.u64.wrap ((BitVec.ofInt IntKind.u64.bits (b.fdiv (2 ^ (min (n%64) IntKind.u64.bits))) &&& BitVec.ofInt IntKind.u64.bits 1).toNat:Nat)))=_
   rw[Q5a u2 _ (Nat.mod_lt _ (by decide)),show n%64=n-64 by omega]
   simp only[bitW,if_neg (show ¬n<64 by omega),if_pos (show n<128 by omega)]
 · (refine Q1c Tryz.func63 rfl (by rfl) ?_;simp only[Tryz.ntmps63,List.length_cons,List.length_nil,Nat.reduceAdd,Nat.reduceSub,List.replicate,List.cons_append,List.nil_append])
   (have W:=ndI e1 (ndI e2 (ndI e3 (ndI e4 @wrI)));(repeat(any_goals(first|((with_reducible refine Q0d ?_ ?_);rfl;intro K hK;simp(disch:=omega) only[go_sem,W,hq,Int.cast_ofNat_Int,Int.natCast_one,Int.reduceEq,Int.toNat_natCast,Int.natCast_nonneg];((repeat(refine ndI (by first|assumption|rfl) ?_));refine hK _ ?_;clear hK K))|(with_reducible first|(refine Q0c ?_;refine hR _ ?_;clear hR R)|((first|refine Q0e ?_);intro Ψ hΨ hΨ')|(refine Q0b ?_;intro R hR)|(refine hΨ _ ?_;clear hΨ hΨ' Ψ)|refine Q0h ?_|refine Q0l ?_)|((with_reducible apply Q1i);rfl;rfl;rfl;all_goals(intro hb;first|(cases hb;done)|((try simp only[Bool.not_true,Bool.not_false] at hb);(first|((with_reducible intro K hK);simp(disch:=omega) only[go_sem,W,hq,Int.cast_ofNat_Int,Int.natCast_one,Int.reduceEq,Int.toNat_natCast,Int.natCast_nonneg];((repeat(refine ndI (by first|assumption|rfl) ?_));refine hK _ ?_;clear hK K))))))|((with_reducible apply Q0f);rfl;rfl;all_goals(intro hc;first|(cases hc;done)|(try simp only at hc)))))))
   all_goals(refine⟨by simp,⟨_,?_,AV.le_refl _⟩,Q0i (by simp[leH,hget])⟩;simp only[Tryz.results63,resL,ldA,Q0z,go_sem])
   show vi .i64 (IntKind.i64.wrap (IntKind.u64.wrap ((BitVec.ofInt IntKind.u64.bits (c.fdiv (2 ^ (min (n%64) IntKind.u64.bits))) &&& BitVec.ofInt IntKind.u64.bits 1).toNat:Nat)))=_
   rw[Q5a u3 _ (Nat.mod_lt _ (by decide)),show n%64=n-128 by omega]
   simp only[bitW,if_neg (show ¬n<64 by omega),if_neg (show ¬n<128 by omega),if_pos (show n<192 by omega)]
 · (refine Q1c Tryz.func63 rfl (by rfl) ?_;simp only[Tryz.ntmps63,List.length_cons,List.length_nil,Nat.reduceAdd,Nat.reduceSub,List.replicate,List.cons_append,List.nil_append])
   (have W:=ndI e1 (ndI e2 (ndI e3 (ndI e4 @wrI)));(repeat(any_goals(first|((with_reducible refine Q0d ?_ ?_);rfl;intro K hK;simp(disch:=omega) only[go_sem,W,hq,Int.cast_ofNat_Int,Int.natCast_one,Int.reduceEq,Int.toNat_natCast,Int.natCast_nonneg];((repeat(refine ndI (by first|assumption|rfl) ?_));refine hK _ ?_;clear hK K))|(with_reducible first|(refine Q0c ?_;refine hR _ ?_;clear hR R)|((first|refine Q0e ?_);intro Ψ hΨ hΨ')|(refine Q0b ?_;intro R hR)|(refine hΨ _ ?_;clear hΨ hΨ' Ψ)|refine Q0h ?_|refine Q0l ?_)|((with_reducible apply Q1i);rfl;rfl;rfl;all_goals(intro hb;first|(cases hb;done)|((try simp only[Bool.not_true,Bool.not_false] at hb);(first|((with_reducible intro K hK);simp(disch:=omega) only[go_sem,W,hq,Int.cast_ofNat_Int,Int.natCast_one,Int.reduceEq,Int.toNat_natCast,Int.natCast_nonneg];((repeat(refine ndI (by first|assumption|rfl) ?_));refine hK _ ?_;clear hK K))))))|((with_reducible apply Q0f);rfl;rfl;all_goals(intro hc;first|(cases hc;done)|(try simp only at hc)))))))
   all_goals(refine⟨by simp,⟨_,?_,AV.le_refl _⟩,Q0i (by simp[leH,hget])⟩;simp only[Tryz.results63,resL,ldA,Q0z,go_sem])
   show vi .i64 (IntKind.i64.wrap (IntKind.u64.wrap ((BitVec.ofInt IntKind.u64.bits (d.fdiv (2 ^ (min (n%64) IntKind.u64.bits))) &&& BitVec.ofInt IntKind.u64.bits 1).toNat:Nat)))=_
   rw[Q5a u4 _ (Nat.mod_lt _ (by decide)),show n%64=n-192 by omega]
   simp only[bitW,if_neg (show ¬n<64 by omega),if_neg (show ¬n<128 by omega),if_neg (show ¬n<192 by omega)]
def VW(a b c d:Int):Nat:=a.toNat+18446744073709551616*(b.toNat+18446744073709551616*(c.toNat+18446744073709551616*d.toNat))
theorem Q9c(A R k:Nat)(hk:k<64):(A+18446744073709551616*R)/2 ^ k%2=A/2 ^ k%2:=by
 have e:(18446744073709551616:Nat)=2 ^ k*(2*2 ^ (63-k)):=by
  rw[←Nat.pow_succ',←Nat.pow_add,show k+(63-k).succ=64 by omega]
 rw[e,Nat.mul_assoc,Nat.add_mul_div_left _ _ (Nat.pos_of_ne_zero (by simp)),Nat.mul_assoc 2,Nat.add_mul_mod_self_left]
theorem Q9d(A R k:Nat)(hA:A<18446744073709551616)(hk:64≤k):(A+18446744073709551616*R)/2 ^ k=R/2 ^ (k-64):=by
 have e:(2:Nat) ^ k=18446744073709551616*2 ^ (k-64):=by
  rw[show(18446744073709551616:Nat)=2 ^ 64 by decide,←Nat.pow_add,show 64+(k-64)=k by omega]
 rw[e,←Nat.div_div_eq_div_mul,Nat.add_mul_div_left _ _ (by decide),Nat.div_eq_of_lt hA,Nat.zero_add]
theorem Q4b{x:Int}(h:U x)(k:Nat):lbit x k=((x.toNat/2 ^ k%2:Nat):Int):=by
 obtain⟨N,rfl⟩:=Int.eq_ofNat_of_zero_le h.1
 unfold lbit
 have:(N:Int)/2 ^ k=((N/2 ^ k:Nat):Int):=by simp
 rw[this];simp
theorem X5m{a b c d:Int}(u1:U a)(u2:U b)(u3:U c)(u4:U d)(n:Nat)(hn:n≤255):bitW a b c d n=((VW a b c d/2 ^ n%2:Nat):Int):=by
 unfold bitW VW
 have h1:a.toNat<18446744073709551616:=by have:=u1.2;omega
 have h2:b.toNat<18446744073709551616:=by have:=u2.2;omega
 have h3:c.toNat<18446744073709551616:=by have:=u3.2;omega
 split
 · rw[Q4b u1,Q9c _ _ _ (by omega)]
 · rw[Q9d _ _ _ h1 (by omega)]
   split
   · rw[Q4b u2,Q9c _ _ _ (by omega)]
   · rw[Q9d _ _ _ h2 (by omega)]
     split
     · rw[Q4b u3,show n-64-64=n-128 by omega,Q9c _ _ _ (by omega)]
     · rw[show n-64-64=n-128 by omega,Q9d _ _ _ h3 (by omega),Q4b u4,show n-128-64=n-192 by omega]
theorem VW_wN{x:Nat}(h:x<WW):VW (l0 x) (l1 x) (l2 x) (l3 x)=x:=by
 obtain⟨a,b,c,d,e,_,_,_,_,e0,e1,e2,e3⟩:=Q4x h
 rw[e0,e1,e2,e3]
 unfold VW
 simp only[Int.toNat_natCast]
 exact e.symm
def bitN(x n:Nat):Nat:=x/2 ^ n%2
theorem bitN_fn(x:Nat)(hx:x<WW)(n:Nat)(hn:n≤255):Fn Tryz.prog 63 [wN x,vi .i64 n] [] (vi .i64 (bitN x n:Nat)) []:=by
 have h:=bit_fn (l0 x) (l1 x) (l2 x) (l3 x) (U0 x) (U1 x) (U2 x) (U3 x) n hn
 rw[X5m (U0 x) (U1 x) (U2 x) (U3 x) n hn,VW_wN hx] at h
 exact h
end
section
open Go.RowKit
open Nat (reduceBEq)
set_option maxRecDepth 20000
set_option maxHeartbeats 2000000
def ipv(n:Nat):List PV:=[.v (.int .i64 (n:Int))]
theorem X3v(n:Nat):(ipv n).length=1:=rfl
abbrev isl(ex:Bool)(l:List Nat):AV:=.c (.sl ex 1 l.length (l.flatMap ipv))
def rcI(l:List Nat):List AV:=(l.flatMap ipv).map .c
theorem X3k(l:List Nat):(rcI l).length=l.length*1:=by unfold rcI;rw[List.length_map,Q1e X3v]
theorem Q3b(d:Nat)(l:List Nat):AV.refsL d (rcI l)=false:=by unfold rcI;exact Q0m _ _
theorem X4y{l:List Nat}{i:Nat}{y:Nat}(h:l[i]? = some y):((l.flatMap ipv).drop i).take 1=[.v (.int .i64 (y:Int))]:=by
 have h2:=Q4m (f:=ipv) X3v h
 rw[Nat.mul_one] at h2
 exact h2
def Q2s(z k:Nat):List Nat:=(List.range k).map (bitN z)
theorem Q3d(z k:Nat):(Q2s z k).length=k:=by simp[Q2s]
theorem Q8a{z k i:Nat}(h:i<k):(Q2s z k)[i]? = some (bitN z i):=by simp[Q2s,h]
theorem Q9x(z k:Nat):Q2s z (k+1)=Q2s z k++[bitN z k]:=by simp[Q2s,List.range_succ]
theorem X1g(x n:Nat):bitN x n<2:=Nat.mod_lt _ (by decide)
abbrev stI(x:Nat)(r:Nat)(out:List Nat)(i:Int):St:=⟨[.any,vi .i64 256,.ptr 2 0,.any,.any,.row r 3 1 out.length,.any,vi .i64 256,vi .i64 i,.any,.any,.any,.any,.any,.any,.any,.any,.any,.any],[(2,[vi .u64 (l0 x),vi .u64 (l1 x),vi .u64 (l2 x),vi .u64 (l3 x)]),(r,rcI out)]⟩
theorem stI_rn(x:Nat)(out:List Nat)(i:Int):(stI x 16 out i).to (stI x 500 out i):=by
 have h:=St.to.rn (σ:=stI x 16 out i) (fun r=>if r=16 then 500 else r) (fun r=>if r=500 then 16 else r) [2,16] (by simp[AV.inNL,AV.inN]) (by simp) (by simp[inH,AV.inNL,AV.inN,rcI]) (by simp) (by simp)
 simpa [AV.renL,AV.ren,renH,rcI,stI] using h
theorem bits_row(x:Nat)(hx:x<WW):Fn Tryz.prog 47 [wN x,vi .i64 256] [] (.row 500 3 1 256) [(500,rcI (Q2s x 256))]:=by
 (refine Q1c Tryz.func47 rfl (by rfl) ?_;simp only[Tryz.ntmps47,List.length_cons,List.length_nil,Nat.reduceAdd,Nat.reduceSub,List.replicate,List.cons_append,List.nil_append])
 (repeat(any_goals(first|((with_reducible refine Q0d ?_ ?_);rfl;intro K hK;simp only[go_sem];((repeat(refine ndI (by first|assumption) ?_));refine hK _ ?_;clear hK K))|(with_reducible first|(refine Q0c ?_;refine hR _ ?_;clear hR R)|((first|refine Q0e ?_|refine Q0g ?_);intro Ψ hΨ hΨ')|(refine Q0b ?_;intro R hR)|(refine hΨ _ ?_;clear hΨ hΨ' Ψ)))))
 refine Q4n 256 (fun i=>stI x 500 (Q2s x i) (i:Int)) ?_ ?_
 · refine St.to.trans (St.to.of_le (τ:=⟨[.any,vi .i64 256,.ptr 2 0,.any,.any,.c (.v (.slice none 0 0)),.any,vi .i64 256,vi .i64 0,.any,.any,.any,.any,.any,.any,.any,.any,.any,.any],[(2,[vi .u64 (l0 x),vi .u64 (l1 x),vi .u64 (l2 x),vi .u64 (l3 x)])]⟩) (St.le_of (by simp[leT]) (by simp[leH,hget]))) ?_
   refine St.to.trans (St.to.nilrow 5 500 3 1 rfl (by simp) (by simp[St.free,Q1j,AV.refsL,AV.refs]) (by decide)) (St.to.of_le (St.le_of (by simp[leT,Q2s]) (by simp[leH,hget,hput,rcI,Q2s])))
 intro i hi Ψ hΨ hΨ'
 dsimp only[stI] at hΨ ⊢
 rcases Nat.lt_or_ge i 256 with hlt|hge
 · have k1:(decide ((i:Int)<256))=true:=by simp;omega
   have k7:(i:Int)+1=((i+1:Nat):Int):=by omega
   have bt:=bitN_fn x hx i (by omega)
   have ht:=Q9x x i
   have hol:=Q3d x i
   rw[ht] at hΨ
   generalize Q2s x i=out at hΨ hol ⊢
   have k2:=X3k out
   (have W:=ndI k1 (ndI k2 (ndI k7 (ndI @wrI @Q0m)));(repeat(any_goals(first|((with_reducible refine Q0p ?_ ?_ ?_);rfl;rfl;intro K hK;((apply Q0k (bt);rfl;rfl;rfl;rfl;exact Tryz.func63);kernel_rfl;rfl;(focus((simp(disch:=omega) only[go_sem,W,Q3b,Q2i,AV.refsL,AV.refs,List.length_append,List.length_cons,List.length_nil,Bool.or_false]);(try rfl);done));(first|rfl));(simp(disch:=omega) only[go_sem,W,Q3b,Q2i,AV.refsL,AV.refs,List.length_append,List.length_cons,List.length_nil,Bool.or_false];refine hK _ ?_;clear hK K))|((with_reducible refine Q0d ?_ ?_);rfl;intro K hK;simp(disch:=omega) only[go_sem,W,Q3b,Q2i,AV.refsL,AV.refs,List.length_append,List.length_cons,List.length_nil,Bool.or_false];((repeat(refine ndI (by first|assumption|omega|rfl) ?_));refine hK _ ?_;clear hK K))|(with_reducible first|(refine Q0c ?_;refine hR _ ?_;clear hR R)|((first|refine Q0e ?_|refine Q0g ?_);intro Ψ hΨ hΨ')|(refine Q0b ?_;intro R hR)|(refine hΨ _ ?_;clear hΨ hΨ' Ψ)|refine Q0h ?_)|((with_reducible refine hΨ' _ _ ?_ ?_);(focus(simp;done));clear hΨ hΨ' Ψ)|((with_reducible apply Q0f);rfl;rfl;all_goals(intro hc;first|(cases hc;done)|(try simp only at hc)))))))
   all_goals exact hΨ _ hlt (St.to.trans (St.to.of_le (τ:=stI x 16 (out++[bitN x i]) ((i+1:Nat):Int)) (St.le_of (by simp[leT]) (by simp[leH,hget,rcI,ipv]))) (stI_rn x _ _))
 · have k1:(decide ((i:Int)<256))=false:=by simp;omega
   obtain rfl:i=256:=by omega
   rw[Q3d]
   (repeat(any_goals(first|((with_reducible refine Q0d ?_ ?_);rfl;intro K hK;simp only[go_sem,k1];((repeat(refine ndI (by first|assumption) ?_));refine hK _ ?_;clear hK K))|(with_reducible first|(refine Q0c ?_;refine hR _ ?_;clear hR R)|((first|refine Q0e ?_);intro Ψ hΨ hΨ')|(refine Q0b ?_;intro R hR)|(refine hΨ _ ?_;clear hΨ hΨ' Ψ)|refine Q0l ?_|refine Q0v ?_)|((with_reducible refine hΨ' _ _ ?_ ?_);(focus(simp;done));clear hΨ hΨ' Ψ)|((with_reducible apply Q0f);rfl;rfl;all_goals(intro hc;first|(cases hc;done)|(try simp only at hc))))))
   all_goals(refine⟨by simp,⟨_,?_,AV.le_refl _⟩,Q0i (by simp[leH,hget])⟩;simp only[Tryz.results47,resL,ldA,Q0z,go_sem])
theorem frzI{f:FuncId}{args:List AV}{d e n:Nat}{l:List Nat}(hn:l.length=n)(h:Fn Tryz.prog f args [] (.row d e 1 n) [(d,rcI l)]):Fn Tryz.prog f args [] (isl false l) []:=by
 subst hn
 have h:=Fn.frzG (d:=d) (pcs:=l.flatMap ipv) h
 simp only[AV.frz,beq_self_eq_true,if_true] at h
 rw[if_pos (Q1e X3v l).symm] at h
 exact h
theorem bits_fn(x:Nat)(hx:x<WW):Fn Tryz.prog 47 [wN x,vi .i64 256] [] (isl false (Q2s x 256)) []:=frzI (Q3d x 256) (bits_row x hx)
def cyN(x y i:Nat):Nat:=(x%2 ^ i+y%2 ^ i)/2 ^ i
theorem cyN_le(x y i:Nat):cyN x y i≤1:=by
 unfold cyN
 have hp:0<2 ^ i:=Nat.pos_of_ne_zero (by simp)
 have h1:=Nat.mod_lt x hp
 have h2:=Nat.mod_lt y hp
 have:=Nat.div_lt_of_lt_mul (m:=x%2 ^ i+y%2 ^ i) (n:=2 ^ i) (k:=2) (by omega)
 omega
theorem add_step(x y i:Nat):bitN x i+bitN y i+cyN x y i=2*cyN x y (i+1)+bitN (x+y) i:=by
 have hp:0<2 ^ i:=Nat.pos_of_ne_zero (by simp)
 have e1:cyN x y (i+1)=(cyN x y i+(bitN x i+bitN y i))/2:=by
  unfold cyN bitN
  rw[Nat.mod_pow_succ,Nat.mod_pow_succ,Nat.pow_succ,←Nat.div_div_eq_div_mul]
  rw[show x%2 ^ i+2 ^ i*(x/2 ^ i%2)+(y%2 ^ i+2 ^ i*(y/2 ^ i%2))=(x%2 ^ i+y%2 ^ i)+2 ^ i*(x/2 ^ i%2+y/2 ^ i%2) by rw[Nat.mul_add];omega]
  rw[Nat.add_mul_div_left _ _ hp]
 have e2:(x+y)/2 ^ i=x/2 ^ i+y/2 ^ i+cyN x y i:=by
  unfold cyN
  have hx:=Nat.div_add_mod x (2 ^ i)
  have hy:=Nat.div_add_mod y (2 ^ i)
  conv=>lhs;rw[←hx,←hy]
  rw[show 2 ^ i*(x/2 ^ i)+x%2 ^ i+(2 ^ i*(y/2 ^ i)+y%2 ^ i)=(x%2 ^ i+y%2 ^ i)+2 ^ i*(x/2 ^ i+y/2 ^ i) by rw[Nat.mul_add];omega]
  rw[Nat.add_mul_div_left _ _ hp]
  omega
 rw[e1]
 unfold bitN
 rw[e2]
 omega
abbrev stD(e1 e2:Bool)(x y:Nat)(r:Nat)(out:List Nat)(i:Nat):St:=⟨[isl e1 (Q2s x 256),isl e2 (Q2s y 256),.any,.any,.any,.row r 3 1 out.length,vi .i64 (cyN x y i:Nat),.any,.any,.any,vi .i64 256,vi .i64 i,.any,.any,.any,.any,.any,.any,.any,.any,.any,.any,.any,.any,.any,.any,.any,.any,.any,.any,.any,.any,.any,.any,.any,.any,.any],[(r,rcI out)]⟩
theorem stD_rn(e1 e2:Bool)(x y:Nat)(out:List Nat)(i:Nat):(stD e1 e2 x y 29 out i).to (stD e1 e2 x y 500 out i):=by
 have h:=St.to.rn (σ:=stD e1 e2 x y 29 out i) (fun r=>if r=29 then 500 else r) (fun r=>if r=500 then 29 else r) [29] (by simp[AV.inNL,AV.inN]) (by simp) (by simp[inH,AV.inNL,AV.inN,rcI]) (by simp) (by simp)
 simpa [AV.renL,AV.ren,renH,rcI,stD] using h
theorem add_row(e1 e2:Bool)(x y:Nat)(hx:x<WW)(hy:y<WW):Fn Tryz.prog 46 [isl e1 (Q2s x 256),isl e2 (Q2s y 256)] [] (.row 36 3 1 257) [(36,rcI (Q2s (x+y) 257))]:=by
 have e256:(((Q2s x 256).length:Nat):Int)=256:=by rw[Q3d];rfl
 obtain⟨tot,htot⟩:∃t,Q2s (x+y) 257=t:=⟨_,rfl⟩
 rw[htot]
 (refine Q1c Tryz.func46 rfl (by rfl) ?_;simp only[Tryz.ntmps46,List.length_cons,List.length_nil,Nat.reduceAdd,Nat.reduceSub,List.replicate,List.cons_append,List.nil_append])
 (repeat(any_goals(first|((with_reducible refine Q0d ?_ ?_);rfl;intro K hK;simp only[go_sem,e256];((repeat(refine ndI (by first|assumption) ?_));refine hK _ ?_;clear hK K))|(with_reducible first|(refine Q0c ?_;refine hR _ ?_;clear hR R)|((first|refine Q0e ?_|refine Q0g ?_);intro Ψ hΨ hΨ')|(refine Q0b ?_;intro R hR)|(refine hΨ _ ?_;clear hΨ hΨ' Ψ)))))
 refine Q4n 256 (fun i=>stD e1 e2 x y 500 (Q2s (x+y) i) i) ?_ ?_
 · refine St.to.trans (St.to.of_le (τ:=⟨[isl e1 (Q2s x 256),isl e2 (Q2s y 256),.any,.any,.any,.c (.v (.slice none 0 0)),vi .i64 0,.any,.any,.any,vi .i64 256,vi .i64 0,.any,.any,.any,.any,.any,.any,.any,.any,.any,.any,.any,.any,.any,.any,.any,.any,.any,.any,.any,.any,.any,.any,.any,.any,.any],[]⟩) (St.le_of (by simp[leT]) (by simp[leH,hget]))) ?_
   refine St.to.trans (St.to.nilrow 5 500 3 1 rfl (by simp) (by simp[St.free,Q1j,AV.refsL,AV.refs]) (by decide)) (St.to.of_le (St.le_of (by simp[leT,Q2s,cyN]) (by simp[leH,hget,hput,rcI,Q2s])))
 intro i hi Ψ hΨ hΨ'
 dsimp only[stD] at hΨ ⊢
 have ht:=Q9x (x+y) i
 have hol:=Q3d (x+y) i
 rcases Nat.lt_or_ge i 256 with hlt|hge
 · have k1:(decide ((i:Int)<256))=true:=by simp;omega
   have k7:(i:Int)+1=((i+1:Nat):Int):=by omega
   have g1:=X4y (Q8a (z:=x) hlt)
   have g2:=X4y (Q8a (z:=y) hlt)
   have il1:i<(Q2s x 256).length:=by rw[Q3d];exact hlt
   have il2:i<(Q2s y 256).length:=by rw[Q3d];exact hlt
   have st:=add_step x y i
   have b1:=X1g x i
   have b2:=X1g y i
   have b3:=X1g (x+y) i
   have b4:=cyN_le x y i
   rw[ht] at hΨ
   generalize Q2s (x+y) i=out at hΨ hol ⊢
   have k2:=X3k out
   generalize bitN x i=p at st b1 g1
   generalize bitN y i=q at st b2 g2
   generalize bitN (x+y) i=s at st b3 hΨ
   generalize cyN x y i=c at st b4 ⊢
   have hΨ2:∀σ':St,i+1≤256→σ'.to (stD e1 e2 x y 29 (out++[s]) (i+1))→Ψ .normal σ':=fun σ' h1 h2=>hΨ σ' h1 (h2.trans (stD_rn e1 e2 x y _ _))
   dsimp only[stD] at hΨ2
   generalize cyN x y (i+1)=c2 at st hΨ2
   have k3:((p:Int)+(q:Int))=((p+q:Nat):Int):=by omega
   have k4:(((p+q:Nat):Int)+(c:Int))=((p+q+c:Nat):Int):=by omega
   have k5:(((p+q+c:Nat):Int)).tmod 2=(s:Int):=by
    show(((p+q+c)%2:Nat):Int)=_
    omega
   have k6:(((p+q+c:Nat):Int)).tdiv 2=(c2:Int):=by
    show(((p+q+c)/2:Nat):Int)=_
    omega
   have k8:p+q+c≤3:=by omega
   (have W:=ndI k1 (ndI k2 (ndI k3 (ndI k4 (ndI k5 (ndI k6 (ndI k7 (ndI g1 (ndI g2 (ndI @wrI @Q0m)))))))));(repeat(any_goals(first|((with_reducible refine Q0d ?_ ?_);rfl;intro K hK;simp(disch:=omega) only[go_sem,W,Nat.mul_one,Int.reduceEq,Q3b,Q2i,AV.refsL,AV.refs,List.length_append,List.length_cons,List.length_nil,Bool.or_false];((repeat(refine ndI (by first|assumption|omega|rfl) ?_));refine hK _ ?_;clear hK K))|(with_reducible first|(refine Q0c ?_;refine hR _ ?_;clear hR R)|((first|refine Q0e ?_|refine Q0g ?_);intro Ψ hΨ hΨ')|(refine Q0b ?_;intro R hR)|(refine hΨ _ ?_;clear hΨ hΨ' Ψ)|refine Q0h ?_)|((with_reducible refine hΨ' _ _ ?_ ?_);(focus(simp;done));clear hΨ hΨ' Ψ)|((with_reducible apply Q0f);rfl;rfl;all_goals(intro hc;first|(cases hc;done)|(try simp only at hc)))|((with_reducible refine Q0w ?_ ?_);kernel_rfl;(with_reducible refine hR _ ?_);clear hR R)|(((with_reducible apply Q0u);rfl;rfl;(simp(disch:=omega) only[rdE,rdOf,go_sem,W,Nat.mul_one,Int.reduceEq,Q3b,Q2i,AV.refsL,AV.refs,List.length_append,List.length_cons,List.length_nil,Bool.or_false];rfl);(intro τ hA hQ hN;((try simp only[Q1g,Op.operands,Call.operands,go_sem,W,Nat.mul_one,Int.reduceEq,Q3b,Q2i,AV.refsL,AV.refs,List.length_append,List.length_cons,List.length_nil,Bool.or_false,go_sem,List.mem_cons,List.not_mem_nil,forall_eq_or_imp,forall_eq,List.append_toArray,Option.toArray] at hA);(try simp only[go_sem,W,Nat.mul_one,Int.reduceEq,Q3b,Q2i,AV.refsL,AV.refs,List.length_append,List.length_cons,List.length_nil,Bool.or_false,List.mem_cons,List.not_mem_nil,forall_eq_or_imp,forall_eq] at hQ hN);(first|(revert hA;intro hA));(first|(revert hQ;intro hQ));(first|(revert hN;intro hN));simp(disch:=omega) only[go_sem,W,Nat.mul_one,Int.reduceEq,Q3b,Q2i,AV.refsL,AV.refs,List.length_append,List.length_cons,List.length_nil,Bool.or_false,go_sem,hA,hQ,hN];(repeat(refine ndI (by first|assumption|omega|rfl) ?_));(first|apply Q1d))));(simp(disch:=omega) only[St.eff,setO,Q0x,go_sem,W,Nat.mul_one,Int.reduceEq,Q3b,Q2i,AV.refsL,AV.refs,List.length_append,List.length_cons,List.length_nil,Bool.or_false]))|((with_reducible refine Q0r ?_ ?_ ?_ ?_);kernel_rfl;kernel_rfl;(first|kernel_rfl);intro R hR)))))
   all_goals exact hΨ2 _ hlt (St.to.of_le (St.le_of (by simp[leT]) (by simp[leH,hget,rcI,ipv])))
 · have k1:(decide ((i:Int)<256))=false:=by simp;omega
   obtain rfl:i=256:=by omega
   have hcy:cyN x y 256=bitN (x+y) 256:=by
    unfold cyN bitN
    rw[Nat.mod_eq_of_lt (show x<2 ^ 256 from hx),Nat.mod_eq_of_lt (show y<2 ^ 256 from hy)]
    have:(x+y)/2 ^ 256<2:=Nat.div_lt_of_lt_mul (by have:x<2 ^ 256:=hx;have:y<2 ^ 256:=hy;omega)
    omega
   rw[hcy]
   have hr:rcI tot=rcI (Q2s (x+y) 256)++[vi .i64 (bitN (x+y) 256:Nat)]:=by
    rw[←htot,ht]
    simp[rcI,ipv]
   generalize Q2s (x+y) 256=out at hol hr ⊢
   have k2:=X3k out
   generalize bitN (x+y) 256=s at hr ⊢
   (have W:=ndI k1 (ndI k2 (ndI @wrI @Q0m));(repeat(any_goals(first|((with_reducible refine Q0d ?_ ?_);rfl;intro K hK;simp(disch:=omega) only[go_sem,W,hol,Nat.mul_one,Q3b,Q2i,AV.refsL,AV.refs,List.length_append,List.length_cons,List.length_nil,Bool.or_false];((repeat(refine ndI (by first|assumption|rfl) ?_));refine hK _ ?_;clear hK K))|(with_reducible first|(refine Q0c ?_;refine hR _ ?_;clear hR R)|((first|refine Q0e ?_);intro Ψ hΨ hΨ')|(refine Q0b ?_;intro R hR)|(refine hΨ _ ?_;clear hΨ hΨ' Ψ)|refine Q0l ?_|refine Q0v ?_)|((with_reducible refine hΨ' _ _ ?_ ?_);(focus(simp;done));clear hΨ hΨ' Ψ)|((with_reducible apply Q0f);rfl;rfl;all_goals(intro hc;first|(cases hc;done)|(try simp only at hc)))))))
   all_goals rw[hr]
   all_goals(refine⟨by simp,⟨_,?_,AV.le_refl _⟩,Q0i (by simp[leH,hget])⟩;simp only[Tryz.results46,resL,ldA,Q0z,go_sem])
theorem addb_fn(e1 e2:Bool)(x y:Nat)(hx:x<WW)(hy:y<WW):Fn Tryz.prog 46 [isl e1 (Q2s x 256),isl e2 (Q2s y 256)] [] (isl false (Q2s (x+y) 257)) []:=frzI (Q3d _ _) (add_row e1 e2 x y hx hy)
end
section
open Go.RowKit
open Nat (reduceBEq)
set_option maxRecDepth 20000
set_option maxHeartbeats 2000000
theorem orN{a b:Nat}(ha:a<18446744073709551616)(hb:b<18446744073709551616):IntKind.u64.wrap (BitVec.ofInt IntKind.u64.bits (a:Int) ||| BitVec.ofInt IntKind.u64.bits (b:Int)).toNat=((a ||| b:Nat):Int):=by
 have e:(BitVec.ofInt IntKind.u64.bits (a:Int) ||| BitVec.ofInt IntKind.u64.bits (b:Int)).toNat=a ||| b:=by
  show(BitVec.ofInt 64 (a:Int) ||| BitVec.ofInt 64 (b:Int)).toNat=_
  rw[BitVec.toNat_or,BitVec.ofInt_natCast,BitVec.ofInt_natCast,BitVec.toNat_ofNat,BitVec.toNat_ofNat,Nat.mod_eq_of_lt ha,Nat.mod_eq_of_lt hb]
 rw[e]
 have h:a ||| b<2 ^ 64:=Nat.or_lt_two_pow ha hb
 exact wrU (by omega) (by omega)
theorem orR{a r:Nat}(hr:r<64)(ha:a<2 ^ r):IntKind.u64.wrap (BitVec.ofInt IntKind.u64.bits (a:Int) ||| BitVec.ofInt IntKind.u64.bits ((2 ^ r:Nat):Int)).toNat=((a+2 ^ r:Nat):Int):=by
 have h2:2 ^ r≤9223372036854775808:=Nat.pow_le_pow_right (n:=2) (by omega) (show r≤63 by omega)
 rw[orN (by omega) (by omega),Nat.or_comm]
 have h3:=Nat.two_pow_add_eq_or_of_lt (i:=r) (b:=a) ha 1
 rw[Nat.mul_one] at h3
 rw[←h3,Nat.add_comm]
theorem shl1{r:Nat}(hr:r<64):IntKind.u64.wrap (1*2 ^ (min r IntKind.u64.bits))=((2 ^ r:Nat):Int):=by
 have hm:min r IntKind.u64.bits=r:=Nat.min_eq_left (show r≤64 by omega)
 have h2:2 ^ r≤9223372036854775808:=Nat.pow_le_pow_right (n:=2) (by omega) (show r≤63 by omega)
 rw[hm,Int.one_mul,show((2:Int) ^ r)=((2 ^ r:Nat):Int) by simp]
 generalize 2 ^ r=R at h2 ⊢
 exact wrU (by omega) (by omega)
theorem limb0{w R:Nat}(hw:w<R)(hR:R≤9223372036854775808):l0 w=(w:Int)∧l0 (w+R)=((w+R:Nat):Int)∧l1 (w+R)=l1 w∧l2 (w+R)=l2 w∧l3 (w+R)=l3 w:=by
 unfold l0 l1 l2 l3
 refine⟨?_,?_,?_,?_,?_⟩<;>congr 1<;>omega
theorem limb1{w R:Nat}(hw:w<18446744073709551616*R)(hR:R≤9223372036854775808):l1 w=((w/18446744073709551616:Nat):Int)∧w/18446744073709551616<R∧l0 (w+18446744073709551616*R)=l0 w∧l1 (w+18446744073709551616*R)=((w/18446744073709551616+R:Nat):Int)∧l2 (w+18446744073709551616*R)=l2 w∧l3 (w+18446744073709551616*R)=l3 w:=by
 unfold l0 l1 l2 l3
 refine⟨?_,?_,?_,?_,?_,?_⟩<;>(try congr 1)<;>omega
theorem limb2{w R:Nat}(hw:w<18446744073709551616*(18446744073709551616*R))(hR:R≤9223372036854775808):l2 w=((w/18446744073709551616/18446744073709551616:Nat):Int)∧w/18446744073709551616/18446744073709551616<R∧l0 (w+18446744073709551616*(18446744073709551616*R))=l0 w∧l1 (w+18446744073709551616*(18446744073709551616*R))=l1 w∧l2 (w+18446744073709551616*(18446744073709551616*R))=((w/18446744073709551616/18446744073709551616+R:Nat):Int)∧l3 (w+18446744073709551616*(18446744073709551616*R))=l3 w:=by
 unfold l0 l1 l2 l3
 have e:(w+18446744073709551616*(18446744073709551616*R))/18446744073709551616=w/18446744073709551616+18446744073709551616*R:=by omega
 rw[e]
 have hw1:w/18446744073709551616<18446744073709551616*R:=by omega
 have e0:(w+18446744073709551616*(18446744073709551616*R))%18446744073709551616=w%18446744073709551616:=by omega
 rw[e0]
 generalize w/18446744073709551616=v at hw1
 refine⟨?_,?_,rfl,?_,?_,?_⟩<;>(try congr 1)<;>omega
theorem limb3{w R:Nat}(hw:w<18446744073709551616*(18446744073709551616*(18446744073709551616*R)))(hR:R≤9223372036854775808):l3 w=((w/18446744073709551616/18446744073709551616/18446744073709551616:Nat):Int)∧w/18446744073709551616/18446744073709551616/18446744073709551616<R∧l0 (w+18446744073709551616*(18446744073709551616*(18446744073709551616*R)))=l0 w∧l1 (w+18446744073709551616*(18446744073709551616*(18446744073709551616*R)))=l1 w∧l2 (w+18446744073709551616*(18446744073709551616*(18446744073709551616*R)))=l2 w∧l3 (w+18446744073709551616*(18446744073709551616*(18446744073709551616*R)))=((w/18446744073709551616/18446744073709551616/18446744073709551616+R:Nat):Int):=by
 unfold l0 l1 l2 l3
 have e:(w+18446744073709551616*(18446744073709551616*(18446744073709551616*R)))/18446744073709551616=w/18446744073709551616+18446744073709551616*(18446744073709551616*R):=by omega
 have e0:(w+18446744073709551616*(18446744073709551616*(18446744073709551616*R)))%18446744073709551616=w%18446744073709551616:=by omega
 have hw1:w/18446744073709551616<18446744073709551616*(18446744073709551616*R):=by omega
 rw[e,e0]
 generalize w/18446744073709551616=v at hw1
 have e2:(v+18446744073709551616*(18446744073709551616*R))/18446744073709551616=v/18446744073709551616+18446744073709551616*R:=by omega
 have e3:(v+18446744073709551616*(18446744073709551616*R))%18446744073709551616=v%18446744073709551616:=by omega
 have hw2:v/18446744073709551616<18446744073709551616*R:=by omega
 rw[e2,e3]
 generalize v/18446744073709551616=u at hw2
 refine⟨?_,?_,rfl,rfl,?_,?_⟩<;>(try congr 1)<;>omega
theorem set_bit{z i:Nat}(hb:bitN z i=1):z%2 ^ (i+1)=z%2 ^ i+2 ^ i:=by
 rw[Nat.mod_pow_succ]
 have:z/2 ^ i%2=1:=hb
 rw[this,Nat.mul_one]
theorem unset_bit{z i:Nat}(hb:bitN z i=0):z%2 ^ (i+1)=z%2 ^ i:=by
 rw[Nat.mod_pow_succ]
 have:z/2 ^ i%2=0:=hb
 rw[this,Nat.mul_zero,Nat.add_zero]
theorem of_step{z i:Nat}(hi:i<256)(hb:bitN z i=1) :
 (i/64=0∧IntKind.u64.wrap (BitVec.ofInt IntKind.u64.bits (l0 (z%2 ^ i)) ||| BitVec.ofInt IntKind.u64.bits ((2 ^ (i%64):Nat):Int)).toNat=l0 (z%2 ^ (i+1))∧l1 (z%2 ^ (i+1))=l1 (z%2 ^ i)∧l2 (z%2 ^ (i+1))=l2 (z%2 ^ i)∧l3 (z%2 ^ (i+1))=l3 (z%2 ^ i)) ∨
 (i/64=1∧IntKind.u64.wrap (BitVec.ofInt IntKind.u64.bits (l1 (z%2 ^ i)) ||| BitVec.ofInt IntKind.u64.bits ((2 ^ (i%64):Nat):Int)).toNat=l1 (z%2 ^ (i+1))∧l0 (z%2 ^ (i+1))=l0 (z%2 ^ i)∧l2 (z%2 ^ (i+1))=l2 (z%2 ^ i)∧l3 (z%2 ^ (i+1))=l3 (z%2 ^ i)) ∨
 (i/64=2∧IntKind.u64.wrap (BitVec.ofInt IntKind.u64.bits (l2 (z%2 ^ i)) ||| BitVec.ofInt IntKind.u64.bits ((2 ^ (i%64):Nat):Int)).toNat=l2 (z%2 ^ (i+1))∧l0 (z%2 ^ (i+1))=l0 (z%2 ^ i)∧l1 (z%2 ^ (i+1))=l1 (z%2 ^ i)∧l3 (z%2 ^ (i+1))=l3 (z%2 ^ i)) ∨
 (i/64=3∧IntKind.u64.wrap (BitVec.ofInt IntKind.u64.bits (l3 (z%2 ^ i)) ||| BitVec.ofInt IntKind.u64.bits ((2 ^ (i%64):Nat):Int)).toNat=l3 (z%2 ^ (i+1))∧l0 (z%2 ^ (i+1))=l0 (z%2 ^ i)∧l1 (z%2 ^ (i+1))=l1 (z%2 ^ i)∧l2 (z%2 ^ (i+1))=l2 (z%2 ^ i)):=by
 have hr:i%64<64:=Nat.mod_lt _ (by decide)
 have hR:2 ^ (i%64)≤9223372036854775808:=Nat.pow_le_pow_right (n:=2) (by omega) (show i%64≤63 by omega)
 have hw:z%2 ^ i<2 ^ i:=Nat.mod_lt _ (Nat.pos_of_ne_zero (by simp))
 have hpow:2 ^ i=2 ^ (64*(i/64))*2 ^ (i%64):=by rw[←Nat.pow_add,Nat.div_add_mod]
 rw[set_bit hb]
 generalize z%2 ^ i=w at hw ⊢
 have hor:∀a:Nat,a<2 ^ (i%64)→_:=fun a ha=>orR hr ha
 generalize 2 ^ (i%64)=R at *
 have hq:i/64=0∨i/64=1∨i/64=2∨i/64=3:=by omega
 rcases hq with hq|hq|hq|hq
 · rw[hq] at hpow
   rw[show 2 ^ (64*0)=1 from rfl,Nat.one_mul] at hpow
   rw[hpow] at hw ⊢
   obtain⟨h0,h1,h2,h3,h4⟩:=limb0 hw hR
   exact .inl ⟨hq,by rw[h0,h1];exact hor w hw,h2,h3,h4⟩
 · rw[hq] at hpow
   rw[show 2 ^ (64*1)=18446744073709551616 from rfl] at hpow
   rw[hpow] at hw ⊢
   obtain⟨h0,h1,h2,h3,h4,h5⟩:=limb1 hw hR
   exact .inr (.inl ⟨hq,by rw[h0,h3];exact hor _ h1,h2,h4,h5⟩)
 · rw[hq] at hpow
   rw[show 2 ^ (64*2)=18446744073709551616*18446744073709551616 from rfl,Nat.mul_assoc] at hpow
   rw[hpow] at hw ⊢
   obtain⟨h0,h1,h2,h3,h4,h5⟩:=limb2 hw hR
   exact .inr (.inr (.inl ⟨hq,by rw[h0,h4];exact hor _ h1,h2,h3,h5⟩))
 · rw[hq] at hpow
   rw[show 2 ^ (64*3)=18446744073709551616*(18446744073709551616*18446744073709551616) from rfl,Nat.mul_assoc,Nat.mul_assoc] at hpow
   rw[hpow] at hw ⊢
   obtain⟨h0,h1,h2,h3,h4,h5⟩:=limb3 hw hR
   exact .inr (.inr (.inr ⟨hq,by rw[h0,h5];exact hor _ h1,h2,h3,h4⟩))
theorem ofb_fn(ex:Bool)(z k:Nat)(hk:256≤k)(hk2:k≤257):Fn Tryz.prog 48 [isl ex (Q2s z k)] [] (wN (z%WW)) []:=by
 have hlen:=Q3d z k
 have hbit:∀i,i<k→((((Q2s z k).flatMap ipv).drop i).take 1=[.v (.int .i64 (bitN z i:Nat))]):=fun i hi=>X4y (Q8a hi)
 generalize Q2s z k=bl at hlen hbit ⊢
 (refine Q1c Tryz.func48 rfl (by rfl) ?_;simp only[Tryz.ntmps48,List.length_cons,List.length_nil,Nat.reduceAdd,Nat.reduceSub,List.replicate,List.cons_append,List.nil_append])
 (repeat(any_goals(first|((with_reducible refine Q0d ?_ ?_);rfl;intro K hK;simp only[go_sem,hlen];((repeat(refine ndI (by first|assumption) ?_));refine hK _ ?_;clear hK K))|(with_reducible first|(refine Q0c ?_;refine hR _ ?_;clear hR R)|((first|refine Q0e ?_|refine Q0g ?_);intro Ψ hΨ hΨ')|(refine Q0b ?_;intro R hR)|(refine hΨ _ ?_;clear hΨ hΨ' Ψ)))))
 refine Q3f k (fun i=>⟨[.any,.any,.ptr 2 0,.ptr 3 0,.any,.any,isl ex bl,vi .i64 k,vi .i64 i,.any,.any,.any,.any,.any,.any,.any,.any,.any,.any,.any,.any,.any,.any,.any,.any,.any,.any,.any,.any,.any],[(2,[vi .u64 0,vi .u64 0,vi .u64 0,vi .u64 0]),(3,[vi .u64 (l0 (z%2 ^ min i 256)),vi .u64 (l1 (z%2 ^ min i 256)),vi .u64 (l2 (z%2 ^ min i 256)),vi .u64 (l3 (z%2 ^ min i 256))])]⟩) (St.le_of (by simp[leT,hlen]) (by simp[leH,hget,Nat.mod_one,Q3w,Q3v,Q3u,Q3t])) ?_
 intro i hi Ψ hΨ hΨ'
 (try dsimp only at hΨ ⊢)
 rcases Nat.lt_or_ge i k with hlt|hge
 · have k1:(decide ((i:Int)<(k:Int)))=true:=by simp;omega
   have k7:(i:Int)+1=((i+1:Nat):Int):=by omega
   have k2:=hbit i hlt
   have hil:i<bl.length:=by omega
   have b1:=X1g z i
   rcases Nat.lt_or_ge i 256 with h256|h256
   · have k3:(decide ((i:Int)<256))=true:=by simp;omega
     rw[Nat.min_eq_left (by omega:i≤256)] at *
     rw[Nat.min_eq_left (by omega:i+1≤256)] at hΨ
     rcases(by omega:bitN z i=0∨bitN z i=1) with hb|hb
     · have k4:((bitN z i:Nat):Int)=0:=by rw[hb];rfl
       rw[unset_bit hb] at hΨ
       (have W:=ndI k1 (ndI k2 (ndI k3 (ndI k4 (ndI k7 @wrI))));(repeat(any_goals(first|((with_reducible refine Q0d ?_ ?_);rfl;intro K hK;simp(disch:=omega) only[go_sem,W,Nat.mul_one,Int.reduceBEq];((repeat(refine ndI (by first|assumption|omega|rfl) ?_));refine hK _ ?_;clear hK K))|(with_reducible first|(refine Q0c ?_;refine hR _ ?_;clear hR R)|((first|refine Q0e ?_|refine Q0g ?_);intro Ψ hΨ hΨ')|(refine Q0b ?_;intro R hR)|(refine hΨ _ ?_;clear hΨ hΨ' Ψ)|refine Q0h ?_)|((with_reducible refine hΨ' _ _ ?_ ?_);(focus(simp;done));clear hΨ hΨ' Ψ)|((with_reducible apply Q1i);rfl;rfl;rfl;all_goals(intro hb;first|(cases hb;done)|((try simp only[Bool.not_true,Bool.not_false] at hb);(first|((with_reducible intro K hK);simp(disch:=omega) only[go_sem,W,Nat.mul_one,Int.reduceBEq];((repeat(refine ndI (by first|assumption|rfl) ?_));refine hK _ ?_;clear hK K))))))|((with_reducible apply Q0f);rfl;rfl;all_goals(intro hc;first|(cases hc;done)|(try simp only at hc)))))))
       all_goals exact hΨ _ hlt (St.le_of (by simp[leT]) (by simp[leH,hget]))
     · have k4:((bitN z i:Nat):Int)=1:=by rw[hb];rfl
       have e3:(i:Int).tdiv 64=((i/64:Nat):Int):=rfl
       have e4:(i:Int).tmod 64=((i%64:Nat):Int):=rfl
       have e5:=shl1 (Nat.mod_lt i (show 0<64 by decide))
       have os:=of_step h256 hb
       generalize ((2 ^ (i%64):Nat):Int)=R at e5 os
       generalize z%2 ^ (i+1)=w2 at os hΨ
       generalize z%2 ^ i=w at os ⊢
       rcases os with⟨hq,o1,o2,o3,o4⟩|⟨hq,o1,o2,o3,o4⟩|⟨hq,o1,o2,o3,o4⟩|⟨hq,o1,o2,o3,o4⟩
       all_goals rw[o2,o3,o4] at hΨ
       all_goals(have W:=ndI k1 (ndI k2 (ndI k3 (ndI k4 (ndI k7 (ndI e3 (ndI e4 (ndI e5 (ndI o1 @wrI))))))));(repeat(any_goals(first|((with_reducible refine Q0d ?_ ?_);rfl;intro K hK;simp(disch:=omega) only[St.free,Q1j,reduceCtorEq,Nat.reduceMod,Nat.reduceDiv,Nat.reduceSub,Nat.reduceMul,Int.reduceToNat,Int.reduceLT,Int.reduceLE,Nat.reduceEqDiff,↓reduceIte,Nat.reduceLeDiff,Nat.reduceLT,Nat.reduceAdd,Nat.reduceBNe,Nat.reduceBEq,forall_const,evz,Q3o,AV.cells,ofV,evO,W,hq,Nat.mul_one,Int.reduceBEq,Int.cast_ofNat_Int,Int.natCast_one,Int.reduceEq,Int.toNat_natCast,Int.natCast_nonneg,ty3,ty25,ty27,ty93];((repeat(refine ndI (by first|assumption|omega|rfl) ?_));refine hK _ ?_;clear hK K))|(with_reducible first|(refine Q0c ?_;refine hR _ ?_;clear hR R)|((first|refine Q0e ?_|refine Q0g ?_);intro Ψ hΨ hΨ')|(refine Q0b ?_;intro R hR)|(refine hΨ _ ?_;clear hΨ hΨ' Ψ)|refine Q0h ?_)|((with_reducible refine hΨ' _ _ ?_ ?_);(focus(simp;done));clear hΨ hΨ' Ψ)|((with_reducible apply Q1i);rfl;rfl;rfl;all_goals(intro hb;first|(cases hb;done)|((try simp only[Bool.not_true,Bool.not_false] at hb);(first|((with_reducible intro K hK);simp(disch:=omega) only[St.free,Q1j,reduceCtorEq,Nat.reduceMod,Nat.reduceDiv,Nat.reduceSub,Nat.reduceMul,Int.reduceToNat,Int.reduceLT,Int.reduceLE,Nat.reduceEqDiff,↓reduceIte,Nat.reduceLeDiff,Nat.reduceLT,Nat.reduceAdd,Nat.reduceBNe,Nat.reduceBEq,forall_const,evz,Q3o,AV.cells,ofV,evO,W,hq,Nat.mul_one,Int.reduceBEq,Int.cast_ofNat_Int,Int.natCast_one,Int.reduceEq,Int.toNat_natCast,Int.natCast_nonneg,ty3,ty25,ty27,ty93];((repeat(refine ndI (by first|assumption|rfl) ?_));refine hK _ ?_;clear hK K))))))|((with_reducible apply Q0f);rfl;rfl;all_goals(intro hc;first|(cases hc;done)|(try simp only at hc)))|((with_reducible refine Q0w ?_ ?_);kernel_rfl;(with_reducible refine hR _ ?_);clear hR R)|(((with_reducible apply Q0u);rfl;rfl;(simp(disch:=omega) only[rdE,rdOf,St.free,Q1j,reduceCtorEq,Nat.reduceMod,Nat.reduceDiv,Nat.reduceSub,Nat.reduceMul,Int.reduceToNat,Int.reduceLT,Int.reduceLE,Nat.reduceEqDiff,↓reduceIte,Nat.reduceLeDiff,Nat.reduceLT,Nat.reduceAdd,Nat.reduceBNe,Nat.reduceBEq,forall_const,evz,Q3o,AV.cells,ofV,evO,W,hq,Nat.mul_one,Int.reduceBEq,Int.cast_ofNat_Int,Int.natCast_one,Int.reduceEq,Int.toNat_natCast,Int.natCast_nonneg];rfl);(intro τ hA hQ hN;((try simp only[Q1g,Op.operands,Call.operands,reduceCtorEq,Nat.reduceMod,Nat.reduceDiv,Nat.reduceSub,Nat.reduceMul,Int.reduceToNat,Int.reduceLT,Int.reduceLE,Nat.reduceEqDiff,↓reduceIte,Nat.reduceLeDiff,Nat.reduceLT,Nat.reduceAdd,Nat.reduceBNe,Nat.reduceBEq,forall_const,evz,Q3o,AV.cells,ofV,evO,W,hq,Nat.mul_one,Int.reduceBEq,Int.cast_ofNat_Int,Int.natCast_one,Int.reduceEq,Int.toNat_natCast,Int.natCast_nonneg,ty3,ty25,ty27,ty93,List.mem_cons,List.not_mem_nil,forall_eq_or_imp,forall_eq,List.append_toArray,Option.toArray] at hA);(try simp only[reduceCtorEq,Nat.reduceMod,Nat.reduceDiv,Nat.reduceSub,Nat.reduceMul,Int.reduceToNat,Int.reduceLT,Int.reduceLE,Nat.reduceEqDiff,↓reduceIte,Nat.reduceLeDiff,Nat.reduceLT,Nat.reduceAdd,Nat.reduceBNe,Nat.reduceBEq,forall_const,evz,Q3o,AV.cells,ofV,evO,W,hq,Nat.mul_one,Int.reduceBEq,Int.cast_ofNat_Int,Int.natCast_one,Int.reduceEq,Int.toNat_natCast,Int.natCast_nonneg,List.mem_cons,List.not_mem_nil,forall_eq_or_imp,forall_eq] at hQ hN);(first|(revert hA;intro hA));(first|(revert hQ;intro hQ));(first|(revert hN;intro hN));simp(disch:=omega) only[reduceCtorEq,Nat.reduceMod,Nat.reduceDiv,Nat.reduceSub,Nat.reduceMul,Int.reduceToNat,Int.reduceLT,Int.reduceLE,Nat.reduceEqDiff,↓reduceIte,Nat.reduceLeDiff,Nat.reduceLT,Nat.reduceAdd,Nat.reduceBNe,Nat.reduceBEq,forall_const,evz,Q3o,AV.cells,ofV,evO,W,hq,Nat.mul_one,Int.reduceBEq,Int.cast_ofNat_Int,Int.natCast_one,Int.reduceEq,Int.toNat_natCast,Int.natCast_nonneg,ty3,ty25,ty27,ty93,hA,hQ,hN];(repeat(refine ndI (by first|assumption|rfl) ?_));(first|apply Q1d|apply Q2o))));(simp(disch:=omega) only[St.eff,setO,Q0x,St.free,Q1j,reduceCtorEq,Nat.reduceMod,Nat.reduceDiv,Nat.reduceSub,Nat.reduceMul,Int.reduceToNat,Int.reduceLT,Int.reduceLE,Nat.reduceEqDiff,↓reduceIte,Nat.reduceLeDiff,Nat.reduceLT,Nat.reduceAdd,Nat.reduceBNe,Nat.reduceBEq,forall_const,evz,Q3o,AV.cells,ofV,evO,W,hq,Nat.mul_one,Int.reduceBEq,Int.cast_ofNat_Int,Int.natCast_one,Int.reduceEq,Int.toNat_natCast,Int.natCast_nonneg]))|((with_reducible refine Q0r ?_ ?_ ?_ ?_);kernel_rfl;kernel_rfl;(first|kernel_rfl);intro R hR)))))
       all_goals exact hΨ _ hlt (St.le_of (by simp[leT]) (by simp[leH,hget]))
   · have k3:(decide ((i:Int)<256))=false:=by simp;omega
     rw[Nat.min_eq_right (by omega:256≤i)] at *
     rw[Nat.min_eq_right (by omega:256≤i+1)] at hΨ
     (have W:=ndI k1 (ndI k2 (ndI k3 (ndI k7 @wrI)));(repeat(any_goals(first|((with_reducible refine Q0d ?_ ?_);rfl;intro K hK;simp(disch:=omega) only[go_sem,W,Nat.mul_one];((repeat(refine ndI (by first|assumption|omega|rfl) ?_));refine hK _ ?_;clear hK K))|(with_reducible first|(refine Q0c ?_;refine hR _ ?_;clear hR R)|((first|refine Q0e ?_|refine Q0g ?_);intro Ψ hΨ hΨ')|(refine Q0b ?_;intro R hR)|(refine hΨ _ ?_;clear hΨ hΨ' Ψ)|refine Q0h ?_)|((with_reducible refine hΨ' _ _ ?_ ?_);(focus(simp;done));clear hΨ hΨ' Ψ)|((with_reducible apply Q1i);rfl;rfl;rfl;all_goals(intro hb;first|(cases hb;done)|((try simp only[Bool.not_true,Bool.not_false] at hb);(first|((fail_if_success (with_reducible intro _));simp(disch:=omega) only[go_sem,W,Nat.mul_one])))))|((with_reducible apply Q0f);rfl;rfl;all_goals(intro hc;first|(cases hc;done)|(try simp only at hc)))))))
     all_goals exact hΨ _ hlt (St.le_of (by simp[leT]) (by simp[leH,hget]))
 · have k1:(decide ((i:Int)<(k:Int)))=false:=by simp;omega
   rw[Nat.min_eq_right (by omega:256≤i)]
   (repeat(any_goals(first|((with_reducible refine Q0d ?_ ?_);rfl;intro K hK;simp only[go_sem,k1];((repeat(refine ndI (by first|assumption) ?_));refine hK _ ?_;clear hK K))|(with_reducible first|(refine Q0c ?_;refine hR _ ?_;clear hR R)|((first|refine Q0e ?_);intro Ψ hΨ hΨ')|(refine Q0b ?_;intro R hR)|(refine hΨ _ ?_;clear hΨ hΨ' Ψ)|refine Q0l ?_|refine Q0v ?_)|((with_reducible refine hΨ' _ _ ?_ ?_);(focus(simp;done));clear hΨ hΨ' Ψ)|((with_reducible apply Q0f);rfl;rfl;all_goals(intro hc;first|(cases hc;done)|(try simp only at hc))))))
   all_goals(refine⟨by simp,⟨_,?_,AV.le_refl _⟩,Q0i (by simp[leH,hget])⟩;simp only[Tryz.results48,resL,ldA,Q0z,go_sem])
end
section
open Go.RowKit
open Nat (reduceBEq)
set_option maxRecDepth 20000
set_option maxHeartbeats 2000000
theorem over_bit{x y:Nat}(hx:x<WW)(hy:y<WW):(((bitN (x+y) 256:Nat):Int)==1)=decide (WW≤x+y):=by
 have hx':x<2 ^ 256:=hx
 have hy':y<2 ^ 256:=hy
 have hW:WW=2 ^ 256:=rfl
 rw[hW]
 unfold bitN
 generalize (2:Nat) ^ 256=M at hx' hy' ⊢
 rw[Bool.eq_iff_iff]
 simp only[beq_iff_eq,decide_eq_true_eq]
 have h1:(x+y)/M<2:=Nat.div_lt_of_lt_mul (by omega)
 rcases Nat.lt_or_ge (x+y) M with h|h
 · rw[Nat.div_eq_of_lt h];simp;omega
 · have:1≤(x+y)/M:=(Nat.le_div_iff_mul_le (by omega)).2 (by omega)
   have e:(x+y)/M=1:=by omega
   rw[e];simp;omega
theorem X1w(x y:Nat)(hx:x<WW)(hy:y<WW):Fn Tryz.prog 24 [wN x,wN y] [] (.tup [wN ((x+y)%WW),vb (decide (WW≤x+y))]) []:=by
 have b1:=bits_fn x hx
 have b2:=bits_fn y hy
 have ad:=addb_fn false false x y hx hy
 have of:=ofb_fn false (x+y) 257 (by decide) (by decide)
 have ob:=over_bit hx hy
 have hl:=Q3d (x+y) 257
 have hbit:=X4y (Q8a (z:=x+y) (show 256<257 by decide))
 generalize decide (WW≤x+y)=q at ob ⊢
 generalize (x+y)%WW=r at of ⊢
 generalize bitN (x+y) 256=s at ob hbit
 generalize Q2s (x+y) 257=l at ad of hl hbit
 generalize Q2s x 256=lx at b1 ad
 generalize Q2s y 256=ly at b2 ad
 have hl2:256<l.length:=by omega
 (refine Q1c Tryz.func24 rfl (by rfl) ?_;simp only[Tryz.ntmps24,List.length_cons,List.length_nil,Nat.reduceAdd,Nat.reduceSub,List.replicate,List.cons_append,List.nil_append])
 (repeat(any_goals(first|((with_reducible refine Q0d ?_ ?_);rfl;intro K hK;simp(disch:=omega) only[go_sem,ob,hbit,hl,Nat.mul_one,Nat.reduceMul];((repeat(refine ndI (by first|assumption|rfl) ?_));refine hK _ ?_;clear hK K))|(with_reducible first|(refine Q0c ?_;refine hR _ ?_;clear hR R)|((first|refine Q0e ?_);intro Ψ hΨ hΨ')|(refine Q0b ?_;intro R hR)|(refine hΨ _ ?_;clear hΨ hΨ' Ψ)|refine Q0l ?_)|((with_reducible refine Q0w ?_ ?_);kernel_rfl;(with_reducible refine hR _ ?_);clear hR R)|((first|((with_reducible apply Q1m);rfl;rfl;(first|((first|(apply Q0s (ad);rfl;rfl;rfl;rfl;exact Tryz.func46)|(apply Q0s (of);rfl;rfl;rfl;rfl;exact Tryz.func48));kernel_rfl;rfl;(focus((simp(disch:=omega) only[go_sem,ob,hbit,hl,Nat.mul_one,Nat.reduceMul]);(try rfl);done));(first|rfl))|((apply Q0s (b1);rfl;rfl;rfl;rfl;exact Tryz.func47);kernel_rfl;rfl;(focus((simp(disch:=omega) only[go_sem,ob,hbit,hl,Nat.mul_one,Nat.reduceMul]);(try rfl);done));(first|rfl))|((apply Q0s (b2);rfl;rfl;rfl;rfl;exact Tryz.func47);kernel_rfl;rfl;(focus((simp(disch:=omega) only[go_sem,ob,hbit,hl,Nat.mul_one,Nat.reduceMul]);(try rfl);done));(first|rfl))))|((with_reducible apply Q0u);rfl;rfl;(simp(disch:=omega) only[rdE,rdOf,go_sem,ob,hbit,hl,Nat.mul_one,Nat.reduceMul];rfl);(intro τ hA hQ hN;((try simp only[Q1g,Op.operands,Call.operands,go_sem,ob,hbit,hl,Nat.mul_one,Nat.reduceMul,go_sem,List.mem_cons,List.not_mem_nil,forall_eq_or_imp,forall_eq,List.append_toArray,Option.toArray] at hA);(try simp only[go_sem,ob,hbit,hl,Nat.mul_one,Nat.reduceMul,List.mem_cons,List.not_mem_nil,forall_eq_or_imp,forall_eq] at hQ hN);(first|(revert hA;intro hA));(first|(revert hQ;intro hQ));(first|(revert hN;intro hN));simp(disch:=omega) only[go_sem,ob,hbit,hl,Nat.mul_one,Nat.reduceMul,go_sem,hA,hQ,hN];(repeat(refine ndI (by first|assumption|omega|rfl) ?_));(first|apply Q1d|apply Q2o)))));(simp(disch:=omega) only[St.eff,setO,Q0x,go_sem,ob,hbit,hl,Nat.mul_one,Nat.reduceMul]))|((with_reducible refine Q0r ?_ ?_ ?_ ?_);kernel_rfl;kernel_rfl;(first|kernel_rfl);intro R hR))))
 all_goals(refine⟨by simp,⟨_,?_,AV.le_refl _⟩,Q0i (by simp[leH,hget])⟩;simp only[Tryz.results24,resL,ldA,Q0z,go_sem])
end
section
open Go.RowKit
open Nat (reduceBEq)
set_option maxRecDepth 20000
set_option maxHeartbeats 4000000
abbrev gA(g:Nat):AV:=.agg [vi .u64 (l0 (g%WW)),vi .u64 (l1 (g%WW)),vi .u64 (l2 (g%WW)),vi .u64 (l3 (g%WW)),vi .i64 (g/WW:Nat)]
theorem plus_fn(g x:Nat)(hg:g/WW≤1000000)(hx:x<WW):Fn Tryz.prog 19 [gA g,wN x] [] (gA (g+x)) []:=by
 have hW:0<WW:=by decide
 have f:=X1w (g%WW) x (Nat.mod_lt _ hW) hx
 have e1:(g+x)%WW=(g%WW+x)%WW:=by rw[Nat.add_mod,Nat.mod_eq_of_lt hx]
 have e2:(g+x)/WW=g/WW+if WW≤g%WW+x then 1 else 0:=by
  have h1:=Nat.div_add_mod g WW
  have h2:=Nat.mod_lt g hW
  split
  · rename_i h
    rw[Nat.div_eq_iff hW]
    generalize g/WW=d at *
    generalize g%WW=m at *
    generalize WW=W at *
    rw[Nat.add_mul,Nat.one_mul]
    have:W*d=d*W:=Nat.mul_comm _ _
    omega
  · rename_i h
    rw[Nat.div_eq_iff hW]
    generalize g/WW=d at *
    generalize g%WW=m at *
    generalize WW=W at *
    rw[Nat.add_zero]
    have:W*d=d*W:=Nat.mul_comm _ _
    omega
 unfold gA
 rw[e1,e2]
 generalize (g%WW+x)%WW=m at f ⊢
 generalize g%WW=r at *
 generalize g/WW=d at *
 by_cases h:WW≤r+x
 · rw[decide_eq_true h] at f
   rw[if_pos h]
   have e3:(d:Int)+1=((d+1:Nat):Int):=by omega
   clear e1 e2
   (refine Q1c Tryz.func19 rfl (by rfl) ?_;simp only[Tryz.ntmps19,List.length_cons,List.length_nil,Nat.reduceAdd,Nat.reduceSub,List.replicate,List.cons_append,List.nil_append])
   (repeat(any_goals(first|((with_reducible refine Q0p ?_ ?_ ?_);rfl;rfl;intro K hK;((apply Q0k (f);rfl;rfl;rfl;rfl;exact Tryz.func24);kernel_rfl;rfl;(focus((simp(disch:=omega) only[go_sem,e3,wrI]);(try rfl);done));(first|rfl));(simp(disch:=omega) only[go_sem,e3,wrI];refine hK _ ?_;clear hK K))|((with_reducible refine Q0d ?_ ?_);rfl;intro K hK;simp(disch:=omega) only[go_sem,e3,wrI];((repeat(refine ndI (by first|assumption|rfl) ?_));refine hK _ ?_;clear hK K))|(with_reducible first|(refine Q0c ?_;refine hR _ ?_;clear hR R)|((first|refine Q0e ?_);intro Ψ hΨ hΨ')|(refine Q0b ?_;intro R hR)|(refine hΨ _ ?_;clear hΨ hΨ' Ψ)|refine Q0l ?_)|((with_reducible apply Q0f);rfl;rfl;all_goals(intro hc;first|(cases hc;done)|(try simp only at hc))))))
   all_goals(refine⟨by simp,⟨_,?_,AV.le_refl _⟩,Q0i (by simp[leH,hget])⟩;simp only[Tryz.results19,resL,ldA,Q0z,go_sem])
 · rw[decide_eq_false h] at f
   rw[if_neg h]
   clear e1 e2
   (refine Q1c Tryz.func19 rfl (by rfl) ?_;simp only[Tryz.ntmps19,List.length_cons,List.length_nil,Nat.reduceAdd,Nat.reduceSub,List.replicate,List.cons_append,List.nil_append])
   (repeat(any_goals(first|((with_reducible refine Q0p ?_ ?_ ?_);rfl;rfl;intro K hK;((apply Q0k (f);rfl;rfl;rfl;rfl;exact Tryz.func24);kernel_rfl;rfl;(focus((simp only[go_sem]);(try rfl);done));(first|rfl));(simp only[go_sem];refine hK _ ?_;clear hK K))|((with_reducible refine Q0d ?_ ?_);rfl;intro K hK;simp only[go_sem];((repeat(refine ndI (by first|assumption) ?_));refine hK _ ?_;clear hK K))|(with_reducible first|(refine Q0c ?_;refine hR _ ?_;clear hR R)|((first|refine Q0e ?_);intro Ψ hΨ hΨ')|(refine Q0b ?_;intro R hR)|(refine hΨ _ ?_;clear hΨ hΨ' Ψ)|refine Q0h ?_|refine Q0l ?_)|((with_reducible apply Q0f);rfl;rfl;all_goals(intro hc;first|(cases hc;done)|(try simp only at hc))))))
   all_goals(refine⟨by simp,⟨_,?_,AV.le_refl _⟩,Q0i (by simp[leH,hget])⟩;simp only[Tryz.results19,resL,ldA,Q0z,go_sem])
   all_goals rfl
theorem small_div{n k:Nat}(h:n≤k*WW):n/WW≤k:=by
 have:=Nat.div_le_div_right (c:=WW) h
 rwa [Nat.mul_div_cancel _ (by decide)] at this
theorem csum_le{l:List Rp}(ok:∀r∈l,r.ok):(csL l).sum≤l.length*WW:=by
 induction l with
 |nil=>simp[csL]
 |cons x l ih=>
  have h1:=ih fun r hr=>ok r (by simp[hr])
  have h2:=(ok x (by simp)).2.2.1
  have e:(csL (x::l)).sum=x.c+(csL l).sum:=by simp[csL]
  rw[e,List.length_cons,Nat.add_mul,Nat.one_mul]
  omega
theorem gcosts_fn(ex:Bool)(l:List Rp)(hl:l.length≤1000)(ok:∀r∈l,r.ok):Fn Tryz.prog 7 [rsl ex l] [] (gA (csL l).sum) []:=by
 obtain⟨s,hs⟩:∃s,(csL l).sum=s:=⟨_,rfl⟩
 rw[hs]
 have k8:l.length<9223372036854775808:=by omega
 (refine Q1c Tryz.func7 rfl (by rfl) ?_;simp only[Tryz.ntmps7,List.length_cons,List.length_nil,Nat.reduceAdd,Nat.reduceSub,List.replicate,List.cons_append,List.nil_append])
 (repeat(any_goals(first|((with_reducible refine Q0d ?_ ?_);rfl;intro K hK;simp only[go_sem];((repeat(refine ndI (by first|assumption) ?_));refine hK _ ?_;clear hK K))|(with_reducible first|(refine Q0c ?_;refine hR _ ?_;clear hR R)|((first|refine Q0e ?_|refine Q0g ?_);intro Ψ hΨ hΨ')|(refine Q0b ?_;intro R hR)|(refine hΨ _ ?_;clear hΨ hΨ' Ψ)))))
 refine Q3f l.length (fun i=>⟨[rsl ex l,.any,.ptr 2 0,.ptr 3 0,.any,.any,rsl ex l,vi .i64 l.length,vi .i64 (i:Int),.any,.any,.any,.any,.any,.any,.any,.any,.any],[(2,[vi .u64 0,vi .u64 0,vi .u64 0,vi .u64 0,vi .i64 0]),(3,[vi .u64 (l0 ((csL (l.take i)).sum%WW)),vi .u64 (l1 ((csL (l.take i)).sum%WW)),vi .u64 (l2 ((csL (l.take i)).sum%WW)),vi .u64 (l3 ((csL (l.take i)).sum%WW)),vi .i64 ((csL (l.take i)).sum/WW:Nat)])]⟩) (St.le_of (by simp[leT]) (by simp[leH,hget,csL,Q3w,Q3v,Q3u,Q3t])) ?_
 intro i hi Ψ hΨ hΨ'
 (try dsimp only at hΨ ⊢)
 rcases Nat.lt_or_ge i l.length with hlt|hge
 · obtain⟨x,hx⟩:∃x,l[i]? = some x:=⟨_,List.getElem?_eq_getElem hlt⟩
   have k1:(decide ((i:Int)<(l.length:Int)))=true:=decide_eq_true (by omega)
   have k2:=X5t hx
   have k7:(i:Int)+1=((i+1:Nat):Int):=by omega
   have k3:(csL (l.take (i+1))).sum=(csL (l.take i)).sum+x.c:=by
    rw[List.take_add_one,hx]
    simp[csL]
   have hle:(csL (l.take i)).sum≤1000*WW:=by
    have:=csum_le (l:=l.take i) fun r hr=>ok r (List.mem_of_mem_take hr)
    refine Nat.le_trans this (Nat.mul_le_mul_right _ ?_)
    rw[List.length_take];omega
   rw[k3] at hΨ
   generalize (csL (l.take i)).sum=g at hΨ hle ⊢
   have pl:=plus_fn g x.c (Nat.le_trans (small_div hle) (by decide)) (ok x (List.mem_of_getElem? hx)).2.2.1
   unfold gA at pl
   generalize (g+x.c)%WW=m1 at hΨ pl
   generalize (g+x.c)/WW=d1 at hΨ pl
   generalize g%WW=m0 at pl ⊢
   generalize g/WW=d0 at pl ⊢
   (have W:=ndI k1 (ndI k2 (ndI k7 @wrI));(repeat(any_goals(first|((with_reducible refine Q0p ?_ ?_ ?_);rfl;rfl;intro K hK;((apply Q0k (pl);rfl;rfl;rfl;rfl;exact Tryz.func19);kernel_rfl;rfl;(focus((simp(disch:=omega) only[go_sem,W]);(try rfl);done));(first|rfl));(simp(disch:=omega) only[go_sem,W];refine hK _ ?_;clear hK K))|((with_reducible refine Q0d ?_ ?_);rfl;intro K hK;simp(disch:=omega) only[go_sem,W];((repeat(refine ndI (by first|assumption|omega|rfl) ?_));refine hK _ ?_;clear hK K))|(with_reducible first|(refine Q0c ?_;refine hR _ ?_;clear hR R)|((first|refine Q0e ?_|refine Q0g ?_);intro Ψ hΨ hΨ')|(refine Q0b ?_;intro R hR)|(refine hΨ _ ?_;clear hΨ hΨ' Ψ)|refine Q0h ?_)|((with_reducible refine hΨ' _ _ ?_ ?_);(focus(simp;done));clear hΨ hΨ' Ψ)|((with_reducible apply Q0f);rfl;rfl;all_goals(intro hc;first|(cases hc;done)|(try simp only at hc)))))))
   all_goals exact hΨ _ hlt (St.le_of (by simp[leT]) (by simp[leH,hget]))
 · have k1:(decide ((i:Int)<(l.length:Int)))=false:=decide_eq_false (by omega)
   rw[List.take_of_length_le hge,hs]
   (repeat(any_goals(first|((with_reducible refine Q0d ?_ ?_);rfl;intro K hK;simp only[go_sem,k1];((repeat(refine ndI (by first|assumption) ?_));refine hK _ ?_;clear hK K))|(with_reducible first|(refine Q0c ?_;refine hR _ ?_;clear hR R)|((first|refine Q0e ?_);intro Ψ hΨ hΨ')|(refine Q0b ?_;intro R hR)|(refine hΨ _ ?_;clear hΨ hΨ' Ψ)|refine Q0l ?_|refine Q0v ?_)|((with_reducible refine hΨ' _ _ ?_ ?_);(focus(simp;done));clear hΨ hΨ' Ψ)|((with_reducible apply Q0f);rfl;rfl;all_goals(intro hc;first|(cases hc;done)|(try simp only at hc))))))
   all_goals(refine⟨by simp,⟨_,?_,AV.le_refl _⟩,Q0i (by simp[leH,hget])⟩;simp only[Tryz.results7,resL,ldA,Q0z,go_sem])
end
section
open Go.RowKit
open Nat (reduceBEq)
attribute [-go_sem] IntKind.bits
set_option maxRecDepth 20000
set_option maxHeartbeats 2000000
def Q3q(a:Int)(b:Bl)(r:Rp):Bl:=if r.a=a then⟨a,b.o+1,(b.c+r.c)%WW⟩ else b
def blOf(a:Int)(l:List Rp):Bl:=l.foldl (Q3q a) ⟨a,0,0⟩
def Q6h(l:List Rp):List Bl:=(resD (l.map Rp.a) (l.map Rp.a).length).map fun a=>blOf a l
theorem blOf_snoc{a:Int}{l:List Rp}{i:Nat}{y:Rp}(h:l[i]? = some y):blOf a (l.take (i+1))=Q3q a (blOf a (l.take i)) y:=by
 unfold blOf
 rw[List.take_add_one,h,List.foldl_append]
 rfl
theorem blOf_ok(a:Int)(l:List Rp):(blOf a l).a=a∧(blOf a l).o≤l.length∧(blOf a l).c<WW:=by
 have key:∀(l:List Rp) (b:Bl) (n:Nat),b.a=a→b.o≤n→b.c<WW→(l.foldl (Q3q a) b).a=a∧(l.foldl (Q3q a) b).o≤n+l.length∧(l.foldl (Q3q a) b).c<WW:=by
  intro l
  induction l with
  |nil=>intro b n h1 h2 h3;exact⟨h1,h2,h3⟩
  |cons r l ih=>
   intro b n h1 h2 h3
   have h:(Q3q a b r).a=a∧(Q3q a b r).o≤n+1∧(Q3q a b r).c<WW:=by
    unfold Q3q
    split
    · exact⟨rfl,by show b.o+1≤n+1;omega,Nat.mod_lt _ (by decide)⟩
    · exact⟨h1,by omega,h3⟩
   have:=ih _ _ h.1 h.2.1 h.2.2
   rw[List.foldl_cons,List.length_cons,show n+(l.length+1)=n+1+l.length by omega]
   exact this
 have:=key l ⟨a,0,0⟩ 0 rfl (Nat.le_refl _) (show 0<WW by decide)
 rw[Nat.zero_add] at this
 exact this
abbrev stW(ex:Bool)(l:List Rp)(r:Nat)(out:List Int)(i:Int):St:=⟨[rsl ex l,.any,.any,.row r adT 1 out.length,.any,.any,.any,.any,.any,.any,.any,.any,rsl ex l,vi .i64 l.length,vi .i64 i,.any,.any,.any,.any,.any,.any,.any,.any,.any,.any,.any,.any,.any,.any,.any,.any,.any,.any,.any,.any,.any,.any,.any,.any,.any,.any,.any,.any,.any,.any,.any,.any,.any,.any,.any,.any,.any,.any,.any,.any,.any,.any,.any,.any,.any,.any,.any,.any],[(r,raK out)]⟩
theorem stW_rn(ex:Bool)(l:List Rp)(out:List Int)(i:Int):(stW ex l 22 out i).to (stW ex l 500 out i):=by
 refine(St.to.rn (fun r=>if r=22 then 500 else r) (fun r=>if r=500 then 22 else r) [22] (by simp[AV.inNL,AV.inN]) (by simp) (by simp[inH,AV.inNL,AV.inN,Q1a]) (by simp) (by simp)).trans (St.to.of_le (St.le_of (by simp[leT,AV.renL,AV.ren]) (by simp[leH,hget,renH,AV.renL,AV.ren,Q0q])))
abbrev stX(ex:Bool)(l:List Rp)(ks:List Int)(r:Nat)(out:List Bl)(j:Int):St:=⟨[rsl ex l,.any,.any,.any,.any,.any,.row r blT 6 out.length,.any,.any,.any,.any,.any,.any,.any,.any,.any,.any,.any,.any,.any,.any,.any,.any,.any,.any,asl false ks,vi .i64 ks.length,vi .i64 j,.any,.any,.any,.any,.any,.any,.any,.any,.any,.any,.any,.any,.any,.any,.any,.any,.any,.any,.any,.any,.any,.any,.any,.any,.any,.any,.any,.any,.any,.any,.any,.any,.any,.any,.any],[(r,rcBl out)]⟩
theorem stX_rn(ex:Bool)(l:List Rp)(ks:List Int)(out:List Bl)(j:Int):(stX ex l ks 60 out j).to (stX ex l ks 501 out j):=by
 refine(St.to.rn (fun r=>if r=60 then 501 else r) (fun r=>if r=501 then 60 else r) [60] (by simp[AV.inNL,AV.inN]) (by simp) (by simp[inH,AV.inNL,AV.inN,X2l]) (by simp) (by simp)).trans (St.to.of_le (St.le_of (by simp[leT,AV.renL,AV.ren]) (by simp[leH,hget,renH,AV.renL,AV.ren,X1t])))
abbrev stY(ex:Bool)(l:List Rp)(ks:List Int)(out:List Bl)(j:Int)(a:Int)(b:Bl)(i:Int):St:=⟨[rsl ex l,.any,.any,.any,.any,.any,.row 501 blT 6 out.length,.any,vi .u64 a,.ptr 9 0,.any,.any,.any,.any,.any,.any,.any,.any,.any,.any,.any,.any,.any,.any,.any,asl false ks,vi .i64 ks.length,vi .i64 j,.any,.any,.any,.any,.any,rsl ex l,vi .i64 l.length,vi .i64 i,.any,.any,.any,.any,.any,.any,.any,.any,.any,.any,.any,.any,.any,.any,.any,.any,.any,.any,.any,.any,.any,.any,.any,.any,.any,.any,.any],[(501,rcBl out),(9,[vi .u64 b.a,vi .i64 b.o,vi .u64 (l0 b.c),vi .u64 (l1 b.c),vi .u64 (l2 b.c),vi .u64 (l3 b.c)])]⟩
theorem X5w(ex:Bool)(l:List Rp)(hl:l.length≤900)(ok:∀r∈l,r.ok):Fn Tryz.prog 10 [rsl ex l] [] (.row 501 blT 6 (Q6h l).length) [(501,rcBl (Q6h l))]:=by
 obtain⟨res,hres⟩:∃r,Q6h l=r:=⟨_,rfl⟩
 rw[hres]
 (refine Q1c Tryz.func10 rfl (by rfl) ?_;simp only[Tryz.ntmps10,List.length_cons,List.length_nil,Nat.reduceAdd,Nat.reduceSub,List.replicate,List.cons_append,List.nil_append])
 (repeat(any_goals(first|((with_reducible refine Q0d ?_ ?_);rfl;intro K hK;simp only[go_sem];((repeat(refine ndI (by first|assumption) ?_));refine hK _ ?_;clear hK K))|(with_reducible first|(refine Q0c ?_;refine hR _ ?_;clear hR R)|((first|refine Q0e ?_|refine Q0g ?_);intro Ψ hΨ hΨ')|(refine Q0b ?_;intro R hR)|(refine hΨ _ ?_;clear hΨ hΨ' Ψ)))))
 refine Q4n l.length (fun i=>stW ex l 500 ((l.take i).map Rp.a) i) ?_ ?_
 · refine(St.to.nilrow 3 500 adT 1 rfl (by simp) (by simp[St.free,Q1j,AV.refs,AV.refsL]) (by omega)).trans (St.to.of_le (St.le_of (by simp[leT]) (by simp[leH,hget,hput])))
 intro i hi Ψ hΨ hΨ'
 have ln:((l.take i).map Rp.a).length≤900:=by rw[List.length_map,List.length_take];omega
 rcases Nat.lt_or_ge i l.length with hlt|hge
 · obtain⟨x,hx⟩:∃x,l[i]? = some x:=⟨_,List.getElem?_eq_getElem hlt⟩
   have k1:(decide ((i:Int)<(l.length:Int)))=true:=decide_eq_true (by omega)
   have k2:=X5t hx
   have k7:(i:Int)+1=((i+1:Nat):Int):=by omega
   have k3:(l.take (i+1)).map Rp.a=(l.take i).map Rp.a++[x.a]:=by rw[List.take_add_one,hx,List.map_append];rfl
   (try dsimp only at hΨ ⊢)
   rw[k3] at hΨ
   generalize (l.take i).map Rp.a=out at hΨ ln ⊢
   have e1:(raK out).length=out.length:=by rw[List.length_map,Q1e Q5d];simp
   have e3:∀r,AV.refsL r (raK out)=false:=fun r=>Q0m r _
   clear hres
   (have W:=ndI k1 (ndI k2 (ndI k7 (ndI e1 (ndI e3 @wrI))));(repeat(any_goals(first|((with_reducible refine Q0d ?_ ?_);rfl;intro K hK;simp(disch:=omega) only[go_sem,W,Nat.mul_one];((repeat(refine ndI (by first|assumption|omega|rfl) ?_));refine hK _ ?_;clear hK K))|(with_reducible first|(refine Q0c ?_;refine hR _ ?_;clear hR R)|((first|refine Q0e ?_|refine Q0g ?_);intro Ψ hΨ hΨ')|(refine Q0b ?_;intro R hR)|(refine hΨ _ ?_;clear hΨ hΨ' Ψ)|refine Q0h ?_)|((with_reducible refine hΨ' _ _ ?_ ?_);(focus(simp;done));clear hΨ hΨ' Ψ)|((with_reducible apply Q0f);rfl;rfl;all_goals(intro hc;first|(cases hc;done)|(try simp only at hc)))))))
   all_goals exact hΨ _ hlt (St.to.trans (St.to.of_le (τ:=stW ex l 22 (out++[x.a]) ((i+1:Nat):Int)) (St.le_of (by simp[leT]) (by simp[leH,hget,raK,apv]))) (stW_rn ex l _ _))
 · have k1:(decide ((i:Int)<(l.length:Int)))=false:=decide_eq_false (by omega)
   rw[List.take_of_length_le hge]
   have sr:=X5s false (l.map Rp.a) (by rw[List.length_map];omega)
   have hkl:=X0f (l.map Rp.a) (l.map Rp.a).length
   unfold Q6h at hres
   obtain⟨ks,hks⟩:∃k,resD (l.map Rp.a) (l.map Rp.a).length=k:=⟨_,rfl⟩
   rw[hks] at sr hkl hres
   rw[List.length_map] at hkl
   have e5:((l.map Rp.a).flatMap apv).length=(l.map Rp.a).length:=by rw[Q1e Q5d];simp
   generalize l.map Rp.a=la at *
   (try dsimp only)
   (repeat(any_goals(first|((with_reducible refine Q0d ?_ ?_);rfl;intro K hK;simp(disch:=omega) only[go_sem,k1];((repeat(refine ndI (by first|assumption|rfl) ?_));refine hK _ ?_;clear hK K))|(with_reducible first|(refine Q0c ?_;refine hR _ ?_;clear hR R)|((first|refine Q0e ?_);intro Ψ hΨ hΨ')|(refine Q0b ?_;intro R hR)|(refine hΨ _ ?_;clear hΨ hΨ' Ψ)|refine Q0v ?_)|((with_reducible refine hΨ' _ _ ?_ ?_);(focus(simp;done));clear hΨ hΨ' Ψ)|((with_reducible apply Q0f);rfl;rfl;all_goals(intro hc;first|(cases hc;done)|(try simp only at hc))))))
   refine evL_to rfl (St.to.frz 500 (pcs:=la.flatMap apv) (by simp[hget])) ?_
   simp only[St.frz,frzH,AV.frz,AV.frzL,List.map_cons,List.map_nil,e5,Nat.mul_one,↓reduceIte]
   (repeat(any_goals(first|((with_reducible refine Q0p ?_ ?_ ?_);rfl;rfl;intro K hK;((apply Q0k (sr);rfl;rfl;rfl;rfl;exact Tryz.func23);kernel_rfl;rfl;(focus((simp(disch:=omega) only[go_sem,k1]);(try rfl);done));(first|rfl));(simp(disch:=omega) only[go_sem,k1];refine hK _ ?_;clear hK K))|((with_reducible refine Q0d ?_ ?_);rfl;intro K hK;simp(disch:=omega) only[go_sem,k1];((repeat(refine ndI (by first|assumption|rfl) ?_));refine hK _ ?_;clear hK K))|(with_reducible first|(refine Q0c ?_;refine hR _ ?_;clear hR R)|((first|refine Q0g ?_);intro Ψ hΨ hΨ')|(refine hΨ _ ?_;clear hΨ hΨ' Ψ)))))
   clear sr e5 hks
   have hk9:ks.length≤900:=by omega
   refine Q4n ks.length (fun j=>stX ex l ks 501 ((ks.take j).map fun a=>blOf a l) j) ?_ ?_
   · refine(St.to.nilrow 6 501 blT 6 rfl (by simp) (by simp[St.free,Q1j,AV.refs,AV.refsL,Q0m]) (by omega)).trans (St.to.of_le (St.le_of (by simp[leT]) (by simp[leH,hget,hput,rcBl])))
   intro j hj Ψ hΨ hΨ'
   have ln:((ks.take j).map fun a=>blOf a l).length≤900:=by rw[List.length_map,List.length_take];omega
   rcases Nat.lt_or_ge j ks.length with hjt|hje
   · obtain⟨a,ha⟩:∃x,ks[j]? = some x:=⟨_,List.getElem?_eq_getElem hjt⟩
     have c1:(decide ((j:Int)<(ks.length:Int)))=true:=decide_eq_true (by omega)
     have c2:=X5o ha
     have c7:(j:Int)+1=((j+1:Nat):Int):=by omega
     have c3:((ks.take (j+1)).map fun a=>blOf a l)=((ks.take j).map fun a=>blOf a l)++[blOf a l]:=by rw[List.take_add_one,ha,List.map_append];rfl
     (try dsimp only at hΨ ⊢)
     rw[c3] at hΨ
     generalize ((ks.take j).map fun a=>blOf a l)=out at hΨ ln ⊢
     have e1:=X4p out
     have e3:∀r,AV.refsL r (rcBl out)=false:=fun r=>Q0m r _
     have e2:rcBl (out++[blOf a l])=rcBl out++(blOf a l).pv.map .c:=by unfold rcBl;rw[List.flatMap_append];simp[List.flatMap_cons]
     clear hres c3 k1
     have hΨ1:∀(z:Bl) σ',z=blOf a l→σ'.le ⟨[rsl ex l,.any,.any,.any,.any,.any,.row 60 blT 6 (out.length+1),.any,.any,.any,.any,.any,.any,.any,.any,.any,.any,.any,.any,.any,.any,.any,.any,.any,.any,asl false ks,vi .i64 ks.length,vi .i64 ((j+1:Nat):Int),.any,.any,.any,.any,.any,.any,.any,.any,.any,.any,.any,.any,.any,.any,.any,.any,.any,.any,.any,.any,.any,.any,.any,.any,.any,.any,.any,.any,.any,.any,.any,.any,.any,.any,.any],[(60,rcBl out++[vi .u64 z.a,vi .i64 z.o,vi .u64 (l0 z.c),vi .u64 (l1 z.c),vi .u64 (l2 z.c),vi .u64 (l3 z.c)])]⟩→Ψ .normal σ':=fun z σ' hz h=>hΨ _ hjt (St.to.trans (St.to.of_le h) (St.to.trans (St.to.of_le (τ:=stX ex l ks 60 (out++[blOf a l]) ((j+1:Nat):Int)) (by subst hz;exact St.le_of (by simp[leT]) (by simp[leH,hget,e2,Bl.pv]))) (stX_rn ex l ks _ _)))
     clear hΨ e2
     (have W:=ndI c1 (ndI c2 (ndI c7 (ndI e3 @wrI)));(repeat(any_goals(first|((with_reducible refine Q0d ?_ ?_);rfl;intro K hK;simp(disch:=omega) only[go_sem,W,Nat.mul_one];((repeat(refine ndI (by first|assumption|omega|rfl) ?_));refine hK _ ?_;clear hK K))|(with_reducible first|(refine Q0c ?_;refine hR _ ?_;clear hR R)|((first|refine Q0e ?_|refine Q0g ?_);intro Ψ hΨ hΨ')|(refine Q0b ?_;intro R hR)|(refine hΨ _ ?_;clear hΨ hΨ' Ψ)|refine Q0h ?_)|((with_reducible apply Q0f);rfl;rfl;all_goals(intro hc;first|(cases hc;done)|(try simp only at hc)))))))
     refine Q3f l.length (fun i=>stY ex l ks out j a (blOf a (l.take i)) i) (St.le_of (by simp[leT]) (by simp[leH,hget,blOf,l0,l1,l2,l3])) ?_
     intro i hi Ψ hΨ hΨ'
     (try dsimp only at hΨ ⊢)
     have bo:=blOf_ok a (l.take i)
     rcases Nat.lt_or_ge i l.length with hlt|hge
     · obtain⟨y,hy⟩:∃y,l[i]? = some y:=⟨_,List.getElem?_eq_getElem hlt⟩
       have k1:(decide ((i:Int)<(l.length:Int)))=true:=decide_eq_true (by omega)
       have k2:=X5t hy
       have k7:(i:Int)+1=((i+1:Nat):Int):=by omega
       have yo:=ok y (List.mem_of_getElem? hy)
       rw[blOf_snoc hy] at hΨ
       have hli:(l.take i).length≤900:=by rw[List.length_take];omega
       generalize blOf a (l.take i)=z at *
       have hz1:=bo.1
       have hz2:=bo.2.1
       have ad:=X1w z.c y.c bo.2.2 yo.2.2.1
       have k8:(z.o:Int)+1=((z.o+1:Nat):Int):=by omega
       by_cases ha2:y.a=a
       · have k9:(y.a==a)=true:=by simp[ha2]
         have hst:Q3q a z y=⟨a,z.o+1,(z.c+y.c)%WW⟩:=by unfold Q3q;rw[if_pos ha2]
         rw[hst] at hΨ
         obtain⟨c9,hc9⟩:∃c,(z.c+y.c)%WW=c:=⟨_,rfl⟩
         rw[hc9] at ad hΨ
         clear hst hc9 bo yo ha2
         have hΨ2:=hΨ
         (have W:=ndI k1 (ndI k2 (ndI k7 (ndI k8 (ndI k9 (ndI e3 @wrI)))));(repeat(any_goals(first|((with_reducible refine Q0p ?_ ?_ ?_);rfl;rfl;intro K hK;((apply Q0k (ad);rfl;rfl;rfl;rfl;exact Tryz.func24);kernel_rfl;rfl;(focus((simp(disch:=omega) only[go_sem,W]);(try rfl);done));(first|rfl));(simp(disch:=omega) only[go_sem,W];refine hK _ ?_;clear hK K))|((with_reducible refine Q0d ?_ ?_);rfl;intro K hK;simp(disch:=omega) only[go_sem,W];((repeat(refine ndI (by first|assumption|omega|rfl) ?_));refine hK _ ?_;clear hK K))|(with_reducible first|(refine Q0c ?_;refine hR _ ?_;clear hR R)|((first|refine Q0e ?_|refine Q0g ?_);intro Ψ hΨ hΨ')|(refine Q0b ?_;intro R hR)|(refine hΨ _ ?_;clear hΨ hΨ' Ψ)|refine Q0h ?_)|((with_reducible refine hΨ' _ _ ?_ ?_);(focus(simp;done));clear hΨ hΨ' Ψ)|((with_reducible apply Q0f);rfl;rfl;all_goals(intro hc;first|(cases hc;done)|(try simp only at hc)))))))
         all_goals exact hΨ2 _ hlt (St.le_of (by simp[leT]) (by simp[leH,hget,hz1]))
       · have k9:(y.a==a)=false:=by simp[ha2]
         have hst:Q3q a z y=z:=by unfold Q3q;rw[if_neg ha2]
         rw[hst] at hΨ
         clear hst bo yo
         have hΨ2:=hΨ
         (have W:=ndI k1 (ndI k2 (ndI k7 (ndI k9 (ndI e3 @wrI))));(repeat(any_goals(first|((with_reducible refine Q0d ?_ ?_);rfl;intro K hK;simp(disch:=omega) only[go_sem,W];((repeat(refine ndI (by first|assumption|omega|rfl) ?_));refine hK _ ?_;clear hK K))|(with_reducible first|(refine Q0c ?_;refine hR _ ?_;clear hR R)|((first|refine Q0e ?_|refine Q0g ?_);intro Ψ hΨ hΨ')|(refine Q0b ?_;intro R hR)|(refine hΨ _ ?_;clear hΨ hΨ' Ψ)|refine Q0h ?_)|((with_reducible refine hΨ' _ _ ?_ ?_);(focus(simp;done));clear hΨ hΨ' Ψ)|((with_reducible apply Q0f);rfl;rfl;all_goals(intro hc;first|(cases hc;done)|(try simp only at hc)))))))
         all_goals exact hΨ2 _ hlt (St.le_of (by simp[leT]) (by simp[leH,hget]))
     · have k1:(decide ((i:Int)<(l.length:Int)))=false:=decide_eq_false (by omega)
       rw[List.take_of_length_le hge] at bo ⊢
       (try dsimp only)
       have hΨ2:=fun σ' h=>hΨ1 _ σ' rfl h
       generalize blOf a l=z at *
       (have W:=ndI k1 (ndI c7 (ndI e1 (ndI e3 @wrI)));(repeat(any_goals(first|((with_reducible refine Q0d ?_ ?_);rfl;intro K hK;simp(disch:=omega) only[go_sem,W];((repeat(refine ndI (by first|assumption|omega|rfl) ?_));refine hK _ ?_;clear hK K))|(with_reducible first|(refine Q0c ?_;refine hR _ ?_;clear hR R)|((first|refine Q0e ?_);intro Ψ hΨ hΨ')|(refine Q0b ?_;intro R hR)|(refine hΨ _ ?_;clear hΨ hΨ' Ψ)|refine Q0v ?_)|((with_reducible refine hΨ' _ _ ?_ ?_);(focus(simp;done));clear hΨ hΨ' Ψ)|((with_reducible apply Q0f);rfl;rfl;all_goals(intro hc;first|(cases hc;done)|(try simp only at hc)))))))
       all_goals exact hΨ2 _ (St.le_of (by simp[leT]) (by simp[leH,hget]))
   · have c1:(decide ((j:Int)<(ks.length:Int)))=false:=decide_eq_false (by omega)
     rw[List.take_of_length_le hje,hres]
     (try dsimp only)
     clear hres
     (repeat(any_goals(first|((with_reducible refine Q0d ?_ ?_);rfl;intro K hK;simp(disch:=omega) only[go_sem,c1];((repeat(refine ndI (by first|assumption|rfl) ?_));refine hK _ ?_;clear hK K))|(with_reducible first|(refine Q0c ?_;refine hR _ ?_;clear hR R)|((first|refine Q0e ?_);intro Ψ hΨ hΨ')|(refine Q0b ?_;intro R hR)|(refine hΨ _ ?_;clear hΨ hΨ' Ψ)|refine Q0l ?_|refine Q0v ?_)|((with_reducible refine hΨ' _ _ ?_ ?_);(focus(simp;done));clear hΨ hΨ' Ψ)|((with_reducible apply Q0f);rfl;rfl;all_goals(intro hc;first|(cases hc;done)|(try simp only at hc))))))
     all_goals exact⟨by simp,⟨_,rfl,AV.le_refl _⟩,Q0i (by simp[leH,hget])⟩
theorem rbills_fn(ex:Bool)(l:List Rp)(hl:l.length≤900)(ok:∀r∈l,r.ok):Fn Tryz.prog 10 [rsl ex l] [] (bsl false (Q6h l)) []:=by
 have k:=(X5w ex l hl ok).frzN (d:=501) (pcs:=(Q6h l).flatMap Bl.pv) rfl
 have e1:((Q6h l).flatMap Bl.pv).length=(Q6h l).length*6:=Q1e X5k _
 simpa [-List.length_flatMap,bsl,e1,AV.frz,AV.frzL,frzH,vi] using k
end
section
open Go.RowKit
set_option maxRecDepth 20000
set_option maxHeartbeats 4000000
theorem take_min{α : Type}(l:List α)(k:Nat):l.take (min l.length k)=l.take k:=by
 rw[List.take_eq_take_iff,Nat.min_comm l.length k,Nat.min_assoc,Nat.min_self]
end
section
open Go.RowKit
open Nat (reduceBEq)
set_option maxRecDepth 20000
set_option maxHeartbeats 4000000
def rcR(l:List Rp):List AV:=(l.flatMap Rp.pv).map .c
theorem rcR_len(l:List Rp):(rcR l).length=l.length*12:=by unfold rcR;rw[List.length_map,Q1e X1q]
theorem cloneR_fn(ex:Bool)(l:List Rp)(hl:l.length≤1000000):Fn Tryz.prog 16 [rsl ex l] [] (.row 7 59 12 l.length) [(7,rcR l)]:=by
 have e1:=rcR_len l
 unfold rcR at e1 ⊢
 (refine Q1c Tryz.func16 rfl (by rfl) ?_;simp only[Tryz.ntmps16,List.length_cons,List.length_nil,Nat.reduceAdd,Nat.reduceSub,List.replicate,List.cons_append,List.nil_append])
 (repeat(any_goals(first|((have hz0:=hb0 hc);(with_reducible refine Q3p ?_ ?_);rfl;intro K hK;refine OpA.nilrow_after 2 7 59 12 (Q3z ?_);(simp(disch:=omega) only[go_sem,e1,Q0m]);(repeat(refine And.intro (by first|assumption|rfl) ?_));refine hK _ ?_;clear hK K;clear hb0)|((with_reducible refine Q0d ?_ ?_);rfl;intro K hK;simp(disch:=omega) only[go_sem,e1,Q0m];((repeat(refine ndI (by first|assumption|omega|rfl) ?_));refine hK _ ?_;clear hK K))|((with_reducible refine Q0d ?_ ?_);rfl;intro K hK;refine Q8x rfl rfl (by first|exact .inl rfl) ?_ rfl ?_;(focus(simp(disch:=omega) only[go_sem];try rfl));(intro b hb0;simp(disch:=omega) only[eq_self,go_sem,e1,Q0m];(with_reducible refine hK _ ?_);clear hK K))|(with_reducible first|(refine Q0c ?_;refine hR _ ?_;clear hR R)|((first|refine Q0e ?_);intro Ψ hΨ hΨ')|(refine Q0b ?_;intro R hR)|(refine hΨ _ ?_;clear hΨ hΨ' Ψ)|refine Q0h ?_|refine Q0l ?_)|((with_reducible refine hΨ' _ _ ?_ ?_);(focus(simp;done));clear hΨ hΨ' Ψ)|((with_reducible apply Q0f);rfl;rfl;all_goals(intro hc;first|(try simp only at hc))))))
 all_goals(try(obtain rfl:=List.eq_nil_of_length_eq_zero hz0))
 all_goals exact⟨by simp,⟨_,rfl,AV.le_refl _⟩,Q0i (by simp[leH,hget])⟩
theorem few_row(ex:Bool)(l:List Rp)(hl:l.length≤maxLen):Fn Tryz.prog 5 [rsl ex l] [] (.row 8 59 12 (l.take 50).length) [(8,rcR (l.take 50))]:=by
 have hl2:l.length<9223372036854775808:=Nat.lt_succ_of_le hl
 have c1:=cloneR_fn false (l.take 50) (by rw[List.length_take];omega)
 have e1:(if (50:Int)<(l.length:Int) then(50:Int) else(l.length:Int))=((min l.length 50:Nat):Int):=by split<;>omega
 have e2:(l.flatMap Rp.pv).take (min l.length 50*12)=(l.take 50).flatMap Rp.pv:=by rw[X2q X1q,take_min]
 have e3:(l.take 50).length=min l.length 50:=by rw[List.length_take,Nat.min_comm]
 unfold rcR at c1 ⊢
 unfold rsl at c1
 rw[e3] at c1 ⊢
 (refine Q1c Tryz.func5 rfl (by rfl) ?_;simp only[Tryz.ntmps5,List.length_cons,List.length_nil,Nat.reduceAdd,Nat.reduceSub,List.replicate,List.cons_append,List.nil_append])
 (have W:=ndI e1 (ndI e2 @Q0m);(repeat(any_goals(first|((with_reducible refine Q0p ?_ ?_ ?_);rfl;rfl;intro K hK;(apply Q1b (c1) (fun r=>8);rfl;rfl;rfl;rfl;exact Tryz.func16;kernel_rfl;rfl;rfl;(intro r hr q hq h;simp(disch:=omega) only[List.map_cons,List.map_nil,List.cons_append,List.nil_append,List.mem_cons,List.not_mem_nil,or_false] at hr hq;(try dsimp only at h);first|omega);(simp(disch:=omega) only[Q1f,Q1y,AV.ren,AV.renL,Q0q,List.mem_cons,List.not_mem_nil,forall_eq_or_imp,forall_eq,Q1t,List.contains_cons,List.contains_nil,AV.refsL,AV.refs,Q0m,AV.inN,AV.inNL,inH,Q1a,go_sem,W,Bool.false_and,Q0q,Q1a]));(simp(disch:=omega) only[Q0x,Q2c,renH,AV.ren,AV.renL,Q0q,go_sem,W,Bool.false_and,Q0q,Q1a];refine hK _ ?_;clear hK K))|((with_reducible refine Q0d ?_ ?_);rfl;intro K hK;simp(disch:=omega) only[go_sem,W,Bool.false_and,Q0q,Q1a];((repeat(refine ndI (by first|assumption|omega|rfl) ?_));refine hK _ ?_;clear hK K))|(with_reducible first|(refine Q0c ?_;refine hR _ ?_;clear hR R)|((first|refine Q0e ?_);intro Ψ hΨ hΨ')|(refine Q0b ?_;intro R hR)|(refine hΨ _ ?_;clear hΨ hΨ' Ψ)|refine Q0l ?_)))))
 all_goals(refine⟨by simp,⟨_,?_,AV.le_refl _⟩,Q0i (by simp[leH,hget])⟩;simp only[Tryz.results5,resL,ldA,Q0z,go_sem])
theorem few_fn(ex:Bool)(l:List Rp)(hl:l.length≤maxLen):Fn Tryz.prog 5 [rsl ex l] [] (rsl false (l.take 50)) []:=by
 have k:=(few_row ex l hl).frzN (d:=8) (pcs:=(l.take 50).flatMap Rp.pv) rfl
 have e1:((l.take 50).flatMap Rp.pv).length=(l.take 50).length*12:=Q1e X1q _
 simpa [-List.length_flatMap,-List.length_take,rsl,e1,AV.frz,AV.frzL,frzH,vi] using k
end
end Go.Proofs.YtbmcdemnnbndeaaGreat
