/-
  Proved: the tied card of the law RulesMay: it answers true for every two cases, and its arguments read behind the call as before. Conditions: the package variables that the row lists hold what the program lays into them (tied to its text).
-/
import Derived.Test.YtgdjkkapgghdbaaGreatDoorGs
import Derived.Test.YtgdjkkapgghdbaaGreatDoorRows
import Derived.Test.YtgdjkkapgghdbaaGreatDoorAvF
import Derived.ProofKit
import Derived.OpenShut
import Derived.ChangeOld
import Derived.Deep.Slices
import Derived.Test.YtgdjkkapgghdbaaGreatDoorAvO
import Derived.Test.YtgdjkkapgghdbaaGreatDoorYd
import Derived.Test.YtgdjkkapgghdbaaGreatDoorRln
import Derived.Test.YtgdjkkapgghdbaaGreatDoorTrf
import Derived.MakeChecks
import Derived.Test.YtgdjkkapgghdbaaGreatDoorTie
import Derived.Test.YtgdjkkapgghdbaaGreatDoorCards
import Derived.LaidMore
import Derived.Lay
import Derived.SevenTiedAt
import Derived.Stop.Joined
set_option linter.unusedSimpArgs false
set_option linter.unusedVariables false
namespace Go.Proofs.YtgdjkkapgghdbaaGreatDoor
open Go.RowKit
open Nat (reduceBEq)
attribute [-go_sem] IntKind.bits
set_option maxRecDepth 20000
set_option maxHeartbeats 4000000
def rphs(s:Int):List Ph→Int→Bool→Bool
 |[],_,sd=>sd
 |p::l,last,sd=>!(decide (p.role≤last)||(decide (p.role>3)||((p.who==0) || !trB p.tr)))&&rphs s l p.role (if (p.role==2)=true then(p.who==s) else sd)
theorem Q9r(s:Int):∀(l:List Ph) (last:Int) (sd:Bool),2≤last→rphs s l last sd=(phsB s l last&&sd)
 |[],_,_,_=>by simp[rphs,phsB]
 |p::l,last,sd,h=>by
  unfold rphs phsB phB
  by_cases hr:p.role≤last
  · rw[decide_eq_true hr];simp
  · have e2:(p.role==2)=false:=by rw[beq_eq_false_iff_ne];omega
    rw[e2,if_neg (by simp),Q9r s l p.role sd (by omega)]
    simp[Bool.and_assoc]
theorem X1l(s:Int):∀(l:List Ph) (last:Int),last<2→rphs s l last false=(phsB s l last&&l.any fun p=>p.role==2)
 |[],_,_=>by simp[rphs,phsB]
 |p::l,last,h=>by
  unfold rphs phsB phB
  by_cases e:p.role=2
  · have e2:(p.role==2)=true:=by rw[e];rfl
    rw[e2,if_pos rfl,Q9r s l p.role _ (by omega),List.any_cons,e2]
    have:(p.who != s) = !(p.who==s):=rfl
    rw[this]
    cases (p.who==s)<;>simp
  · have e2:(p.role==2)=false:=by rw[beq_eq_false_iff_ne];exact e
    rw[e2,if_neg (by simp),List.any_cons,e2]
    by_cases hl:p.role<2
    · rw[X1l s l p.role hl];simp[Bool.and_assoc]
    · rw[Q9r s l p.role _ (by omega)]
      have hn:∀(l:List Ph) (last:Int),2<last→(phsB s l last&&l.any fun p=>p.role==2)=false:=by
       intro l
       induction l with
       |nil=>intro last _;simp
       |cons q l ih=>
        intro last hla
        unfold phsB phB
        by_cases hq:q.role≤last
        · rw[decide_eq_true hq];simp
        · have e3:(q.role==2)=false:=by rw[beq_eq_false_iff_ne];omega
          rw[List.any_cons,e3,Bool.false_or,Bool.and_assoc,ih q.role (by omega),Bool.and_false]
      rw[Bool.and_false,Bool.and_false,Bool.false_or,Bool.and_assoc,hn l p.role (by omega),Bool.and_false]
theorem X7a(c:Cs)(hc:c.ok):Fn Tryz.prog 10 [csA c] [] (vb (Q5i c)) []:=by
 obtain⟨s,ph,cd⟩:=c
 obtain⟨hs,⟨hpl,hpo⟩,hcl,hco⟩:=hc
 dsimp only at hs hpl hpo hcl hco
 have so:=X1j false cd (by omega)
 have hrl:=Q8z cd cd.length
 have he:=X2k false false cd (resD cd cd.length) (by omega) (by omega)
 have hra:=X2o cd cd.length (Nat.le_refl _)
 rw[X4y hra.1 fun x=>by rw[hra.2,List.take_length]] at he
 have e:Q5i ⟨s,ph,cd⟩=(rphs s ph 0 false&&Q9s cd):=by
  rw[X1l s ph 0 (by decide),Bool.and_assoc];rfl
 rw[e]
 generalize resD cd cd.length=r at so he
 generalize Q9s cd=b3 at he ⊢
 clear e hra hrl
 obtain⟨q,hq⟩:∃q,rphs s ph 0 false=q:=⟨_,rfl⟩
 rw[hq]
 (refine Q0v Tryz.func10 rfl (by rfl) ?_;simp only[Tryz.ntmps10,List.length_cons,List.length_nil,Nat.reduceAdd,Nat.reduceSub,List.replicate,List.cons_append,List.nil_append])
 (repeat(any_goals(first|((with_reducible refine Q0b ?_ ?_);rfl;intro K hK;simp only[go_sem];((repeat(refine ndI (by first|assumption) ?_));refine hK _ ?_;clear hK K))|(with_reducible first|(refine Q0c ?_;refine hR _ ?_;clear hR R)|((first|refine Q0d ?_|refine Q0f ?_);intro J hJ hJ')|(refine Q0a ?_;intro R hR)|(refine hJ _ ?_;clear hJ hJ' J)))))
 refine Q1m (α:={p:Nat×Int×Bool // p.1≤ph.length∧rphs s (ph.drop p.1) p.2.1 p.2.2=q}) (fun p=>⟨[.any,.ptr 1 0,vb false,vi .i64 p.1.2.1,vb p.1.2.2,.any,.any,.any,phs false ph,vi .i64 ph.length,vi .i64 (p.1.1:Int),.any,.any,.any,.any,.any,.any,.any,.any,.any,.any,.any,.any,.any,.any,.any,.any,.any,.any,.any,.any,.any,.any,.any,.any,.any,.any,.any,.any,.any,.any,.any,.any,.any,.any,.any,.any,.any,.any,.any,.any,.any,.any,.any],[(1,[vi .u64 s,phs false ph,asl false cd])]⟩) (fun p=>ph.length-p.1.1) ⟨(0,0,false),Nat.zero_le _,hq⟩ (St.le_of (by simp[leT]) (by simp[leH,hget])) ?_
 rintro ⟨⟨i,last,sd⟩,hi,hd⟩ J hJ hJ'
 (try dsimp only at hi hd hJ ⊢)
 rcases Nat.lt_or_ge i ph.length with hlt|hge
 · obtain⟨y,hy⟩:∃y,ph[i]? = some y:=⟨_,List.getElem?_eq_getElem hlt⟩
   have k1:(decide ((i:Int)<(ph.length:Int)))=true:=by simp;omega
   have k2:=Q7e hy
   have k7:(i:Int)+1=((i+1:Nat):Int):=by omega
   have oy:=hpo y (List.mem_of_getElem? hy)
   have ck:=rRight_fn y.tr (by have:=oy.2.1;omega) oy.2.2
   have hdr:ph.drop i=y::ph.drop (i+1):=by
    rw[List.drop_eq_getElem_cons hlt]
    rw[List.getElem?_eq_getElem hlt] at hy
    rw[Option.some.inj hy]
   rw[hdr] at hd
   unfold rphs at hd
   have hJ1:=fun σ' v (h:rphs s (ph.drop (i+1)) y.role v=q)=>hJ σ' ⟨(i+1,y.role,v),hlt,h⟩ (by dsimp only;omega)
   dsimp only at hJ1
   generalize rphs s (ph.drop (i+1)) y.role=g at hd hJ1
   generalize trB y.tr=tb at ck hd
   obtain⟨c1,h1⟩:∃b,decide (y.role≤last)=b:=⟨_,rfl⟩
   obtain⟨c2,h2⟩:∃b,decide (y.role>3)=b:=⟨_,rfl⟩
   obtain⟨c3,h3⟩:∃b,(y.who==0)=b:=⟨_,rfl⟩
   obtain⟨c4,h4⟩:∃b,(y.role==2)=b:=⟨_,rfl⟩
   obtain⟨c5,h5⟩:∃b,(y.who==s)=b:=⟨_,rfl⟩
   rw[h1,h2,h3,h4,h5] at hd
   clear so he hq
   cases c1 with
   |true=>
    have hd:q=false:=hd.symm
    clear hJ1
    (have W:=ndI k1 (ndI k2 (ndI k7 (ndI h1 @wrI)));(repeat(any_goals(first|((with_reducible refine Q0b ?_ ?_);rfl;intro K hK;simp(disch:=omega) only[go_sem,W];((repeat(refine ndI (by first|assumption|omega|rfl) ?_));refine hK _ ?_;clear hK K))|(with_reducible first|(refine Q0c ?_;refine hR _ ?_;clear hR R)|((first|refine Q0d ?_|refine Q0f ?_);intro J hJ hJ')|(refine Q0a ?_;intro R hR)|(refine hJ _ ?_;clear hJ hJ' J)|refine Q0g ?_|refine Q0j ?_)|((with_reducible refine hJ' _ _ ?_ ?_);(focus(simp;done));clear hJ hJ' J)|((with_reducible apply Q0s);rfl;rfl;rfl;all_goals(intro hb;first|(cases hb;done)|((try simp only[Bool.not_true,Bool.not_false] at hb);(first|((fail_if_success (with_reducible intro _));simp(disch:=omega) only[go_sem,W])))))|((with_reducible apply Q0e);rfl;rfl;all_goals(intro hc;first|(cases hc;done)|(try simp only at hc)))))))
    all_goals rw[hd,Bool.false_and]
    all_goals(refine⟨by simp,⟨_,?_,AV.le_refl _⟩,Q0h (by simp[leH,hget])⟩;simp only[Tryz.results10,resL,ldA,Q0o,go_sem])
   |false=>
   cases c2 with
   |true=>
    have hd:q=false:=hd.symm
    clear hJ1
    (have W:=ndI k1 (ndI k2 (ndI k7 (ndI h1 (ndI h2 @wrI))));(repeat(any_goals(first|((with_reducible refine Q0b ?_ ?_);rfl;intro K hK;simp(disch:=omega) only[go_sem,W];((repeat(refine ndI (by first|assumption|omega|rfl) ?_));refine hK _ ?_;clear hK K))|(with_reducible first|(refine Q0c ?_;refine hR _ ?_;clear hR R)|((first|refine Q0d ?_|refine Q0f ?_);intro J hJ hJ')|(refine Q0a ?_;intro R hR)|(refine hJ _ ?_;clear hJ hJ' J)|refine Q0g ?_|refine Q0j ?_)|((with_reducible refine hJ' _ _ ?_ ?_);(focus(simp;done));clear hJ hJ' J)|((with_reducible apply Q0s);rfl;rfl;rfl;all_goals(intro hb;first|(cases hb;done)|((try simp only[Bool.not_true,Bool.not_false] at hb);(first|((with_reducible intro K hK);(first|skip);simp(disch:=omega) only[go_sem,W];((repeat(refine ndI (by first|assumption|rfl) ?_));refine hK _ ?_;clear hK K))|((fail_if_success (with_reducible intro _));simp(disch:=omega) only[go_sem,W])))))|((with_reducible apply Q0e);rfl;rfl;all_goals(intro hc;first|(cases hc;done)|(try simp only at hc)))))))
    all_goals rw[hd,Bool.false_and]
    all_goals(refine⟨by simp,⟨_,?_,AV.le_refl _⟩,Q0h (by simp[leH,hget])⟩;simp only[Tryz.results10,resL,ldA,Q0o,go_sem])
   |false=>
   cases c3 with
   |true=>
    have hd:q=false:=hd.symm
    clear hJ1
    (have W:=ndI k1 (ndI k2 (ndI k7 (ndI h1 (ndI h2 (ndI h3 @wrI)))));(repeat(any_goals(first|((with_reducible refine Q0b ?_ ?_);rfl;intro K hK;simp(disch:=omega) only[go_sem,W];((repeat(refine ndI (by first|assumption|omega|rfl) ?_));refine hK _ ?_;clear hK K))|(with_reducible first|(refine Q0c ?_;refine hR _ ?_;clear hR R)|((first|refine Q0d ?_|refine Q0f ?_);intro J hJ hJ')|(refine Q0a ?_;intro R hR)|(refine hJ _ ?_;clear hJ hJ' J)|refine Q0g ?_|refine Q0j ?_)|((with_reducible refine hJ' _ _ ?_ ?_);(focus(simp;done));clear hJ hJ' J)|((with_reducible apply Q0s);rfl;rfl;rfl;all_goals(intro hb;first|(cases hb;done)|((try simp only[Bool.not_true,Bool.not_false] at hb);(first|((with_reducible intro K hK);(first|skip);simp(disch:=omega) only[go_sem,W];((repeat(refine ndI (by first|assumption|rfl) ?_));refine hK _ ?_;clear hK K))|((fail_if_success (with_reducible intro _));simp(disch:=omega) only[go_sem,W])))))|((with_reducible apply Q0e);rfl;rfl;all_goals(intro hc;first|(cases hc;done)|(try simp only at hc)))))))
    all_goals rw[hd,Bool.false_and]
    all_goals(refine⟨by simp,⟨_,?_,AV.le_refl _⟩,Q0h (by simp[leH,hget])⟩;simp only[Tryz.results10,resL,ldA,Q0o,go_sem])
   |false=>
   cases tb with
   |false=>
    have hd:q=false:=hd.symm
    clear hJ1
    (have W:=ndI k1 (ndI k2 (ndI k7 (ndI h1 (ndI h2 (ndI h3 @wrI)))));(repeat(any_goals(first|((with_reducible refine Q0b ?_ ?_);rfl;intro K hK;simp(disch:=omega) only[go_sem,W];((repeat(refine ndI (by first|assumption|omega|rfl) ?_));refine hK _ ?_;clear hK K))|(with_reducible first|(refine Q0c ?_;refine hR _ ?_;clear hR R)|((first|refine Q0d ?_|refine Q0f ?_);intro J hJ hJ')|(refine Q0a ?_;intro R hR)|(refine hJ _ ?_;clear hJ hJ' J)|refine Q0g ?_|refine Q0j ?_)|((with_reducible refine hJ' _ _ ?_ ?_);(focus(simp;done));clear hJ hJ' J)|((with_reducible apply Q0s);rfl;rfl;rfl;all_goals(intro hb;first|(cases hb;done)|((try simp only[Bool.not_true,Bool.not_false] at hb);(first|((with_reducible intro K hK);(first|((apply Q0i (ck);rfl;rfl;rfl;rfl;exact Tryz.func39);kernel_rfl;rfl;(focus((simp(disch:=omega) only[go_sem,W]);(try rfl);done));(first|rfl))|skip);simp(disch:=omega) only[go_sem,W];((repeat(refine ndI (by first|assumption|rfl) ?_));refine hK _ ?_;clear hK K))))))|((with_reducible apply Q0e);rfl;rfl;all_goals(intro hc;first|(cases hc;done)|(try simp only at hc)))))))
    all_goals rw[hd,Bool.false_and]
    all_goals(refine⟨by simp,⟨_,?_,AV.le_refl _⟩,Q0h (by simp[leH,hget])⟩;simp only[Tryz.results10,resL,ldA,Q0o,go_sem])
   |true=>
   cases c4 with
   |false=>
    have hJ2:=fun σ'=>hJ1 σ' sd hd
    (have W:=ndI k1 (ndI k2 (ndI k7 (ndI h1 (ndI h2 (ndI h3 (ndI h4 @wrI))))));(repeat(any_goals(first|((with_reducible refine Q0b ?_ ?_);rfl;intro K hK;simp(disch:=omega) only[go_sem,W];((repeat(refine ndI (by first|assumption|omega|rfl) ?_));refine hK _ ?_;clear hK K))|(with_reducible first|(refine Q0c ?_;refine hR _ ?_;clear hR R)|((first|refine Q0d ?_|refine Q0f ?_);intro J hJ hJ')|(refine Q0a ?_;intro R hR)|(refine hJ _ ?_;clear hJ hJ' J)|refine Q0g ?_)|((with_reducible refine hJ' _ _ ?_ ?_);(focus(simp;done));clear hJ hJ' J)|((with_reducible apply Q0s);rfl;rfl;rfl;all_goals(intro hb;first|(cases hb;done)|((try simp only[Bool.not_true,Bool.not_false] at hb);(first|((with_reducible intro K hK);(first|((apply Q0i (ck);rfl;rfl;rfl;rfl;exact Tryz.func39);kernel_rfl;rfl;(focus((simp(disch:=omega) only[go_sem,W]);(try rfl);done));(first|rfl))|skip);simp(disch:=omega) only[go_sem,W];((repeat(refine ndI (by first|assumption|rfl) ?_));refine hK _ ?_;clear hK K))))))|((with_reducible apply Q0e);rfl;rfl;all_goals(intro hc;first|(cases hc;done)|(try simp only at hc)))))))
    all_goals exact hJ2 _ (St.le_of (by simp[leT]) (by simp[leH,hget]))
   |true=>
    have hJ2:=fun σ'=>hJ1 σ' c5 hd
    (have W:=ndI k1 (ndI k2 (ndI k7 (ndI h1 (ndI h2 (ndI h3 (ndI h4 (ndI h5 @wrI)))))));(repeat(any_goals(first|((with_reducible refine Q0b ?_ ?_);rfl;intro K hK;simp(disch:=omega) only[go_sem,W];((repeat(refine ndI (by first|assumption|omega|rfl) ?_));refine hK _ ?_;clear hK K))|(with_reducible first|(refine Q0c ?_;refine hR _ ?_;clear hR R)|((first|refine Q0d ?_|refine Q0f ?_);intro J hJ hJ')|(refine Q0a ?_;intro R hR)|(refine hJ _ ?_;clear hJ hJ' J)|refine Q0g ?_)|((with_reducible refine hJ' _ _ ?_ ?_);(focus(simp;done));clear hJ hJ' J)|((with_reducible apply Q0s);rfl;rfl;rfl;all_goals(intro hb;first|(cases hb;done)|((try simp only[Bool.not_true,Bool.not_false] at hb);(first|((with_reducible intro K hK);(first|((apply Q0i (ck);rfl;rfl;rfl;rfl;exact Tryz.func39);kernel_rfl;rfl;(focus((simp(disch:=omega) only[go_sem,W]);(try rfl);done));(first|rfl))|skip);simp(disch:=omega) only[go_sem,W];((repeat(refine ndI (by first|assumption|rfl) ?_));refine hK _ ?_;clear hK K))))))|((with_reducible apply Q0e);rfl;rfl;all_goals(intro hc;first|(cases hc;done)|(try simp only at hc)))))))
    all_goals exact hJ2 _ (St.le_of (by simp[leT]) (by simp[leH,hget]))
 · have k1:(decide ((i:Int)<(ph.length:Int)))=false:=by simp;omega
   rw[List.drop_eq_nil_of_le hge] at hd
   have hd:q=sd:=hd.symm
   clear hq
   cases sd with
   |true=>
    (repeat(any_goals(first|((with_reducible refine Q0b ?_ ?_);rfl;intro K hK;simp only[go_sem,k1];((repeat(refine ndI (by first|assumption) ?_));refine hK _ ?_;clear hK K))|(with_reducible first|(refine Q0c ?_;refine hR _ ?_;clear hR R)|((first|refine Q0d ?_);intro J hJ hJ')|(refine Q0a ?_;intro R hR)|(refine hJ _ ?_;clear hJ hJ' J)|refine Q0j ?_|refine Q0p ?_)|((with_reducible refine hJ' _ _ ?_ ?_);(focus(simp;done));clear hJ hJ' J)|((with_reducible apply Q0e);rfl;rfl;all_goals(intro hc;first|(cases hc;done)|(try simp only at hc)))|((with_reducible refine Q0y ?_ ?_);kernel_rfl;(with_reducible refine hR _ ?_);clear hR R)|((first|((first|((with_reducible apply Q3h);rfl;rfl;rfl;rfl;rfl));((first|(apply Q0t (so);rfl;rfl;rfl;rfl;exact Tryz.func40)|(apply Q0t (he);rfl;rfl;rfl;rfl;exact Tryz.func18));kernel_rfl;rfl;(focus((simp only[go_sem,k1]);(try rfl);done));(first|rfl)))|((first|((with_reducible apply Q0x);rfl;rfl)|((with_reducible apply Q3b);rfl;rfl;rfl;rfl;rfl));(simp only[rdE,rdOf,go_sem,k1];rfl);(intro τ hA hQ hN;((try simp only[Q1h,Op.operands,Call.operands,go_sem,k1,go_sem,List.mem_cons,List.not_mem_nil,forall_eq_or_imp,forall_eq,List.append_toArray,Option.toArray] at hA);(try simp only[go_sem,k1,List.mem_cons,List.not_mem_nil,forall_eq_or_imp,forall_eq] at hQ hN);(first|(revert hA;intro hA));(first|(revert hQ;intro hQ));(first|(revert hN;intro hN));simp only[go_sem,k1,go_sem,hA,hQ,hN];(repeat(refine ndI (by first|assumption) ?_));(first|apply Q1b)))));(simp only[St.eff,setO,Q0w,go_sem,k1]))|((with_reducible refine Q0u ?_ ?_ ?_ ?_);kernel_rfl;kernel_rfl;(first|kernel_rfl);intro R hR))))
    all_goals rw[hd,Bool.true_and]
    all_goals(refine⟨by simp,⟨_,?_,AV.le_refl _⟩,Q0h (by simp[leH,hget])⟩;simp only[Tryz.results10,resL,ldA,Q0o,go_sem])
   |false=>
    (repeat(any_goals(first|((with_reducible refine Q0b ?_ ?_);rfl;intro K hK;simp only[go_sem,k1];((repeat(refine ndI (by first|assumption) ?_));refine hK _ ?_;clear hK K))|(with_reducible first|(refine Q0c ?_;refine hR _ ?_;clear hR R)|((first|refine Q0d ?_);intro J hJ hJ')|(refine Q0a ?_;intro R hR)|(refine hJ _ ?_;clear hJ hJ' J)|refine Q0j ?_|refine Q0p ?_)|((with_reducible refine hJ' _ _ ?_ ?_);(focus(simp;done));clear hJ hJ' J)|((with_reducible apply Q0e);rfl;rfl;all_goals(intro hc;first|(cases hc;done)|(try simp only at hc)))|((with_reducible refine Q0y ?_ ?_);kernel_rfl;(with_reducible refine hR _ ?_);clear hR R)|((first|((with_reducible apply Q3v);rfl;rfl;rfl;rfl)|((first|((with_reducible apply Q0x);rfl;rfl));(simp only[rdE,rdOf,go_sem,k1];rfl);(intro τ hA hQ hN;((try simp only[Q1h,Op.operands,Call.operands,go_sem,k1,go_sem,List.mem_cons,List.not_mem_nil,forall_eq_or_imp,forall_eq,List.append_toArray,Option.toArray] at hA);(try simp only[go_sem,k1,List.mem_cons,List.not_mem_nil,forall_eq_or_imp,forall_eq] at hQ hN);(first|(revert hA;intro hA));(first|(revert hQ;intro hQ));(first|(revert hN;intro hN));simp only[go_sem,k1,go_sem,hA,hQ,hN];(repeat(refine ndI (by first|assumption) ?_));(first|apply Q1b)))));(simp only[St.eff,setO,Q0w,go_sem,k1]))|((with_reducible refine Q0u ?_ ?_ ?_ ?_);kernel_rfl;kernel_rfl;(first|kernel_rfl);intro R hR))))
    all_goals rw[hd,Bool.false_and]
    all_goals(refine⟨by simp,⟨_,?_,AV.le_refl _⟩,Q0h (by simp[leH,hget])⟩;simp only[Tryz.results10,resL,ldA,Q0o,go_sem])
theorem Z0s(c d:Cs)(hc:c.ok)(hd:d.ok):Fn Tryz.prog 21 [csA c,csA d] [] (vb (decide (c=d))) []:=by
 obtain⟨s,ph,cd⟩:=c
 obtain⟨s',ph',cd'⟩:=d
 obtain⟨hs,⟨hpl,hpo⟩,hcl,hco⟩:=hc
 obtain⟨hs',⟨hpl',hpo'⟩,hcl',hco'⟩:=hd
 dsimp only at hs hpl hpo hcl hco hs' hpl' hpo' hcl' hco'
 have he:=X2k false false cd cd' (by omega) (by omega)
 obtain⟨r,hr⟩:∃r,decide (Cs.mk s ph cd=⟨s',ph',cd'⟩)=r:=⟨_,rfl⟩
 rw[hr]
 have no:¬(Cs.mk s ph cd=⟨s',ph',cd'⟩)→r=false:=fun h=>by rw[←hr];exact decide_eq_false h
 have yes:s=s'→ph=ph'→cd=cd'→r=true:=fun h1 h2 h3=>by rw[←hr,h1,h2,h3];exact decide_eq_true rfl
 have noph:ph≠ph'→r=false:=fun h=>no fun e=>h (Cs.mk.inj e).2.1
 clear hr
 obtain⟨a1,h1⟩:∃b,(s != s')=b:=⟨_,rfl⟩
 obtain⟨a2,h2⟩:∃b,((ph.length:Int) != (ph'.length:Int))=b:=⟨_,rfl⟩
 cases a1 with
 |true=>
  have hf:r=false:=no fun e=>(bne_iff_ne.1 h1) (Cs.mk.inj e).1
  clear no yes noph
  (refine Q0v Tryz.func21 rfl (by rfl) ?_;simp only[Tryz.ntmps21,List.length_cons,List.length_nil,Nat.reduceAdd,Nat.reduceSub,List.replicate,List.cons_append,List.nil_append])
  (repeat(any_goals(first|((with_reducible refine Q0b ?_ ?_);rfl;intro K hK;simp only[go_sem,h1];((repeat(refine ndI (by first|assumption) ?_));refine hK _ ?_;clear hK K))|(with_reducible first|(refine Q0c ?_;refine hR _ ?_;clear hR R)|((first|refine Q0d ?_);intro J hJ hJ')|(refine Q0a ?_;intro R hR)|(refine hJ _ ?_;clear hJ hJ' J)|refine Q0j ?_)|((with_reducible refine hJ' _ _ ?_ ?_);(focus(simp;done));clear hJ hJ' J)|((with_reducible apply Q0s);rfl;rfl;rfl;all_goals(intro hb;first|(cases hb;done)|((try simp only[Bool.not_true,Bool.not_false] at hb);(first|((fail_if_success (with_reducible intro _));simp only[go_sem,h1])))))|((with_reducible apply Q0e);rfl;rfl;all_goals(intro hc;first|(cases hc;done)|(try simp only at hc))))))
  all_goals rw[hf]
  all_goals(refine⟨by simp,⟨_,?_,AV.le_refl _⟩,Q0h (by simp[leH,hget])⟩;simp only[Tryz.results21,resL,ldA,Q0o,go_sem])
 |false=>
 cases a2 with
 |true=>
  have hf:r=false:=noph fun e=>(bne_iff_ne.1 h2) (by rw[e])
  clear no yes noph
  (refine Q0v Tryz.func21 rfl (by rfl) ?_;simp only[Tryz.ntmps21,List.length_cons,List.length_nil,Nat.reduceAdd,Nat.reduceSub,List.replicate,List.cons_append,List.nil_append])
  (repeat(any_goals(first|((with_reducible refine Q0b ?_ ?_);rfl;intro K hK;simp only[go_sem,h1,h2];((repeat(refine ndI (by first|assumption) ?_));refine hK _ ?_;clear hK K))|(with_reducible first|(refine Q0c ?_;refine hR _ ?_;clear hR R)|((first|refine Q0d ?_);intro J hJ hJ')|(refine Q0a ?_;intro R hR)|(refine hJ _ ?_;clear hJ hJ' J)|refine Q0j ?_)|((with_reducible refine hJ' _ _ ?_ ?_);(focus(simp;done));clear hJ hJ' J)|((with_reducible apply Q0s);rfl;rfl;rfl;all_goals(intro hb;first|(cases hb;done)|((try simp only[Bool.not_true,Bool.not_false] at hb);(first|((with_reducible intro K hK);(first|skip);simp only[go_sem,h1,h2];((repeat(refine ndI (by first|assumption) ?_));refine hK _ ?_;clear hK K))|((fail_if_success (with_reducible intro _));simp only[go_sem,h1,h2])))))|((with_reducible apply Q0e);rfl;rfl;all_goals(intro hc;first|(cases hc;done)|(try simp only at hc))))))
  all_goals rw[hf]
  all_goals(refine⟨by simp,⟨_,?_,AV.le_refl _⟩,Q0h (by simp[leH,hget])⟩;simp only[Tryz.results21,resL,ldA,Q0o,go_sem])
 |false=>
 by_cases hcc:cd=cd'
 case neg=>
  have hf:r=false:=no fun e=>hcc (Cs.mk.inj e).2.2
  rw[decide_eq_false hcc] at he
  clear no yes noph
  (refine Q0v Tryz.func21 rfl (by rfl) ?_;simp only[Tryz.ntmps21,List.length_cons,List.length_nil,Nat.reduceAdd,Nat.reduceSub,List.replicate,List.cons_append,List.nil_append])
  (repeat(any_goals(first|((with_reducible refine Q0b ?_ ?_);rfl;intro K hK;simp only[go_sem,h1,h2];((repeat(refine ndI (by first|assumption) ?_));refine hK _ ?_;clear hK K))|(with_reducible first|(refine Q0c ?_;refine hR _ ?_;clear hR R)|((first|refine Q0d ?_);intro J hJ hJ')|(refine Q0a ?_;intro R hR)|(refine hJ _ ?_;clear hJ hJ' J)|refine Q0j ?_)|((with_reducible refine hJ' _ _ ?_ ?_);(focus(simp;done));clear hJ hJ' J)|((with_reducible apply Q0s);rfl;rfl;rfl;all_goals(intro hb;first|(cases hb;done)|((try simp only[Bool.not_true,Bool.not_false] at hb);(first|((with_reducible intro K hK);(first|((apply Q0i (he);rfl;rfl;rfl;rfl;exact Tryz.func18);kernel_rfl;rfl;(focus((simp only[go_sem,h1,h2]);(try rfl);done));(first|rfl))|skip);simp only[go_sem,h1,h2];((repeat(refine ndI (by first|assumption) ?_));refine hK _ ?_;clear hK K))))))|((with_reducible apply Q0e);rfl;rfl;all_goals(intro hc;first|(cases hc;done)|(try simp only at hc))))))
  all_goals rw[hf]
  all_goals(refine⟨by simp,⟨_,?_,AV.le_refl _⟩,Q0h (by simp[leH,hget])⟩;simp only[Tryz.results21,resL,ldA,Q0o,go_sem])
 rw[decide_eq_true hcc] at he
 have hss:s=s':=by simpa using h1
 have hlen:ph.length=ph'.length:=by
  have:=h2
  simp at this
  omega
 have yes:ph=ph'→r=true:=fun h=>yes hss h hcc
 clear no hss hcc
 (refine Q0v Tryz.func21 rfl (by rfl) ?_;simp only[Tryz.ntmps21,List.length_cons,List.length_nil,Nat.reduceAdd,Nat.reduceSub,List.replicate,List.cons_append,List.nil_append])
 (repeat(any_goals(first|((with_reducible refine Q0b ?_ ?_);rfl;intro K hK;simp only[go_sem,h1,h2];((repeat(refine ndI (by first|assumption) ?_));refine hK _ ?_;clear hK K))|(with_reducible first|(refine Q0c ?_;refine hR _ ?_;clear hR R)|((first|refine Q0d ?_|refine Q0f ?_);intro J hJ hJ')|(refine Q0a ?_;intro R hR)|(refine hJ _ ?_;clear hJ hJ' J)|refine Q0g ?_)|((with_reducible apply Q0s);rfl;rfl;rfl;all_goals(intro hb;first|(cases hb;done)|((try simp only[Bool.not_true,Bool.not_false] at hb);(first|((with_reducible intro K hK);(first|((apply Q0i (he);rfl;rfl;rfl;rfl;exact Tryz.func18);kernel_rfl;rfl;(focus((simp only[go_sem,h1,h2]);(try rfl);done));(first|rfl))|skip);simp only[go_sem,h1,h2];((repeat(refine ndI (by first|assumption) ?_));refine hK _ ?_;clear hK K))))))|((with_reducible apply Q0e);rfl;rfl;all_goals(intro hc;first|(cases hc;done)|(try simp only at hc))))))
 refine Q1m (α:={i:Nat // i≤ph.length∧∀j,j<i→ph[j]? = ph'[j]?}) (fun p=>⟨[.any,.any,.ptr 2 0,.ptr 3 0,vb false,.any,.any,.any,.any,.any,.any,.any,.any,.any,.any,.any,.any,.any,.any,.any,.any,.any,.any,.any,.any,.any,.any,.any,.any,.any,.any,phs false ph,vi .i64 ph.length,vi .i64 (p.1:Int),.any,.any,.any,.any,.any,.any,.any,.any,.any,.any,.any,.any,.any,.any,.any,.any,.any,.any,.any,.any,.any,.any,.any,.any,.any,.any,.any,.any,.any,.any,.any,.any,.any,.any,.any,.any,.any],[(2,[vi .u64 s,phs false ph,asl false cd]),(3,[vi .u64 s',phs false ph',asl false cd'])]⟩) (fun p=>ph.length-p.1) ⟨0,Nat.zero_le _,fun j hj=>by omega⟩ (St.le_of (by simp[leT]) (by simp[leH,hget])) ?_
 rintro ⟨i,hi,hno⟩ J hJ hJ'
 (try dsimp only at hi hJ ⊢)
 rcases Nat.lt_or_ge i ph.length with hlt|hge
 · obtain⟨x,hx⟩:∃x,ph[i]? = some x:=⟨_,List.getElem?_eq_getElem hlt⟩
   obtain⟨y,hy⟩:∃y,ph'[i]? = some y:=⟨_,List.getElem?_eq_getElem (by omega)⟩
   have k1:(decide ((i:Int)<(ph.length:Int)))=true:=by simp;omega
   have k2:=Q7e hx
   have k3:=Q7e hy
   have k7:(i:Int)+1=((i+1:Nat):Int):=by omega
   have hlb:i<ph'.length:=by omega
   have ox:=hpo x (List.mem_of_getElem? hx)
   have oy:=hpo' y (List.mem_of_getElem? hy)
   have ck:=rSame_fn x.tr y.tr (by have:=ox.2.1;omega) ox.2.2 oy.2.2
   have hff:x≠y→r=false:=fun h=>noph fun e=>by
    rw[e,hy] at hx;cases hx;exact h rfl
   have hJ1:=fun σ' (h:x=y)=>hJ σ' ⟨i+1,hlt,fun j hj=>by
         rcases Nat.lt_or_ge j i with h'|h'
         · exact hno j h'
         · obtain rfl:j=i:=by omega
           rw[hx,hy,h]⟩ (by dsimp only;omega)
   dsimp only at hJ1
   clear hno noph yes
   obtain⟨c1,g1⟩:∃b,(x.role != y.role)=b:=⟨_,rfl⟩
   obtain⟨c2,g2⟩:∃b,(x.who != y.who)=b:=⟨_,rfl⟩
   obtain⟨c3,g3⟩:∃b,(x.stk != y.stk)=b:=⟨_,rfl⟩
   cases c1 with
   |true=>
    have hf:=hff fun e=>(bne_iff_ne.1 g1) (by rw[e])
    clear hJ1 hff
    (have W:=ndI k1 (ndI k2 (ndI k3 (ndI k7 (ndI g1 @wrI))));(repeat(any_goals(first|((with_reducible refine Q0b ?_ ?_);rfl;intro K hK;simp(disch:=omega) only[go_sem,W];((repeat(refine ndI (by first|assumption|omega|rfl) ?_));refine hK _ ?_;clear hK K))|(with_reducible first|(refine Q0c ?_;refine hR _ ?_;clear hR R)|((first|refine Q0d ?_|refine Q0f ?_);intro J hJ hJ')|(refine Q0a ?_;intro R hR)|(refine hJ _ ?_;clear hJ hJ' J)|refine Q0g ?_|refine Q0j ?_)|((with_reducible refine hJ' _ _ ?_ ?_);(focus(simp;done));clear hJ hJ' J)|((with_reducible apply Q0s);rfl;rfl;rfl;all_goals(intro hb;first|(cases hb;done)|((try simp only[Bool.not_true,Bool.not_false] at hb);(first|((fail_if_success (with_reducible intro _));simp(disch:=omega) only[go_sem,W])))))|((with_reducible apply Q0e);rfl;rfl;all_goals(intro hc;first|(cases hc;done)|(try simp only at hc)))))))
    all_goals rw[hf]
    all_goals(refine⟨by simp,⟨_,?_,AV.le_refl _⟩,Q0h (by simp[leH,hget])⟩;simp only[Tryz.results21,resL,ldA,Q0o,go_sem])
   |false=>
   cases c2 with
   |true=>
    have hf:=hff fun e=>(bne_iff_ne.1 g2) (by rw[e])
    clear hJ1 hff
    (have W:=ndI k1 (ndI k2 (ndI k3 (ndI k7 (ndI g1 (ndI g2 @wrI)))));(repeat(any_goals(first|((with_reducible refine Q0b ?_ ?_);rfl;intro K hK;simp(disch:=omega) only[go_sem,W];((repeat(refine ndI (by first|assumption|omega|rfl) ?_));refine hK _ ?_;clear hK K))|(with_reducible first|(refine Q0c ?_;refine hR _ ?_;clear hR R)|((first|refine Q0d ?_|refine Q0f ?_);intro J hJ hJ')|(refine Q0a ?_;intro R hR)|(refine hJ _ ?_;clear hJ hJ' J)|refine Q0g ?_|refine Q0j ?_)|((with_reducible refine hJ' _ _ ?_ ?_);(focus(simp;done));clear hJ hJ' J)|((with_reducible apply Q0s);rfl;rfl;rfl;all_goals(intro hb;first|(cases hb;done)|((try simp only[Bool.not_true,Bool.not_false] at hb);(first|((with_reducible intro K hK);(first|skip);simp(disch:=omega) only[go_sem,W];((repeat(refine ndI (by first|assumption|rfl) ?_));refine hK _ ?_;clear hK K))|((fail_if_success (with_reducible intro _));simp(disch:=omega) only[go_sem,W])))))|((with_reducible apply Q0e);rfl;rfl;all_goals(intro hc;first|(cases hc;done)|(try simp only at hc)))))))
    all_goals rw[hf]
    all_goals(refine⟨by simp,⟨_,?_,AV.le_refl _⟩,Q0h (by simp[leH,hget])⟩;simp only[Tryz.results21,resL,ldA,Q0o,go_sem])
   |false=>
   cases c3 with
   |true=>
    have hf:=hff fun e=>(bne_iff_ne.1 g3) (by rw[e])
    clear hJ1 hff
    (have W:=ndI k1 (ndI k2 (ndI k3 (ndI k7 (ndI g1 (ndI g2 (ndI g3 @wrI))))));(repeat(any_goals(first|((with_reducible refine Q0b ?_ ?_);rfl;intro K hK;simp(disch:=omega) only[go_sem,W];((repeat(refine ndI (by first|assumption|omega|rfl) ?_));refine hK _ ?_;clear hK K))|(with_reducible first|(refine Q0c ?_;refine hR _ ?_;clear hR R)|((first|refine Q0d ?_|refine Q0f ?_);intro J hJ hJ')|(refine Q0a ?_;intro R hR)|(refine hJ _ ?_;clear hJ hJ' J)|refine Q0g ?_|refine Q0j ?_)|((with_reducible refine hJ' _ _ ?_ ?_);(focus(simp;done));clear hJ hJ' J)|((with_reducible apply Q0s);rfl;rfl;rfl;all_goals(intro hb;first|(cases hb;done)|((try simp only[Bool.not_true,Bool.not_false] at hb);(first|((with_reducible intro K hK);(first|skip);simp(disch:=omega) only[go_sem,W];((repeat(refine ndI (by first|assumption|rfl) ?_));refine hK _ ?_;clear hK K))|((fail_if_success (with_reducible intro _));simp(disch:=omega) only[go_sem,W])))))|((with_reducible apply Q0e);rfl;rfl;all_goals(intro hc;first|(cases hc;done)|(try simp only at hc)))))))
    all_goals rw[hf]
    all_goals(refine⟨by simp,⟨_,?_,AV.le_refl _⟩,Q0h (by simp[leH,hget])⟩;simp only[Tryz.results21,resL,ldA,Q0o,go_sem])
   |false=>
   by_cases ht:x.tr=y.tr
   · have hxy:x=y:=by
      obtain⟨x1,x2,x3,x4⟩:=x
      obtain⟨y1,y2,y3,y4⟩:=y
      simp at g1 g2 g3 ht
      rw[g1,g2,g3,ht]
     have hJ2:=fun σ'=>hJ1 σ' hxy
     rw[decide_eq_true ht] at ck
     clear hJ1 hff hxy ht
     (have W:=ndI k1 (ndI k2 (ndI k3 (ndI k7 (ndI g1 (ndI g2 (ndI g3 @wrI))))));(repeat(any_goals(first|((with_reducible refine Q0b ?_ ?_);rfl;intro K hK;simp(disch:=omega) only[go_sem,W];((repeat(refine ndI (by first|assumption|omega|rfl) ?_));refine hK _ ?_;clear hK K))|(with_reducible first|(refine Q0c ?_;refine hR _ ?_;clear hR R)|((first|refine Q0d ?_|refine Q0f ?_);intro J hJ hJ')|(refine Q0a ?_;intro R hR)|(refine hJ _ ?_;clear hJ hJ' J)|refine Q0g ?_)|((with_reducible refine hJ' _ _ ?_ ?_);(focus(simp;done));clear hJ hJ' J)|((with_reducible apply Q0s);rfl;rfl;rfl;all_goals(intro hb;first|(cases hb;done)|((try simp only[Bool.not_true,Bool.not_false] at hb);(first|((with_reducible intro K hK);(first|((apply Q0i (ck);rfl;rfl;rfl;rfl;exact Tryz.func59);kernel_rfl;rfl;(focus((simp(disch:=omega) only[go_sem,W]);(try rfl);done));(first|rfl))|skip);simp(disch:=omega) only[go_sem,W];((repeat(refine ndI (by first|assumption|rfl) ?_));refine hK _ ?_;clear hK K))))))|((with_reducible apply Q0e);rfl;rfl;all_goals(intro hc;first|(cases hc;done)|(try simp only at hc)))))))
     all_goals exact hJ2 _ (St.le_of (by simp[leT]) (by simp[leH,hget]))
   · have hf:=hff fun e=>ht (by rw[e])
     rw[decide_eq_false ht] at ck
     clear hJ1 hff ht
     (have W:=ndI k1 (ndI k2 (ndI k3 (ndI k7 (ndI g1 (ndI g2 (ndI g3 @wrI))))));(repeat(any_goals(first|((with_reducible refine Q0b ?_ ?_);rfl;intro K hK;simp(disch:=omega) only[go_sem,W];((repeat(refine ndI (by first|assumption|omega|rfl) ?_));refine hK _ ?_;clear hK K))|(with_reducible first|(refine Q0c ?_;refine hR _ ?_;clear hR R)|((first|refine Q0d ?_|refine Q0f ?_);intro J hJ hJ')|(refine Q0a ?_;intro R hR)|(refine hJ _ ?_;clear hJ hJ' J)|refine Q0g ?_|refine Q0j ?_)|((with_reducible refine hJ' _ _ ?_ ?_);(focus(simp;done));clear hJ hJ' J)|((with_reducible apply Q0s);rfl;rfl;rfl;all_goals(intro hb;first|(cases hb;done)|((try simp only[Bool.not_true,Bool.not_false] at hb);(first|((with_reducible intro K hK);(first|((apply Q0i (ck);rfl;rfl;rfl;rfl;exact Tryz.func59);kernel_rfl;rfl;(focus((simp(disch:=omega) only[go_sem,W]);(try rfl);done));(first|rfl))|skip);simp(disch:=omega) only[go_sem,W];((repeat(refine ndI (by first|assumption|rfl) ?_));refine hK _ ?_;clear hK K))))))|((with_reducible apply Q0e);rfl;rfl;all_goals(intro hc;first|(cases hc;done)|(try simp only at hc)))))))
     all_goals rw[hf]
     all_goals(refine⟨by simp,⟨_,?_,AV.le_refl _⟩,Q0h (by simp[leH,hget])⟩;simp only[Tryz.results21,resL,ldA,Q0o,go_sem])
 · have k1:(decide ((i:Int)<(ph.length:Int)))=false:=by simp;omega
   have hrt:r=true:=yes (by
    refine List.ext_getElem? fun j=>?_
    rcases Nat.lt_or_ge j ph.length with h|h
    · exact hno j (by omega)
    · rw[List.getElem?_eq_none h,List.getElem?_eq_none (by omega)])
   clear hno yes noph
   (repeat(any_goals(first|((with_reducible refine Q0b ?_ ?_);rfl;intro K hK;simp only[go_sem,k1];((repeat(refine ndI (by first|assumption) ?_));refine hK _ ?_;clear hK K))|(with_reducible first|(refine Q0c ?_;refine hR _ ?_;clear hR R)|((first|refine Q0d ?_);intro J hJ hJ')|(refine Q0a ?_;intro R hR)|(refine hJ _ ?_;clear hJ hJ' J)|refine Q0j ?_|refine Q0p ?_)|((with_reducible refine hJ' _ _ ?_ ?_);(focus(simp;done));clear hJ hJ' J)|((with_reducible apply Q0e);rfl;rfl;all_goals(intro hc;first|(cases hc;done)|(try simp only at hc))))))
   all_goals rw[hrt]
   all_goals(refine⟨by simp,⟨_,?_,AV.le_refl _⟩,Q0h (by simp[leH,hget])⟩;simp only[Tryz.results21,resL,ldA,Q0o,go_sem])
abbrev stR(c:Cs)(r:Nat)(out:List Int)(i:Nat):St:=⟨[.any,.ptr 1 0,.c (.v (.slice none 0 0)),.row r 23 1 out.length,.any,.any,.any,phs false c.ph,vi .i64 c.ph.length,vi .i64 i,.any,.any,.any,.any,.any,.any,.any,.any,.any,.any,.any],[(1,[vi .u64 c.snd,phs false c.ph,asl false c.cd]),(r,raA out)]⟩
theorem stR_rn(c:Cs)(out:List Int)(i:Nat):(stR c 17 out i).to (stR c 500 out i):=by
 have h:=St.to.rn (σ:=stR c 17 out i) (fun r=>if r=17 then 500 else r) (fun r=>if r=500 then 17 else r) [17,1] (by simp[AV.inNL,AV.inN]) (by simp) (by simp[inH,AV.inNL,AV.inN,Q0z]) (by simp) (by simp)
 simpa [AV.renL,AV.ren,renH] using h
abbrev stRF(c:Cs)(out:List Int)(i:Nat):St:=⟨[.any,.ptr 1 0,.c (.v (.slice none 0 0)),asl false out,.any,.any,.any,phs false c.ph,vi .i64 c.ph.length,vi .i64 i,.any,.any,.any,.any,.any,.any,.any,.any,.any,.any,.any],[(1,[vi .u64 c.snd,phs false c.ph,asl false c.cd])]⟩
theorem stR_frz(c:Cs)(out:List Int)(i:Nat):(stR c 500 out i).to (stRF c out i):=by
 have h:=St.to.frz (σ:=stR c 500 out i) 500 (pcs:=out.flatMap apv) rfl
 have e:((stR c 500 out i).frz 500 (out.flatMap apv))=stRF c out i:=by
  simp[St.frz,AV.frz,AV.frzL,frzH,Q0r Q3e]
 rwa [e] at h
abbrev stRI(c:Cs)(i:Nat):St:=if i<c.ph.length then stR c 500 (whoL (c.ph.take i)) i else stRF c (whoL (c.ph.take i)) i
theorem stRI_to(c:Cs){τ : St}{i:Nat}(h:τ.to (stR c 500 (whoL (c.ph.take i)) i)):τ.to (stRI c i):=by
 unfold stRI
 split
 · exact h
 · exact h.trans (stR_frz c _ i)
theorem rents_fn(c:Cs)(hc:c.ok):Fn Tryz.prog 19 [csA c] [] (asl false (resD (whoL c.ph) (whoL c.ph).length)) []:=by
 have so:=X1j false (whoL c.ph) (by rw[Q5w];have:=hc.2.1.1;omega)
 have hpl:=hc.2.1.1
 generalize resD (whoL c.ph) (whoL c.ph).length=r at so ⊢
 clear hc
 (refine Q0v Tryz.func19 rfl (by rfl) ?_;simp only[Tryz.ntmps19,List.length_cons,List.length_nil,Nat.reduceAdd,Nat.reduceSub,List.replicate,List.cons_append,List.nil_append])
 (repeat(any_goals(first|((with_reducible refine Q0b ?_ ?_);rfl;intro K hK;simp only[go_sem];((repeat(refine ndI (by first|assumption) ?_));refine hK _ ?_;clear hK K))|(with_reducible first|(refine Q0c ?_;refine hR _ ?_;clear hR R)|((first|refine Q0d ?_|refine Q0f ?_);intro J hJ hJ')|(refine Q0a ?_;intro R hR)|(refine hJ _ ?_;clear hJ hJ' J)))))
 refine Q5a c.ph.length (fun i=>stRI c i) ?_ ?_
 · refine stRI_to c ?_
   refine St.to.trans (St.to.of_le (τ:=⟨[.any,.ptr 1 0,.c (.v (.slice none 0 0)),.c (.v (.slice none 0 0)),.any,.any,.any,phs false c.ph,vi .i64 c.ph.length,vi .i64 0,.any,.any,.any,.any,.any,.any,.any,.any,.any,.any,.any],[(1,[vi .u64 c.snd,phs false c.ph,asl false c.cd])]⟩) (St.le_of (by simp[leT]) (by simp[leH,hget]))) ?_
   refine St.to.trans (St.to.nilrow 3 500 23 1 rfl (by simp) (by simp[St.free,Q2f,AV.refsL,AV.refs]) (by decide)) (St.to.of_le (St.le_of (by simp[leT,whoL]) (by simp[leH,hget,hput,whoL])))
 intro i hi J hJ hJ'
 have hJ0:=fun τ h1 h2=>hJ τ h1 (stRI_to c h2)
 clear hJ
 have hJ:=hJ0
 clear hJ0
 rcases Nat.lt_or_ge i c.ph.length with hlt|hge
 · obtain⟨y,hy⟩:∃y,c.ph[i]? = some y:=⟨_,List.getElem?_eq_getElem hlt⟩
   have k1:(decide ((i:Int)<(c.ph.length:Int)))=true:=by simpa using hlt
   have k2:=Q7e hy
   have k7:(i:Int)+1=((i+1:Nat):Int):=by omega
   have es:stRI c i=stR c 500 (whoL (c.ph.take i)) i:=if_pos hlt
   rw[es]
   clear es
   dsimp only[stR] at hJ ⊢
   have k5:(whoL (c.ph.take i)).length≤1000:=by rw[Q5w];simp;omega
   have hJ1:=fun τ=>hJ τ hlt
   rw[X4k hy] at hJ1
   clear hJ
   generalize whoL (c.ph.take i)=out at k5 hJ1 ⊢
   have k4:(raA out).length=out.length*1:=by rw[List.length_map,Q0r Q3e]
   have k9:∀r,AV.refsL r (raA out)=false:=fun r=>Q0n r _
   (have W:=ndI k1 (ndI k2 (ndI k4 (ndI k7 (ndI k9 (ndI @wrI @Q0n)))));(repeat(any_goals(first|((with_reducible refine Q0b ?_ ?_);rfl;intro K hK;simp(disch:=omega) only[go_sem,W,Q3y,AV.refsL,AV.refs,List.length_append,List.length_cons,List.length_nil,Bool.or_false];((repeat(refine ndI (by first|assumption|omega|rfl) ?_));refine hK _ ?_;clear hK K))|(with_reducible first|(refine Q0c ?_;refine hR _ ?_;clear hR R)|((first|refine Q0d ?_|refine Q0f ?_);intro J hJ hJ')|(refine Q0a ?_;intro R hR)|(refine hJ _ ?_;clear hJ hJ' J)|refine Q0g ?_)|((with_reducible refine hJ' _ _ ?_ ?_);(focus(simp;done));clear hJ hJ' J)|((with_reducible apply Q0e);rfl;rfl;all_goals(intro hc;first|(cases hc;done)|(try simp only at hc)))))))
   all_goals exact hJ1 _ (St.to.trans (St.to.of_le (τ:=stR c 17 (out++[y.who]) (i+1)) (St.le_of (by simp[leT]) (by simp[leH,hget,apv,raA]))) (stR_rn c _ _))
 · have k1:(decide ((i:Int)<(c.ph.length:Int)))=false:=by simpa using hge
   have e:c.ph.take i=c.ph:=List.take_of_length_le hge
   have es:stRI c i=stRF c (whoL (c.ph.take i)) i:=if_neg (by omega)
   rw[es,e]
   clear es
   dsimp only[stRF]
   (repeat(any_goals(first|((with_reducible refine Q0l ?_ ?_ ?_);rfl;rfl;intro K hK;((apply Q0i (so);rfl;rfl;rfl;rfl;exact Tryz.func40);kernel_rfl;rfl;(focus((simp only[go_sem,k1]);(try rfl);done));(first|rfl));(simp only[go_sem,k1];refine hK _ ?_;clear hK K))|((with_reducible refine Q0b ?_ ?_);rfl;intro K hK;simp only[go_sem,k1];((repeat(refine ndI (by first|assumption) ?_));refine hK _ ?_;clear hK K))|(with_reducible first|(refine Q0c ?_;refine hR _ ?_;clear hR R)|((first|refine Q0d ?_);intro J hJ hJ')|(refine Q0a ?_;intro R hR)|(refine hJ _ ?_;clear hJ hJ' J)|refine Q0j ?_|refine Q0p ?_)|((with_reducible refine hJ' _ _ ?_ ?_);(focus(simp;done));clear hJ hJ' J)|((with_reducible apply Q0e);rfl;rfl;all_goals(intro hc;first|(cases hc;done)|(try simp only at hc))))))
   all_goals exact⟨by simp,⟨_,rfl,AV.le_refl _⟩,Q0h (by simp[leH,hget])⟩
end Go.Proofs.YtgdjkkapgghdbaaGreatDoor
namespace Go.Proofs.YtgdjkkapgghdbaaGreatDoor
open Go.RowKit
open Nat (reduceBEq)
attribute [-go_sem] IntKind.bits
set_option maxRecDepth 20000
set_option maxHeartbeats 4000000
theorem may_fnE(x y X Y:Cs)(f1:Fn Tryz.prog 9 [csA x] [] (csA X) [])(f2:Fn Tryz.prog 9 [csA y] [] (csA Y) [])
 (hX:∃b,Fn Tryz.prog 10 [csA X] [] (vb b) []∧Fn Tryz.prog 16 [csA X] [] (vi .i64 (if b then 0 else 320)) []∧(b=false→Fn Tryz.prog 17 [csA X] [] nilA [])∧(b=true→∃r,Fn Tryz.prog 17 [csA X] [] (asl false r) []∧Fn Tryz.prog 19 [csA X] [] (asl false r) []∧Fn Tryz.prog 18 [asl false r,asl false r] [] (vb true) []))
 (hY:∃b,Fn Tryz.prog 10 [csA Y] [] (vb b) []∧Fn Tryz.prog 16 [csA Y] [] (vi .i64 (if b then 0 else 320)) []∧(b=false→Fn Tryz.prog 17 [csA Y] [] nilA [])∧(b=true→∃r,Fn Tryz.prog 17 [csA Y] [] (asl false r) []∧Fn Tryz.prog 19 [csA Y] [] (asl false r) []∧Fn Tryz.prog 18 [asl false r,asl false r] [] (vb true) []))
 (b:Bool) (s1:Fn Tryz.prog 20 [csA X,csA Y] [] (vb b) []) (s2:Fn Tryz.prog 21 [csA X,csA Y] [] (vb b) []) (s3:Fn Tryz.prog 20 [csA X,csA X] [] (vb true) []) :
 Fn Tryz.prog 4 [csA x,csA y] [] (vb true) []:=by
 obtain⟨xs,xp,xc⟩:=x
 obtain⟨ys,yp,yc⟩:=y
 obtain⟨Xs,Xp,Xc⟩:=X
 obtain⟨Ys,Yp,Yc⟩:=Y
 have wk:=wakes_fn
 have eb:(b==b)=true:=by cases b<;>rfl
 (refine Q0v Tryz.func4 rfl (by rfl) ?_;simp only[Tryz.ntmps4,List.length_cons,List.length_nil,Nat.reduceAdd,Nat.reduceSub,List.replicate,List.cons_append,List.nil_append])
 (repeat(any_goals(first|((with_reducible refine Q0l ?_ ?_ ?_);rfl;rfl;intro K hK;((apply Q0i (wk);rfl;rfl;rfl;rfl;exact Tryz.func8);kernel_rfl;rfl;(focus((simp only[go_sem]);(try rfl);done));(first|rfl));(simp only[go_sem];refine hK _ ?_;clear hK K))|((with_reducible refine Q0b ?_ ?_);rfl;intro K hK;simp only[go_sem];((repeat(refine ndI (by first|assumption) ?_));refine hK _ ?_;clear hK K))|(with_reducible first|(refine Q0c ?_;refine hR _ ?_;clear hR R)|((first|refine Q0d ?_|refine Q0f ?_);intro J hJ hJ')|(refine Q0a ?_;intro R hR)|(refine hJ _ ?_;clear hJ hJ' J)|refine Q0g ?_)|((with_reducible apply Q0e);rfl;rfl;all_goals(intro hc;first|(cases hc;done)|(try simp only at hc))))))
 refine Q1m (α:={i:Nat // i≤2}) (fun p=>⟨[.any,.any,.ptr 2 0,.ptr 3 0,vb false,.any,.any,.any,.any,.any,.any,.any,.any,.any,.agg [vi .u64 xs,phs false xp,asl false xc,vi .u64 ys,phs false yp,asl false yc],vi .i64 (p.1:Int),.any,.any,.any,.any,.any,.any,.any,.any,.any,.any,.any,.any,.any,.any,.any,.any,.any,.any,.any,.any,.any,.any,.any,.any,.any,.any,.any,.any,.any,.any,.any,.any,.any,.any,.any,.any,.any,.any,.any,.any,.any,.any,.any,.any,.any,.any],[(2,[vi .u64 xs,phs false xp,asl false xc]),(3,[vi .u64 ys,phs false yp,asl false yc])]⟩) (fun p=>2-p.1) ⟨0,by decide⟩ (St.le_of (by simp[leT]) (by simp[leH,hget])) ?_
 rintro ⟨i,hi⟩ J hJ hJ'
 (try dsimp only at hi hJ ⊢)
 rcases Nat.lt_or_ge i 2 with hlt|hge
 · have hJ1:=fun σ'=>hJ σ' ⟨i+1,hlt⟩ (by dsimp only;omega)
   dsimp only at hJ1
   clear s1 s2 s3 eb wk
   rcases(by omega:i=0∨i=1) with h0|h0
   · subst h0
     obtain⟨c,g1,g2,g3,g4⟩:=hX
     clear hY f2
     cases c with
     |false=>
      have g3:=g3 rfl
      rw[if_neg (by simp)] at g2
      clear g4
      (repeat(any_goals(first|((with_reducible refine Q0l ?_ ?_ ?_);rfl;rfl;intro K hK;((first|(apply Q0i (f1);rfl;rfl;rfl;rfl;exact Tryz.func9)|(apply Q0i (g1);rfl;rfl;rfl;rfl;exact Tryz.func10));kernel_rfl;rfl;(focus((simp only[go_sem]);(try rfl);done));(first|rfl));(simp only[go_sem];refine hK _ ?_;clear hK K))|((with_reducible refine Q0b ?_ ?_);rfl;intro K hK;simp only[go_sem];((repeat(refine ndI (by first|assumption|omega) ?_));refine hK _ ?_;clear hK K))|(with_reducible first|(refine Q0c ?_;refine hR _ ?_;clear hR R)|((first|refine Q0d ?_|refine Q0f ?_);intro J hJ hJ')|(refine Q0a ?_;intro R hR)|(refine hJ _ ?_;clear hJ hJ' J)|refine Q0g ?_)|((with_reducible refine hJ' _ _ ?_ ?_);(focus(simp;done));clear hJ hJ' J)|((with_reducible apply Q0s);rfl;rfl;rfl;all_goals(intro hb;first|(cases hb;done)|((try simp only[Bool.not_true,Bool.not_false] at hb);(first|((with_reducible intro K hK);simp only[go_sem];((repeat(refine ndI (by first|assumption) ?_));refine hK _ ?_;clear hK K))))))|((with_reducible apply Q0e);rfl;rfl;all_goals(intro hc;first|(cases hc;done)|(try simp only at hc)))|((with_reducible refine Q0y ?_ ?_);kernel_rfl;(with_reducible refine hR _ ?_);clear hR R)|((first|((first|((with_reducible apply Q1i);rfl;rfl));((first|(apply Q0t (g2);rfl;rfl;rfl;rfl;exact Tryz.func16)|(apply Q0t (g3);rfl;rfl;rfl;rfl;exact Tryz.func17));kernel_rfl;rfl;(focus((simp only[go_sem]);(try rfl);done));(first|rfl)))|((first|((with_reducible apply Q0x);rfl;rfl));(simp only[rdE,rdOf,go_sem];rfl);(intro τ hA hQ hN;((try simp only[Q1h,Op.operands,Call.operands,go_sem,List.mem_cons,List.not_mem_nil,forall_eq_or_imp,forall_eq,List.append_toArray,Option.toArray] at hA);(try simp only[go_sem,List.mem_cons,List.not_mem_nil,forall_eq_or_imp,forall_eq] at hQ hN);(first|(revert hA;intro hA));(first|(revert hQ;intro hQ));(first|(revert hN;intro hN));simp only[go_sem,hA,hQ,hN];(repeat(refine ndI (by first|assumption) ?_));(first|apply Q1b)))));(simp only[St.eff,setO,Q0w,go_sem]))|((with_reducible refine Q0u ?_ ?_ ?_ ?_);kernel_rfl;kernel_rfl;(first|kernel_rfl);intro R hR))))
      all_goals exact hJ1 _ (St.le_of (by simp[leT];rfl) (by simp[leH,hget]))
     |true=>
      obtain⟨r,g3,g4,g5⟩:=g4 rfl
      rw[if_pos rfl] at g2
      (repeat(any_goals(first|((with_reducible refine Q0l ?_ ?_ ?_);rfl;rfl;intro K hK;((first|(apply Q0i (f1);rfl;rfl;rfl;rfl;exact Tryz.func9)|(apply Q0i (g1);rfl;rfl;rfl;rfl;exact Tryz.func10));kernel_rfl;rfl;(focus((simp only[go_sem]);(try rfl);done));(first|rfl));(simp only[go_sem];refine hK _ ?_;clear hK K))|((with_reducible refine Q0b ?_ ?_);rfl;intro K hK;simp only[go_sem];((repeat(refine ndI (by first|assumption|omega) ?_));refine hK _ ?_;clear hK K))|(with_reducible first|(refine Q0c ?_;refine hR _ ?_;clear hR R)|((first|refine Q0d ?_|refine Q0f ?_);intro J hJ hJ')|(refine Q0a ?_;intro R hR)|(refine hJ _ ?_;clear hJ hJ' J)|refine Q0g ?_)|((with_reducible refine hJ' _ _ ?_ ?_);(focus(simp;done));clear hJ hJ' J)|((with_reducible apply Q0s);rfl;rfl;rfl;all_goals(intro hb;first|(cases hb;done)|((try simp only[Bool.not_true,Bool.not_false] at hb);(first|((with_reducible intro K hK);(first|((first|(apply Q0i (g4);rfl;rfl;rfl;rfl;exact Tryz.func19)|(apply Q0i (g5);rfl;rfl;rfl;rfl;exact Tryz.func18));kernel_rfl;rfl;(focus((simp only[go_sem]);(try rfl);done));(first|rfl))|skip);simp only[go_sem];((repeat(refine ndI (by first|assumption) ?_));refine hK _ ?_;clear hK K))))))|((with_reducible apply Q0e);rfl;rfl;all_goals(intro hc;first|(cases hc;done)|(try simp only at hc)))|((with_reducible refine Q0y ?_ ?_);kernel_rfl;(with_reducible refine hR _ ?_);clear hR R)|((first|((first|((with_reducible apply Q1i);rfl;rfl));((first|(apply Q0t (g2);rfl;rfl;rfl;rfl;exact Tryz.func16)|(apply Q0t (g3);rfl;rfl;rfl;rfl;exact Tryz.func17));kernel_rfl;rfl;(focus((simp only[go_sem]);(try rfl);done));(first|rfl)))|((first|((with_reducible apply Q0x);rfl;rfl));(simp only[rdE,rdOf,go_sem];rfl);(intro τ hA hQ hN;((try simp only[Q1h,Op.operands,Call.operands,go_sem,List.mem_cons,List.not_mem_nil,forall_eq_or_imp,forall_eq,List.append_toArray,Option.toArray] at hA);(try simp only[go_sem,List.mem_cons,List.not_mem_nil,forall_eq_or_imp,forall_eq] at hQ hN);(first|(revert hA;intro hA));(first|(revert hQ;intro hQ));(first|(revert hN;intro hN));simp only[go_sem,hA,hQ,hN];(repeat(refine ndI (by first|assumption) ?_));(first|apply Q1b)))));(simp only[St.eff,setO,Q0w,go_sem]))|((with_reducible refine Q0u ?_ ?_ ?_ ?_);kernel_rfl;kernel_rfl;(first|kernel_rfl);intro R hR))))
      all_goals exact hJ1 _ (St.le_of (by simp[leT];rfl) (by simp[leH,hget]))
   · subst h0
     obtain⟨c,g1,g2,g3,g4⟩:=hY
     clear hX f1
     cases c with
     |false=>
      have g3:=g3 rfl
      rw[if_neg (by simp)] at g2
      clear g4
      (repeat(any_goals(first|((with_reducible refine Q0l ?_ ?_ ?_);rfl;rfl;intro K hK;((first|(apply Q0i (f2);rfl;rfl;rfl;rfl;exact Tryz.func9)|(apply Q0i (g1);rfl;rfl;rfl;rfl;exact Tryz.func10));kernel_rfl;rfl;(focus((simp only[go_sem]);(try rfl);done));(first|rfl));(simp only[go_sem];refine hK _ ?_;clear hK K))|((with_reducible refine Q0b ?_ ?_);rfl;intro K hK;simp only[go_sem];((repeat(refine ndI (by first|assumption|omega) ?_));refine hK _ ?_;clear hK K))|(with_reducible first|(refine Q0c ?_;refine hR _ ?_;clear hR R)|((first|refine Q0d ?_|refine Q0f ?_);intro J hJ hJ')|(refine Q0a ?_;intro R hR)|(refine hJ _ ?_;clear hJ hJ' J)|refine Q0g ?_)|((with_reducible refine hJ' _ _ ?_ ?_);(focus(simp;done));clear hJ hJ' J)|((with_reducible apply Q0s);rfl;rfl;rfl;all_goals(intro hb;first|(cases hb;done)|((try simp only[Bool.not_true,Bool.not_false] at hb);(first|((with_reducible intro K hK);simp only[go_sem];((repeat(refine ndI (by first|assumption) ?_));refine hK _ ?_;clear hK K))))))|((with_reducible apply Q0e);rfl;rfl;all_goals(intro hc;first|(cases hc;done)|(try simp only at hc)))|((with_reducible refine Q0y ?_ ?_);kernel_rfl;(with_reducible refine hR _ ?_);clear hR R)|((first|((first|((with_reducible apply Q1i);rfl;rfl));((first|(apply Q0t (g2);rfl;rfl;rfl;rfl;exact Tryz.func16)|(apply Q0t (g3);rfl;rfl;rfl;rfl;exact Tryz.func17));kernel_rfl;rfl;(focus((simp only[go_sem]);(try rfl);done));(first|rfl)))|((first|((with_reducible apply Q0x);rfl;rfl));(simp only[rdE,rdOf,go_sem];rfl);(intro τ hA hQ hN;((try simp only[Q1h,Op.operands,Call.operands,go_sem,List.mem_cons,List.not_mem_nil,forall_eq_or_imp,forall_eq,List.append_toArray,Option.toArray] at hA);(try simp only[go_sem,List.mem_cons,List.not_mem_nil,forall_eq_or_imp,forall_eq] at hQ hN);(first|(revert hA;intro hA));(first|(revert hQ;intro hQ));(first|(revert hN;intro hN));simp only[go_sem,hA,hQ,hN];(repeat(refine ndI (by first|assumption) ?_));(first|apply Q1b)))));(simp only[St.eff,setO,Q0w,go_sem]))|((with_reducible refine Q0u ?_ ?_ ?_ ?_);kernel_rfl;kernel_rfl;(first|kernel_rfl);intro R hR))))
      all_goals exact hJ1 _ (St.le_of (by simp[leT];rfl) (by simp[leH,hget]))
     |true=>
      obtain⟨r,g3,g4,g5⟩:=g4 rfl
      rw[if_pos rfl] at g2
      (repeat(any_goals(first|((with_reducible refine Q0l ?_ ?_ ?_);rfl;rfl;intro K hK;((first|(apply Q0i (f2);rfl;rfl;rfl;rfl;exact Tryz.func9)|(apply Q0i (g1);rfl;rfl;rfl;rfl;exact Tryz.func10));kernel_rfl;rfl;(focus((simp only[go_sem]);(try rfl);done));(first|rfl));(simp only[go_sem];refine hK _ ?_;clear hK K))|((with_reducible refine Q0b ?_ ?_);rfl;intro K hK;simp only[go_sem];((repeat(refine ndI (by first|assumption|omega) ?_));refine hK _ ?_;clear hK K))|(with_reducible first|(refine Q0c ?_;refine hR _ ?_;clear hR R)|((first|refine Q0d ?_|refine Q0f ?_);intro J hJ hJ')|(refine Q0a ?_;intro R hR)|(refine hJ _ ?_;clear hJ hJ' J)|refine Q0g ?_)|((with_reducible refine hJ' _ _ ?_ ?_);(focus(simp;done));clear hJ hJ' J)|((with_reducible apply Q0s);rfl;rfl;rfl;all_goals(intro hb;first|(cases hb;done)|((try simp only[Bool.not_true,Bool.not_false] at hb);(first|((with_reducible intro K hK);(first|((first|(apply Q0i (g4);rfl;rfl;rfl;rfl;exact Tryz.func19)|(apply Q0i (g5);rfl;rfl;rfl;rfl;exact Tryz.func18));kernel_rfl;rfl;(focus((simp only[go_sem]);(try rfl);done));(first|rfl))|skip);simp only[go_sem];((repeat(refine ndI (by first|assumption) ?_));refine hK _ ?_;clear hK K))))))|((with_reducible apply Q0e);rfl;rfl;all_goals(intro hc;first|(cases hc;done)|(try simp only at hc)))|((with_reducible refine Q0y ?_ ?_);kernel_rfl;(with_reducible refine hR _ ?_);clear hR R)|((first|((first|((with_reducible apply Q1i);rfl;rfl));((first|(apply Q0t (g2);rfl;rfl;rfl;rfl;exact Tryz.func16)|(apply Q0t (g3);rfl;rfl;rfl;rfl;exact Tryz.func17));kernel_rfl;rfl;(focus((simp only[go_sem]);(try rfl);done));(first|rfl)))|((first|((with_reducible apply Q0x);rfl;rfl));(simp only[rdE,rdOf,go_sem];rfl);(intro τ hA hQ hN;((try simp only[Q1h,Op.operands,Call.operands,go_sem,List.mem_cons,List.not_mem_nil,forall_eq_or_imp,forall_eq,List.append_toArray,Option.toArray] at hA);(try simp only[go_sem,List.mem_cons,List.not_mem_nil,forall_eq_or_imp,forall_eq] at hQ hN);(first|(revert hA;intro hA));(first|(revert hQ;intro hQ));(first|(revert hN;intro hN));simp only[go_sem,hA,hQ,hN];(repeat(refine ndI (by first|assumption) ?_));(first|apply Q1b)))));(simp only[St.eff,setO,Q0w,go_sem]))|((with_reducible refine Q0u ?_ ?_ ?_ ?_);kernel_rfl;kernel_rfl;(first|kernel_rfl);intro R hR))))
      all_goals exact hJ1 _ (St.le_of (by simp[leT];rfl) (by simp[leH,hget]))
 · obtain rfl:i=2:=by omega
   clear hX hY wk
   (repeat(any_goals(first|((with_reducible refine Q0b ?_ ?_);rfl;intro K hK;simp only[go_sem,eb];((repeat(refine ndI (by first|assumption) ?_));refine hK _ ?_;clear hK K))|(with_reducible first|(refine Q0c ?_;refine hR _ ?_;clear hR R)|((first|refine Q0d ?_);intro J hJ hJ')|(refine Q0a ?_;intro R hR)|(refine hJ _ ?_;clear hJ hJ' J)|refine Q0j ?_|refine Q0p ?_)|((with_reducible refine hJ' _ _ ?_ ?_);(focus(simp;done));clear hJ hJ' J)|((with_reducible apply Q0e);rfl;rfl;all_goals(intro hc;first|(cases hc;done)|(try simp only at hc)))|((with_reducible refine Q0y ?_ ?_);kernel_rfl;(with_reducible refine hR _ ?_);clear hR R)|((first|((first|((with_reducible apply Q1i);rfl;rfl)|((with_reducible apply Q3h);rfl;rfl;rfl;rfl;rfl));(first|((apply Q0t (s2);rfl;rfl;rfl;rfl;exact Tryz.func21);kernel_rfl;rfl;(focus((simp only[go_sem,eb]);(try rfl);done));(first|rfl))|((apply Q0t (f1);rfl;rfl;rfl;rfl;exact Tryz.func9);kernel_rfl;rfl;(focus((simp only[go_sem,eb]);(try rfl);done));(first|rfl))|((apply Q0t (f2);rfl;rfl;rfl;rfl;exact Tryz.func9);kernel_rfl;rfl;(focus((simp only[go_sem,eb]);(try rfl);done));(first|rfl))|((apply Q0t (s1);rfl;rfl;rfl;rfl;exact Tryz.func20);kernel_rfl;rfl;(focus((simp only[go_sem,eb]);(try rfl);done));(first|rfl))|((apply Q0t (s3);rfl;rfl;rfl;rfl;exact Tryz.func20);kernel_rfl;rfl;(focus((simp only[go_sem,eb]);(try rfl);done));(first|rfl))))|((first|((with_reducible apply Q0x);rfl;rfl)|((with_reducible apply Q3b);rfl;rfl;rfl;rfl;rfl));(simp only[rdE,rdOf,go_sem,eb];rfl);(intro τ hA hQ hN;((try simp only[Q1h,Op.operands,Call.operands,go_sem,eb,go_sem,List.mem_cons,List.not_mem_nil,forall_eq_or_imp,forall_eq,List.append_toArray,Option.toArray] at hA);(try simp only[go_sem,eb,List.mem_cons,List.not_mem_nil,forall_eq_or_imp,forall_eq] at hQ hN);(first|(revert hA;intro hA));(first|(revert hQ;intro hQ));(first|(revert hN;intro hN));simp only[go_sem,eb,go_sem,hA,hQ,hN];(repeat(refine ndI (by first|assumption) ?_));(first|apply Q1b)))));(simp only[St.eff,setO,Q0w,go_sem,eb]))|((with_reducible refine Q0u ?_ ?_ ?_ ?_);kernel_rfl;kernel_rfl;(first|kernel_rfl);intro R hR))))
   all_goals(refine⟨by simp,⟨_,?_,AV.le_refl _⟩,Q0h (by simp[leH,hget])⟩;simp only[Tryz.results4,resL,ldA,Q0o,go_sem])
end Go.Proofs.YtgdjkkapgghdbaaGreatDoor
namespace Go.Proofs.YtgdjkkapgghdbaaGreatDoor
open Go.RowKit Go.ChangeShapes Go.WideShapes Go.ChangeAt Go.Deep
section
variable {H:Type} {enc:TypeId×Value→H} {P:Program}
def Dec{α : Type}(P:Program)(t:TypeId)(sz:Nat)(f:α→List Value)(Good:α→Prop):Prop:=
 P.cellsOf t=sz∧∀(H:Type) (enc:TypeId×Value→H) (w:World) (base:Nat) (spare:Nat→Bool) (held:Bool) (fuel:Nat) (cs:List Value) (x:DataW H×List MemPlace),
  DataW.trod enc P w base spare held fuel t cs=some x→∃a,cs=f a∧Good a
theorem dec_int{t:TypeId}{k:IntKind}(ht:P.underlying t=some (.int k))(hc:P.cellsOf t=1):Dec P t 1 (fun n:Int=>[.int k n]) (fun n=>(Lit.int k n).wf=true):=
 ⟨hc,fun H enc w base spare held fuel cs x h=>by
   obtain⟨n,rfl,_,hw⟩:=DataW.trod_int ht h
   exact⟨n,rfl,hw⟩⟩
theorem dec_map{α β : Type}{t:TypeId}{sz:Nat}{f:α→List Value}{G:α→Prop}(h:Dec P t sz f G){f':β→List Value}{G':β→Prop}(hg:∀a,G a→∃b,f a=f' b∧G' b):Dec P t sz f' G':=
 ⟨h.1,fun H enc w base spare held fuel cs x hx=>by
   obtain⟨a,e,g⟩:=h.2 H enc w base spare held fuel cs x hx
   obtain⟨b,e',g'⟩:=hg a g
   exact⟨b,e.trans e',g'⟩⟩
theorem wf_u64{n:Int}(h:(Lit.int .u64 n).wf=true):0≤n∧n<18446744073709551616:=by
 simp[Lit.wf,IntKind.min,IntKind.max,IntKind.signed,IntKind.bits] at h;omega
theorem wf_u8{n:Int}(h:(Lit.int .u8 n).wf=true):0≤n∧n<256:=by
 simp[Lit.wf,IntKind.min,IntKind.max,IntKind.signed,IntKind.bits] at h;omega
theorem dec_u64{t:TypeId}(ht:P.underlying t=some (.int .u64))(hc:P.cellsOf t=1):Dec P t 1 (fun n:Nat=>[.int .u64 (n:Int)]) (fun n=>n<18446744073709551616):=
 dec_map (dec_int ht hc) fun n h=>⟨n.toNat,by have:=wf_u64 h;rw[Int.toNat_of_nonneg (by omega)],by have:=wf_u64 h;omega⟩
theorem Q6w{α : Type}{p:Nat→α→Prop}(n:Nat)(h:∀i,i<n→∃b,p i b):∃l:List α,l.length=n∧∀i b,l[i]? = some b→p i b:=by
 induction n with
 |zero=>exact⟨[],rfl,by simp⟩
 |succ k ih=>
  obtain⟨l,hl,hp⟩:=ih fun i hi=>h i (by omega)
  obtain⟨b,hb⟩:=h k (by omega)
  refine⟨l++[b],by simp[hl],fun i b' hib=>?_⟩
  rw[List.getElem?_append] at hib
  split at hib
  · exact hp i b' hib
  · have hi0:i=k:=by
     have:=(List.getElem?_eq_some_iff.1 hib).1
     simp at this;omega
    subst hi0
    rw[hl,Nat.sub_self] at hib
    simp at hib
    subst hib
    exact hb
theorem dec_arr{α : Type}{t e:TypeId}{n sz:Nat}{f:α→List Value}{G:α→Prop}(ht:P.underlying t=some (.array n e))(hc:P.cellsOf t=n*sz)(hs:0<sz)
 (he:Dec P e sz f G) (hf:∀a,(f a).length=sz):Dec P t (n*sz) (sts f) (fun l=>l.length=n∧∀a∈l,G a):=
 ⟨hc,fun H enc w base spare held fuel cs x hx=>by
   obtain⟨xs,m,_,_,hlen,hxl,hi⟩:=DataW.trod_array ht hx
   rw[hc] at hlen
   obtain⟨l,hl,hp⟩:=Q6w (p:=fun i b=>G b∧(cs.drop (i*sz)).take sz=f b) n fun i hin=>by
    have h1:=hi i hin
    rw[he.1,List.getElem?_eq_getElem (by omega)] at h1
    obtain⟨b,hb,hg⟩:=he.2 H enc w base spare held m _ _ h1
    exact⟨b,hg,hb⟩
   refine⟨l,?_,hl,fun a ha=>?_⟩
   · apply List.ext_getElem?
     intro j
     by_cases hj:j<n*sz
     · have hq:j/sz<n:=Nat.div_lt_of_lt_mul (by rw[Nat.mul_comm];exact hj)
       have hr:j%sz<sz:=Nat.mod_lt _ hs
       have hje:j=j/sz*sz+j%sz:=by rw[Nat.mul_comm];exact(Nat.div_add_mod j sz).symm
       have hk:l[j/sz]? = some (l[j/sz]'(by omega)):=List.getElem?_eq_getElem (by omega)
       have h1:=sts_get hf hk hr
       rw[←hje] at h1
       rw[h1,←(hp _ _ hk).2,List.getElem?_take,if_pos hr,List.getElem?_drop,←hje]
     · rw[List.getElem?_eq_none (by omega),List.getElem?_eq_none (by rw[Z0q f sz hf,hl];omega)]
   · obtain⟨i,hi'⟩:=List.mem_iff_getElem?.1 ha
     exact(hp i a hi').1⟩
theorem Q6z(hl:laidOutB P=true){W W':World}(hb:Below W.heap.size W W'):∀{ts:List TypeId} {vs:List Value} {ds:List (DataW H)} {ps:List MemPlace},
 (∀t∈ts,P.readableRec t=true∧t<P.types.size)→DataW.TrodAll enc P W 0 (fun _=>true) true ts vs ds ps→DataW.TrodAll enc P W' 0 (fun b=>decide (b<W.heap.size)) true ts vs ds ps
 |[],[],[],_,_,h=>h
 |t::ts,v::vs,d::ds,ps,hr,h=>by
  obtain⟨p,q,⟨m,hm⟩,hq,rfl⟩:=h
  have h1:=hr t (List.mem_cons_self ..)
  exact⟨p,q,Below.trod hl h1.1 h1.2 ⟨m,hm⟩ hb (fun x hx=>DataW.trod_lt m _ _ _ hm x hx),Q6z hl hb (fun t ht=>hr t (List.mem_cons_of_mem _ ht)) hq,rfl⟩
 |[],_::_,_,_,_,h=>h.elim
 |[],[],_::_,_,_,h=>h.elim
 |_::_,[],_,_,_,h=>h.elim
 |_::_,_::_,[],_,_,h=>h.elim
theorem Q8j:∀{w:World} {base:Nat} {spare:Nat→Bool} {held:Bool} {ts:List TypeId} {vs:List Value} {ds:List (DataW H)} {ps:List MemPlace},DataW.TrodAll enc P w base spare held ts vs ds ps→ds.length=ts.length
 |_,_,_,_,[],[],[],_,_=>rfl
 |_,_,_,_,t::ts,v::vs,d::ds,_,h=>by
  obtain⟨p,q,_,hq,_⟩:=h
  simp[Q8j hq]
 |_,_,_,_,[],_::_,_,_,h=>h.elim
 |_,_,_,_,[],[],_::_,_,h=>h.elim
 |_,_,_,_,_::_,[],_,_,h=>h.elim
 |_,_,_,_,_::_,_::_,[],_,h=>h.elim
theorem law_post{W:World}{args:Array Value}{ds gs:List (DataW H)}{before:List MemPlace}{fn:Func}{s:ChangeSpec}{f:Nat}{tb:TypeId}(hl:laidOutB P=true)(hvars:s.vars=[])(htb:P.underlying tb=some .bool)(hrt:fn.resultTypes = #[tb])
 (hr:∀t∈fn.params.toList,P.readableRec t=true∧t<P.types.size) (hfn:∀ds:List (DataW H),ds.length=fn.params.toList.length→s.fn H ds={results:=[.lit (.bool true)],args:=ds})
 (hW:DataW.Whole enc P fn.params.toList s.vars false W args.toList ds gs before) (hc:Calls P f args W (RetT W true)) :
 Calls P f args W fun e W'=>∃v,e = .returned v∧s.post enc P fn false true false false W args v W':=by
 refine hc.mono fun e W' h=>?_
 obtain⟨he,bel⟩:=h
 subst he
 have hW':=hW
 obtain⟨p,q,hA,hV,rfl,hfz,hnd⟩:=hW
 rw[hvars] at hV
 obtain⟨rfl,rfl⟩:=trodVars_none hV
 have hfd:=hfn ds (Q8j hA)
 refine⟨_,rfl,ds,[],p++[],[],p,[],hW',?_,?_,?_,bel.frame _,fun h=>by cases h⟩
 · rw[hrt,List.append_nil,hfd]
   exact trodAll_mk1 (shut_bool htb _)
 · rw[List.append_nil,hfd]
   exact Q6z hl bel hr hA
 · rw[hvars,List.append_nil,hfd]
   rfl
end
end Go.Proofs.YtgdjkkapgghdbaaGreatDoor
namespace Go.Proofs.YtgdjkkapgghdbaaGreatDoor
open Go.RowKit Go.ChangeShapes Go.WideShapes Go.ChangeAt Go.Deep
def DecV{α : Type}(P:Program)(t:TypeId)(sz:Nat)(g:α→List PV)(Good:α→Prop):Prop:=
 P.cellsOf t=sz∧∀(H:Type) (enc:TypeId×Value→H) (w:World) (base:Nat) (spare:Nat→Bool) (held:Bool) (fuel:Nat) (cs:List Value) (x:DataW H×List MemPlace),
  DataW.trod enc P w base spare held fuel t cs=some x→∃a,cs.length=sz∧(g a).length=sz∧(∀(j:Nat) (u:Value) (y:PV),cs[j]? = some u→(g a)[j]? = some y→RVp (fun _=>True) w u y)∧Good a
theorem Dec.toV{α : Type}{P:Program}{t:TypeId}{sz:Nat}{f:α→List Value}{G:α→Prop}(h:Dec P t sz f G)(hf:∀a,(f a).length=sz)(ho:∀a,∀u∈f a,u.oneCell'=true):DecV P t sz (fun a=>(f a).map .v) G:=
 ⟨h.1,fun H enc w base spare held fuel cs x hx=>by
   obtain⟨a,rfl,ga⟩:=h.2 H enc w base spare held fuel cs x hx
   refine⟨a,hf a,by simp[hf],fun j u y hu hy=>?_,ga⟩
   rw[List.getElem?_map,hu] at hy
   cases hy
   exact .v u (ho a u (List.mem_of_getElem? hu))⟩
theorem DecV.map{α β : Type}{P:Program}{t:TypeId}{sz:Nat}{g:α→List PV}{G:α→Prop}(h:DecV P t sz g G){g':β→List PV}{G':β→Prop}(hg:∀a,G a→∃b,g a=g' b∧G' b):DecV P t sz g' G':=
 ⟨h.1,fun H enc w base spare held fuel cs x hx=>by
   obtain⟨a,h1,h2,h3,ga⟩:=h.2 H enc w base spare held fuel cs x hx
   obtain⟨b,e,gb⟩:=hg a ga
   exact⟨b,h1,by rw[←e];exact h2,by rw[←e];exact h3,gb⟩⟩
theorem Q6d{α : Type}{P:Program}{t e:TypeId}{sz:Nat}{g:α→List PV}{G:α→Prop}(ht:P.underlying t=some (.slice e))(hc:P.cellsOf t=1)(he:DecV P e sz g G)(hs:0<sz)(hgl:∀a,(g a).length=sz) :
 DecV P t 1 (fun l:List α=>[PV.sl false sz l.length (l.flatMap g)]) (fun l=>l.length≤maxLen∧∀a∈l,G a):=
 ⟨hc,fun H enc w base spare held fuel cs x hx=>by
   rcases DataW.trod_slice ht hx with⟨rfl,_⟩|⟨a,n,c,elems,rest,m,_,rfl,_,_,hl,hm,hel,hi,_,_⟩
   · refine⟨[],rfl,rfl,fun j u y hu hy=>?_,Nat.zero_le _,by simp⟩
     cases j with
     |zero=>
      simp only[List.getElem?_cons_zero,Option.some.injEq] at hu hy
      subst hu hy
      exact .sl false sz none 0 0 [] [] (Nat.le_refl _) (Nat.zero_le _) (fun _=>rfl) (fun h=>by cases h) rfl (by simp) (fun h=>absurd rfl h) fun j u x hu=>by cases hu
     |succ j=>simp at hu
   · have key:∀i,i<n→∃b:α,G b∧∃us:List Value,us.length=sz∧(∀j,j<sz→w.cell? (a.add (i*sz+j))=us[j]?)∧∀(j:Nat) (u:Value) (y:PV),us[j]? = some u→(g b)[j]? = some y→RVp (fun _=>True) w u y:=by
      intro i hin
      have h1:=hi i hin
      rw[List.getElem?_eq_getElem (by omega)] at h1
      obtain⟨us,hcs,htr⟩:=Option.bind_eq_some_iff.1 h1
      rw[he.1] at hcs
      obtain⟨b,hb1,hb2,hb3,hG⟩:=he.2 H enc w base spare held m us _ htr
      obtain⟨_,hcl,hat⟩:=World.cells?_some hcs
      refine⟨b,hG,us,hb1,fun j hj=>?_,hb3⟩
      rw[←Go.Deep.add_add,hat j hj]
     have key2:∃l:List α,l.length=n∧∀i b,l[i]? = some b→G b∧∃us:List Value,us.length=sz∧(∀j,j<sz→w.cell? (a.add (i*sz+j))=us[j]?)∧∀(j:Nat) (u:Value) (y:PV),us[j]? = some u→(g b)[j]? = some y→RVp (fun _=>True) w u y:=
      Q6w (p:=fun i b=>G b∧∃us:List Value,us.length=sz∧(∀j,j<sz→w.cell? (a.add (i*sz+j))=us[j]?)∧∀(j:Nat) (u:Value) (y:PV),us[j]? = some u→(g b)[j]? = some y→RVp (fun _=>True) w u y) n key
     obtain⟨l,hll,hp⟩:=key2
     have hcell:∀j,j<n*sz→∃u,w.cell? (a.add j)=some u∧∀y,(l.flatMap g)[j]? = some y→RVp (fun _=>True) w u y:=fun j hjl=>by
      have hq:j/sz<n:=Nat.div_lt_of_lt_mul (by rw[Nat.mul_comm];exact hjl)
      have hr:j%sz<sz:=Nat.mod_lt _ hs
      have hj:j=j/sz*sz+j%sz:=by rw[Nat.mul_comm];exact(Nat.div_add_mod j sz).symm
      have hk:l[j/sz]? = some (l[j/sz]'(by omega)):=List.getElem?_eq_getElem (by omega)
      obtain⟨_,us,hul,hc1,hrv⟩:=hp _ _ hk
      have h1:=hc1 _ hr
      rw[←hj,List.getElem?_eq_getElem (by omega)] at h1
      refine⟨_,h1,fun y hy=>hrv (j%sz) _ y (List.getElem?_eq_getElem (by omega)) ?_⟩
      have h2:=Q5g hgl hk
      have h3:((l.flatMap g).drop (j/sz*sz)).take sz=g (l[j/sz]'(by omega)):=h2
      rw[←h3,List.getElem?_take,if_pos hr,List.getElem?_drop,←hj]
      exact hy
     have hus:∃us:List Value,us.length=n*sz∧∀j u,us[j]? = some u→w.cell? (a.add j)=some u∧∀y,(l.flatMap g)[j]? = some y→RVp (fun _=>True) w u y:=
      Q6w (p:=fun j u=>w.cell? (a.add j)=some u∧∀y,(l.flatMap g)[j]? = some y→RVp (fun _=>True) w u y) (n*sz) hcell
     obtain⟨us,husl,hu⟩:=hus
     have hfl:(l.flatMap g).length=n*sz:=by rw[Q0r hgl,hll]
     refine⟨l,rfl,rfl,fun j u y hu0 hy=>?_,by omega,fun b hb=>?_⟩
     · cases j with
       |zero=>
        simp only[List.getElem?_cons_zero,Option.some.injEq] at hu0 hy
        subst hu0 hy
        rw[hll]
        refine .sl false sz (some a) n c us _ hl hm (fun h=>by cases h) (fun h=>by cases h) (by rw[husl,hfl]) hfl (fun hne=>?_) fun j u x hj hx=>(hu j u hj).2 x hx
        obtain⟨u0,rest0,hu0⟩:=List.exists_cons_of_ne_nil hne
        have hc0:=(hu 0 u0 (by rw[hu0];rfl)).1
        rw[add_zero'] at hc0
        have hspot:=World.cell?_spot hc0
        obtain⟨ab,ao,asp⟩:=a
        simp only at hspot
        subst hspot
        exact⟨ab,ao,rfl,trivial,fun j u hj=>by have:=(hu j u hj).1;rwa [Q1r] at this⟩
       |succ j=>simp at hu0
     · obtain⟨i,hi'⟩:=List.mem_iff_getElem?.1 hb
       exact(hp i b hi').1⟩
theorem X3t{P:Program}{t:TypeId}{k:IntKind}(ht:P.underlying t=some (.int k))(hc:P.cellsOf t=1):DecV P t 1 (fun n:Int=>[PV.v (.int k n)]) (fun n=>(Lit.int k n).wf=true):=
 ((dec_int ht hc).toV (fun _=>rfl) (fun a u hu=>by simp at hu;subst hu;rfl)).map fun a ga=>⟨a,rfl,ga⟩
theorem decV_u64{P:Program}{t:TypeId}(ht:P.underlying t=some (.int .u64))(hc:P.cellsOf t=1):DecV P t 1 (fun n:Int=>[PV.v (.int .u64 n)]) (fun n=>0≤n∧n≤18446744073709551615):=
 (X3t ht hc).map fun a ga=>⟨a,rfl,by have:=wf_u64 ga;omega⟩
theorem decV_w4{P:Program}{t e:TypeId}(ht:P.underlying t=some (.array 4 e))(hc:P.cellsOf t=4*1)(he:P.underlying e=some (.int .u64))(hce:P.cellsOf e=1) :
 DecV P t 4 (fun x:Int×Int×Int×Int=>[PV.v (.int .u64 x.1),.v (.int .u64 x.2.1),.v (.int .u64 x.2.2.1),.v (.int .u64 x.2.2.2)]) (fun x=>(0≤x.1∧x.1≤18446744073709551615)∧(0≤x.2.1∧x.2.1≤18446744073709551615)∧(0≤x.2.2.1∧x.2.2.1≤18446744073709551615)∧(0≤x.2.2.2∧x.2.2.2≤18446744073709551615)):=
 ((dec_map (f':=fun x:Int×Int×Int×Int=>[.int .u64 x.1,.int .u64 x.2.1,.int .u64 x.2.2.1,.int .u64 x.2.2.2]) (G':=fun x=>(0≤x.1∧x.1≤18446744073709551615)∧(0≤x.2.1∧x.2.1≤18446744073709551615)∧(0≤x.2.2.1∧x.2.2.1≤18446744073709551615)∧(0≤x.2.2.2∧x.2.2.2≤18446744073709551615)) (dec_arr (n:=4) ht hc (by omega) (dec_u64 he hce) (fun _=>rfl)) fun l ⟨hl,hg⟩=>by
   match l,hl with
   |[x,y,z,u],_=>
    have h1:=hg x (by simp)
    have h2:=hg y (by simp)
    have h3:=hg z (by simp)
    have h4:=hg u (by simp)
    exact⟨(x,y,z,u),by simp[sts],⟨by simp only;omega,by simp only;omega⟩,⟨by simp only;omega,by simp only;omega⟩,⟨by simp only;omega,by simp only;omega⟩,⟨by simp only;omega,by simp only;omega⟩⟩).toV (fun _=>rfl) (fun a u hu=>by simp at hu;rcases hu with rfl|rfl|rfl|rfl<;>rfl)).map fun a ga=>⟨a,rfl,ga⟩
open Go.RowKit Go.ChangeShapes Go.WideShapes Go.ChangeAt Go.Deep
def DecF{α : Type}(P:Program)(fs:List Field)(o sz:Nat)(g:α→List PV)(Good:α→Prop):Prop:=
 ∀(H:Type) (enc:TypeId×Value→H) (w:World) (base:Nat) (spare:Nat→Bool) (held:Bool) (fuel:Nat) (cs:List Value),o+sz≤cs.length →
  (∀f∈fs,∃x:DataW H×List MemPlace,DataW.trod enc P w base spare held fuel f.type ((cs.drop f.offset).take (P.cellsOf f.type))=some x) →
  ∃a,(g a).length=sz∧(∀(j:Nat) (u:Value) (y:PV),cs[o+j]? = some u→(g a)[j]? = some y→RVp (fun _=>True) w u y)∧Good a
theorem Q9i{α : Type}{P:Program}{f:Field}{o sz:Nat}{g:α→List PV}{G:α→Prop}(h:DecV P f.type sz g G)(ho:f.offset=o):DecF P [f] o sz g G:=by
 intro H enc w base spare held fuel cs hlen hf
 obtain⟨x,hx⟩:=hf f (by simp)
 rw[ho,h.1] at hx
 obtain⟨a,a1,a2,a3,ga⟩:=h.2 H enc w base spare held fuel _ _ hx
 refine⟨a,a2,fun j u y hu hy=>a3 j u y ?_ hy,ga⟩
 have hj:=(List.getElem?_eq_some_iff.1 hy).1
 rw[List.getElem?_take,if_pos (by omega),List.getElem?_drop]
 exact hu
theorem Q2t{α β : Type}{P:Program}{f:Field}{fs:List Field}{o s0 s1:Nat}{g:α→List PV}{g':β→List PV}{G:α→Prop}{G':β→Prop}(h:DecV P f.type s0 g G)(ho:f.offset=o)(hr:DecF P fs (o+s0) s1 g' G') :
 DecF P (f::fs) o (s0+s1) (fun x:α×β=>g x.1++g' x.2) (fun x=>G x.1∧G' x.2):=by
 intro H enc w base spare held fuel cs hlen hf
 obtain⟨a,a2,a3,ga⟩:=Q9i h ho H enc w base spare held fuel cs (by omega) (fun f' hf'=>hf f' (by simp at hf';simp[hf']))
 obtain⟨b,b2,b3,gb⟩:=hr H enc w base spare held fuel cs (by omega) (fun f' hf'=>hf f' (by simp[hf']))
 refine⟨(a,b),by simp[a2,b2],fun j u y hu hy=>?_,ga,gb⟩
 dsimp only at hy
 rw[List.getElem?_append] at hy
 split at hy
 · exact a3 j u y hu hy
 · exact b3 (j-(g a).length) u y (by rw[a2,show o+s0+(j-s0)=o+j by omega];exact hu) hy
theorem Q6v{α : Type}{P:Program}{t:TypeId}{fs:Array Field}{sz:Nat}{g:α→List PV}{G:α→Prop}(ht:P.underlying t=some (.struct fs))(hc:P.cellsOf t=sz)(h:DecF P fs.toList 0 sz g G):DecV P t sz g G:=
 ⟨hc,fun H enc w base spare held fuel cs x hx=>by
   obtain⟨xs,n,_,_,hlen,hxl,hf⟩:=DataW.trod_struct ht hx
   rw[hc] at hlen
   obtain⟨a,a2,a3,ga⟩:=h H enc w base spare held n cs (by omega) (fun f hf'=>by
    obtain⟨k,hk⟩:=List.mem_iff_getElem?.1 hf'
    have hk':fs[k]? = some f:=by rw[←Array.getElem?_toList];exact hk
    have h1:=hf k f hk'
    have hlt:=(Array.getElem?_eq_some_iff.1 hk').1
    rw[List.getElem?_eq_getElem (by omega)] at h1
    exact⟨_,h1⟩)
   exact⟨a,hlen,a2,fun j u y hu hy=>a3 j u y (by rw[Nat.zero_add];exact hu) hy,ga⟩⟩
theorem open_VA{H:Type}{enc:TypeId×Value→H}{α : Type}{P:Program}{t:TypeId}{sz:Nat}{g:α→List PV}{G:α→Prop}{w:World}{base:Nat}{spare:Nat→Bool}{held:Bool}{cs:Array Value}{d:DataW H}{ps:List MemPlace}(h:DecV P t sz g G)(ht:DataW.Trod enc P w base spare held t (.agg cs) d ps)(ι : Nat→Nat×Nat×Nat) :
 ∃a,RV (fun _=>True) ι w (.agg cs) (.agg ((g a).map .c))∧G a:=by
 obtain⟨fuel,ht⟩:=ht
 obtain⟨a,a1,a2,a3,ga⟩:=h.2 H enc w base spare held fuel _ _ ht
 have e:(Value.agg cs).cells.toList=cs.toList:=rfl
 rw[e] at a1 a3
 refine⟨a,?_,ga⟩
 have hc:cs=cs.toList.toArray:=by simp
 rw[hc]
 have key:∀(j:Nat) (u:Value) (y:PV),cs.toList[j]? = some u→(g a)[j]? = some y→RVp (fun _=>True) w u y:=a3
 refine .agg cs.toList _ (by rw[List.length_map,a1,a2]) (fun u hu=>?_) fun j u x hu hx=>?_
 · obtain⟨j,hj⟩:=List.mem_iff_getElem?.1 hu
   have hlt:=(List.getElem?_eq_some_iff.1 hj).1
   exact(key j u _ hj (List.getElem?_eq_getElem (by omega))).one
 · rw[List.getElem?_map,Option.map_eq_some_iff] at hx
   obtain⟨y,hy,rfl⟩:=hx
   exact .c _ _ (key j u y hu hy)
theorem Q7l{P:Program}{w:World}{r:Reach}{base:Nat}{t:TypeId}{fs:Array Field}{v:Value}(ht:P.underlying t=some (.struct fs))(h:Value.okWide P w r base t v):∃cs,v = .agg cs:=by
 simp only[Value.okWide,ht] at h
 obtain⟨cs,h1,_⟩:=h
 exact⟨cs,h1⟩
end Go.Proofs.YtgdjkkapgghdbaaGreatDoor
namespace Go.Proofs.YtgdjkkapgghdbaaGreatDoor
open Go.RowKit
theorem word_of{a b c d:Int}(ha:0≤a∧a≤18446744073709551615)(hb:0≤b∧b≤18446744073709551615)(hc:0≤c∧c≤18446744073709551615)(hd:0≤d∧d≤18446744073709551615):∃n:Nat,n<WW∧l0 n=a∧l1 n=b∧l2 n=c∧l3 n=d:=by
 refine⟨a.toNat+18446744073709551616*(b.toNat+18446744073709551616*(c.toNat+18446744073709551616*d.toNat)),?_,?_⟩
 · show _<115792089237316195423570985008687907853269984665640564039457584007913129639936
   omega
 · obtain⟨h0,h1,h2,h3⟩:=Q9f (s0:=a.toNat) (s1:=b.toNat) (s2:=c.toNat) (s3:=d.toNat) rfl (by omega) (by omega) (by omega) (by omega)
   rw[h0,h1,h2,h3]
   exact⟨Int.toNat_of_nonneg ha.1,Int.toNat_of_nonneg hb.1,Int.toNat_of_nonneg hc.1,Int.toNat_of_nonneg hd.1⟩
def wpv(n:Nat):List PV:=[.v (.int .u64 (l0 n)),.v (.int .u64 (l1 n)),.v (.int .u64 (l2 n)),.v (.int .u64 (l3 n))]
theorem X6k:DecV Tryz.prog 35 4 wpv (fun n=>n<WW):=
 (decV_w4 Tryz.underlying35 (by kernel_rfl) Tryz.underlying22 (by kernel_rfl)).map fun x hx=>by
   obtain⟨n,hn,h0,h1,h2,h3⟩:=word_of hx.1 hx.2.1 hx.2.2.1 hx.2.2.2
   exact⟨n,by unfold wpv;rw[h0,h1,h2,h3],hn⟩
theorem Q5u:DecV Tryz.prog 23 1 apv U:=(decV_u64 Tryz.underlying23 (by kernel_rfl)).map fun a ga=>⟨a,rfl,ga⟩
theorem Z1n:DecV Tryz.prog 25 1 (fun l:List Int=>[PV.sl false 1 l.length (l.flatMap apv)]) (fun l=>l.length≤maxLen∧∀a∈l,U a):=
 Q6d Tryz.underlying25 (by kernel_rfl) Q5u (by omega) Q3e
theorem X6m:DecV Tryz.prog 5 1 bpv (fun n=>n<256):=(X3t Tryz.underlying5 (by kernel_rfl)).map fun a ga=>⟨a.toNat,by unfold bpv;rw[Int.toNat_of_nonneg (wf_u8 ga).1],by have:=wf_u8 ga;omega⟩
theorem Z1m:DecV Tryz.prog 56 1 (fun l:List Nat=>[PV.sl false 1 l.length (l.flatMap bpv)]) (fun l=>l.length≤maxLen∧∀a∈l,a<256):=
 Q6d Tryz.underlying56 (by kernel_rfl) X6m (by omega) Q3d
end Go.Proofs.YtgdjkkapgghdbaaGreatDoor
namespace Go.Proofs.YtgdjkkapgghdbaaGreatDoor
open Go.RowKit
set_option maxRecDepth 20000
theorem X5t{P:Program}{w:World}{t e:TypeId}{N fuel:Nat}{k:IntKind}{cs:List Value}{L:List Int}{p:List MemPlace}(ht:P.underlying t=some (.array N e))(he:P.underlying e=some (.int k))(hc:P.cellsOf e=1)(hN:L.length=N)
 (hd:DataW.trod (fun _=>()) P w 0 (fun _=>true) false fuel t cs=some (.agg (L.map fun n=>.lit (.int k n)),p)):∀(j:Nat) (n:Int),L[j]? = some n→cs[j]? = some (Value.int k n):=by
 obtain⟨xs,m,_,ex,_,hl,hel⟩:=DataW.trod_array ht hd
 intro j n hj
 have hjN:j<N:=by rw[←hN];exact(List.getElem?_eq_some_iff.1 hj).1
 have hE:=hel j hjN
 rw[hc,Nat.mul_one,List.getElem?_eq_getElem (by omega)] at hE
 obtain⟨z,e1,e2,_⟩:=DataW.trod_int he hE
 have e3:xs.map (·.1)=L.map fun n=>.lit (.int k n):=(DataW.agg.inj (Prod.mk.inj ex).1).symm
 have e4:(xs.map (·.1))[j]? = (L.map fun n=>(DataW.lit (.int k n):DataW Unit))[j]?:=by rw[e3]
 rw[List.getElem?_map,List.getElem?_map,List.getElem?_eq_getElem (by omega:j<xs.length),hj,e2] at e4
 have hz:z=n:=by
  simp only[Option.map_some,Option.some.injEq,DataW.lit.injEq,Lit.int.injEq,true_and] at e4
  exact e4
 have h0:((cs.drop j).take 1)[0]? = some (.int k z):=by rw[e1];rfl
 rw[←hz]
 simpa using h0
theorem globs_ok{W:World}(h:laidMetH Tryz.prog Rows.rulesStakesRow.laid W):GlobOK W (fun _=>True) (fun _=>(0,0,0)) []:=by
 rw[MakeChecks.laidMetH_plain _ _ _ (by kernel_rfl)] at h
 obtain⟨ps,⟨g,t,cs,fuel,p,q,hg,ht,hv,hd,⟨g',t',cs',fuel',p',q',hg',ht',hv',hd',_,_⟩,_⟩,_,_⟩:=h
 obtain rfl:=Option.some.inj ((show Tryz.prog.globalNamed "sheafer/sponge.turns"=some 1 by kernel_rfl).symm.trans hg)
 obtain rfl:=Option.some.inj ((show(Tryz.prog.globals[1]?).map (·.type)=some 226 by kernel_rfl).symm.trans ht)
 obtain rfl:=Option.some.inj ((show Tryz.prog.globalNamed "sheafer/sponge.numbers"=some 0 by kernel_rfl).symm.trans hg')
 obtain rfl:=Option.some.inj ((show(Tryz.prog.globals[0]?).map (·.type)=some 218 by kernel_rfl).symm.trans ht')
 have k1:=X5t (L:=X1g) Tryz.underlying226 Tryz.underlying3 (by kernel_rfl) rfl hd
 have k2:=X5t (L:=Z1e) Tryz.underlying218 Tryz.underlying22 (by kernel_rfl) rfl hd'
 intro g cs0 hgl
 unfold globV globs at hgl
 simp only[List.find?_cons,List.find?_nil] at hgl
 split at hgl
 · rename_i e
   have e:0=g:=by simpa using e
   subst e
   cases hgl
   refine⟨trivial,fun r hr=>(by cases hr),by decide,by decide,fun j u hu=>?_⟩
   rw[World.var?_cell hg' hv' j]
   rw[List.getElem?_map] at hu
   cases hj:Z1e[j]? with
   |none=>rw[hj] at hu;cases hu
   |some n=>
    rw[hj] at hu
    cases hu
    have:=k2 j n hj
    simpa using this
 · split at hgl
   · rename_i e
     have e:1=g:=by simpa using e
     subst e
     cases hgl
     refine⟨trivial,fun r hr=>(by cases hr),by decide,by decide,fun j u hu=>?_⟩
     rw[World.var?_cell hg hv j]
     rw[List.getElem?_map] at hu
     cases hj:X1g[j]? with
     |none=>rw[hj] at hu;cases hu
     |some n=>
      rw[hj] at hu
      cases hu
      have:=k1 j n hj
      simpa using this
   · cases hgl
theorem decV_bool{P:Program}{t:TypeId}(ht:P.underlying t=some .bool)(hc:P.cellsOf t=1):DecV P t 1 (fun b:Bool=>[PV.v (.bool b)]) (fun _=>True):=
 ⟨hc,fun H enc w base spare held fuel cs x hx=>by
   obtain⟨b,h,_⟩:=DataW.trod_bool ht hx
   subst h
   refine⟨b,rfl,rfl,fun j u y hu hy=>?_,trivial⟩
   cases j with
   |zero=>simp at hu hy;subst hu hy;exact .v _ rfl
   |succ j=>simp at hu⟩
theorem X3u:DecV Tryz.prog 3 1 (fun n:Int=>[PV.v (.int .i64 n)]) (fun n=>(Lit.int IntKind.i64 n).wf=true):=X3t Tryz.underlying3 (by kernel_rfl)
theorem decV_ev:DecV Tryz.prog 58 14 Ev.pv Ev.raw:=
 (Q6v (sz:=1+(1+(1+(1+(1+(4+(4+1))))))) Tryz.underlying58 (by kernel_rfl) (Q2t X3u rfl (Q2t X3u rfl (Q2t Q5u rfl (Q2t Q5u rfl (Q2t X6m rfl (Q2t X6k rfl (Q2t X6k rfl (Q9i Z1m rfl))))))))).map fun x hx=>
   ⟨⟨x.1,x.2.1,x.2.2.1,x.2.2.2.1,x.2.2.2.2.1,x.2.2.2.2.2.1,x.2.2.2.2.2.2.1,x.2.2.2.2.2.2.2⟩,rfl,⟨hx.2.2.2.2.2.1,hx.2.2.2.2.2.2.1,hx.2.2.2.2.2.2.2.1,hx.2.2.2.2.2.2.2.2,hx.2.2.1,hx.2.2.2.1⟩⟩
theorem decV_evs:DecV Tryz.prog 52 1 (fun l:List Ev=>[PV.sl false 14 l.length (l.flatMap Ev.pv)]) (fun l=>l.length≤maxLen∧∀e∈l,e.raw):=
 Q6d Tryz.underlying52 (by kernel_rfl) decV_ev (by omega) X6e
theorem decV_ph:DecV Tryz.prog 54 4 Ph.pv Ph.raw:=
 (Q6v (sz:=1+(1+(1+1))) Tryz.underlying54 (by kernel_rfl) (Q2t X3u rfl (Q2t Q5u rfl (Q2t (decV_bool Tryz.underlying4 (by kernel_rfl)) rfl (Q9i decV_evs rfl))))).map fun x hx=>
   ⟨⟨x.1,x.2.1,x.2.2.1,x.2.2.2⟩,rfl,⟨hx.2.1,hx.2.2.2.1,hx.2.2.2.2⟩⟩
theorem decV_phs:DecV Tryz.prog 24 1 (fun l:List Ph=>[PV.sl false 4 l.length (l.flatMap Ph.pv)]) (fun l=>l.length≤maxLen∧∀p∈l,p.raw):=
 Q6d Tryz.underlying24 (by kernel_rfl) decV_ph (by omega) X1q
def Cs.pv(c:Cs):List PV:=[.v (.int .u64 c.snd),.sl false 4 c.ph.length (c.ph.flatMap Ph.pv),.sl false 1 c.cd.length (c.cd.flatMap apv)]
theorem X6l:DecV Tryz.prog 27 3 Cs.pv Cs.raw:=
 (Q6v (sz:=1+(1+1)) Tryz.underlying27 (by kernel_rfl) (Q2t Q5u rfl (Q2t decV_phs rfl (Q9i Z1n rfl)))).map fun x hx=>
   ⟨⟨x.1,x.2.1,x.2.2⟩,rfl,⟨hx.1,hx.2.1,hx.2.2.1,hx.2.2.2⟩⟩
end Go.Proofs.YtgdjkkapgghdbaaGreatDoor
namespace Go.Proofs.YtgdjkkapgghdbaaGreatDoor
open Go.RowKit
theorem may_all(D:Cs)(hD:D.ok):∃b,Fn Tryz.prog 10 [csA D] [] (vb b) []∧Fn Tryz.prog 16 [csA D] [] (vi .i64 (if b then 0 else 320)) []∧(b=false→Fn Tryz.prog 17 [csA D] [] nilA [])∧(b=true→∃r,Fn Tryz.prog 17 [csA D] [] (asl false r) []∧Fn Tryz.prog 19 [csA D] [] (asl false r) []∧Fn Tryz.prog 18 [asl false r,asl false r] [] (vb true) []):=by
 refine⟨Q5i D,X7a D hD,Q9t D hD,X7x D hD,fun h=>?_⟩
 obtain⟨r,h1,h2,h3⟩:=Q8r D hD h
 have e:=rents_fn D hD
 have el:=Q8z (whoL D.ph) (whoL D.ph).length
 rw[Q5w] at el
 have ei:=res_uniq h1 h2
 rw[Q5w] at ei e
 rw[ei] at e el
 have:=hD.2.1.1
 have s:=X2k false false r r (by omega) (by omega)
 rw[decide_eq_true rfl] at s
 exact⟨r,h3,e,s⟩
theorem rmay_fn(x y:Cs)(hx:x.raw)(hy:y.raw):Fn Tryz.prog 4 [csA x,csA y] [] (vb true) []:=by
 have s3:=X8q (cutC x) (cutC x) (Q5v hx) (Q5v hx)
 rw[decide_eq_true rfl] at s3
 exact may_fnE x y (cutC x) (cutC y) (few_fn x hx) (few_fn y hy) (may_all _ (Q5v hx)) (may_all _ (Q5v hy)) _ (X8q (cutC x) (cutC y) (Q5v hx) (Q5v hy)) (Z0s (cutC x) (cutC y) (Q5v hx) (Q5v hy)) s3
theorem law_may{x y:Cs}{v u:Value}{W:World}(hL:laidMetH Tryz.prog Rows.rulesMayRow.laid W)(h1:RV (fun _=>True) (fun _=>(0,0,0)) W v (.agg (x.pv.map .c)))(g1:x.raw)(h2:RV (fun _=>True) (fun _=>(0,0,0)) W u (.agg (y.pv.map .c)))(g2:y.raw):Calls Tryz.prog 4 #[v,u] W (RetT W true):=by
 refine Fn.law (rmay_fn x y g1 g2) (vs:=[_,_]) rfl (fun j v x hj hx=>?_) (globs_ok hL)
 rcases j with _|_|j
 · cases hj;cases hx;exact h1
 · cases hj;cases hx;exact h2
 · simp at hj
end Go.Proofs.YtgdjkkapgghdbaaGreatDoor
namespace Go.Proofs.YtgdjkkapgghdbaaGreatDoor.rulesMayDone
open Go.RowKit Go.ChangeShapes Go.WideShapes Go.ChangeAt
theorem own:ownKnob Tryz.prog.godebug=none:=by kernel_rfl
theorem laidOut:laidOutB Tryz.prog=true:=by kernel_rfl
theorem reads:∀t∈Tryz.f4.params.toList,Tryz.prog.readableRec t=true∧t<Tryz.prog.types.size:=by
 rw[Tryz.params4]
 intro t ht
 simp only[List.mem_cons,List.not_mem_nil,or_false] at ht
 rcases ht with rfl|rfl
 · exact⟨by kernel_rfl,of_decide_eq_true (by kernel_rfl)⟩
 · exact⟨by kernel_rfl,of_decide_eq_true (by kernel_rfl)⟩
set_option maxRecDepth 100000 in
theorem lifted(os:Os)(started:os.Started)(H:Type)(enc:TypeId×Value→H) :
 ReturnsInHanded {} Tryz.checked os 4 .any (fun w args=>(Rows.rulesMaySpec.pre enc Tryz.prog Tryz.f4 Rows.rulesMayRow.domain false w args∧laidMetH Tryz.prog Rows.rulesMayRow.laid w)∧sizedMet enc Tryz.prog Tryz.f4 (OpenSpec.ofChange Rows.rulesMaySpec) false w args)
  (Rows.rulesMaySpec.post enc Tryz.prog Tryz.f4 false true false false):=by
 refine returnsInHanded_of_change_and (C:=Tryz.checked) (X:=fun w _=>laidMetH Tryz.prog Rows.rulesMayRow.laid w) (fun _ _ _ hh h=>h.of_heap hh) own started (by kernel_rfl) Tryz.func4
  (ChangeSpec.witness_shaped (enc:=enc) (C:=Tryz.checked) (os:=os) (X:=fun w _=>laidMetH Tryz.prog Rows.rulesMayRow.laid w) false (World.laidAll Tryz.prog os Rows.rulesMayRow.laid) #[.agg #[.int .u64 0,.slice none 0 0,.slice none 0 0],.agg #[.int .u64 0,.slice none 0 0,.slice none 0 0]] 8 (World.laidAll_os _ _ _)
    (World.shaped_of_ZipB (by kernel_rfl) (by kernel_rfl)) (by kernel_rfl) (by kernel_rfl) (by kernel_rfl)
    (by rw[MakeChecks.laidMetH_plain _ _ _ (by kernel_rfl)];exact laidMet_laidAll _ (by kernel_rfl) (by kernel_rfl))) ?_
 intro W base args ds gs before hval0 hW hc _ hL _
 have hval:∀(j:Nat) t v,Tryz.f4.params[j]? = some t→args[j]? = some v→Value.okWide Tryz.prog W .any base t v:=hval0
 refine law_post (P:=Tryz.prog) laidOut rfl Tryz.underlying4 rfl reads (fun ds hds=>by
  match ds,hds with
  |[d1,d2],_=>rfl) hW ?_
 obtain⟨p,q,hA0,hV,rfl,hfz,hnd⟩:=hW
 have hA:DataW.TrodAll enc Tryz.prog W 0 (fun _=>true) true Tryz.f4.params.toList args.toList ds p:=hA0
 rw[Tryz.params4] at hA hval
 obtain⟨v0,vs0,d0,ds0,p0,q0,hargs,rfl,rfl,h0,r0⟩:=trodAll_cons hA
 obtain⟨v1,vs1,d1,ds1,p1,q1,rfl,rfl,rfl,h1,r1⟩:=trodAll_cons r0
 obtain⟨rfl,rfl,rfl⟩:=trodAll_nil r1
 obtain rfl:args = #[v0,v1]:=by cases args;simp_all
 obtain⟨cs0,rfl⟩:=Q7l Tryz.underlying27 (hval 0 27 v0 rfl rfl)
 obtain⟨l0,hr0,hg0⟩:=open_VA X6l h0 (fun _=>(0,0,0))
 obtain⟨cs1,rfl⟩:=Q7l Tryz.underlying27 (hval 1 27 v1 rfl rfl)
 obtain⟨l1,hr1,hg1⟩:=open_VA X6l h1 (fun _=>(0,0,0))
 exact law_may hL hr0 hg0 hr1 hg1
theorem over:Rows.rulesMayRow.holds Tryz.pinned (OpenSpec.ofChange Rows.rulesMaySpec):=
 OpenClaim.holds_of_wide 4 Tryz.f4 rfl rfl rfl rfl rfl rfl rfl ⟨rfl,rfl,rfl,rfl,rfl⟩ rfl rfl rfl rfl rfl (by kernel_rfl) Tryz.func4 (by kernel_rfl)
  (of_decide_eq_true (by kernel_rfl)) (by unfold Func.isWrapper;first|(rw[if_neg (by decide +kernel)];exact⟨rfl,rfl⟩))
  (fun os started H enc _=>lifted os started H enc)
theorem proved:Rows.RulesMayCardSaid:=
 Claim7.holds_tied_plain_at .later [] [.data,.data] true (true,"a150a5b31adb93ccbb9ef4361850544d6216e7c5fd079ae8296263779298e5e9") false over (fun _ h=>by cases h) (by kernel_rfl) (fun _ h=>by cases h) rulesMay_row_tie rfl ⟨rfl,rfl⟩ (by kernel_rfl) rfl
  (fun f fn hf hfn=>by
    obtain rfl:f=4:=Option.some.inj ((show Tryz.prog.funcNamed "sheafer/sheaferlaw22.RulesMay"=some 4 by kernel_rfl).symm.trans hf) |>.symm
    obtain rfl:fn=Tryz.f4:=(Option.some.inj (Tryz.func4.symm.trans hfn)).symm
    exact⟨by kernel_rfl,fun j t ht=>by
     rw[Tryz.params4] at ht
     have hm:t∈[27]:=by simpa using Array.mem_of_getElem? ht
     have hall:([27].all fun u=>!Tryz.prog.wantsStandIn u)=true:=by kernel_rfl
     exact(show Tryz.prog.wantsStandIn t=false by simpa using List.all_eq_true.1 hall t hm)⟩)
  (by kernel_rfl)
end Go.Proofs.YtgdjkkapgghdbaaGreatDoor.rulesMayDone
