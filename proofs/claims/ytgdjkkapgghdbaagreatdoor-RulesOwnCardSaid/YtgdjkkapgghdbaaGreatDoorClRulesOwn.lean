/-
  Proved: the tied card of the law RulesOwn: it answers true for every case, and row of spots, and its arguments read behind the call as before. Conditions: the package variables that the row lists hold what the program lays into them (tied to its text).
-/
import Derived.Test.YtgdjkkapgghdbaaGreatDoorGs
import Derived.Test.YtgdjkkapgghdbaaGreatDoorRld
import Derived.Test.YtgdjkkapgghdbaaGreatDoorRows
import Derived.Test.YtgdjkkapgghdbaaGreatDoorAvF
import Derived.ProofKit
import Derived.OpenShut
import Derived.ChangeOld
import Derived.Deep.Slices
import Derived.Test.YtgdjkkapgghdbaaGreatDoorAvO
import Derived.Test.YtgdjkkapgghdbaaGreatDoorYd
import Derived.Test.YtgdjkkapgghdbaaGreatDoorAvDn
import Derived.Test.YtgdjkkapgghdbaaGreatDoorTrf
import Derived.MakeChecks
import Derived.Test.YtgdjkkapgghdbaaGreatDoorTie
import Derived.Test.YtgdjkkapgghdbaaGreatDoorCards
import Derived.LaidMore
import Derived.Lay
import Derived.SevenTiedAt
import Derived.Stop.Joined
set_option linter.unusedSimpArgs false
set_option linter.unusedVariables false
namespace Go.Proofs.YtgdjkkapgghdbaaGreatDoor
open Go.RowKit
open Nat (reduceBEq)
attribute [-go_sem] IntKind.bits
set_option maxRecDepth 20000
set_option maxHeartbeats 4000000
def rphs(s:Int):List Ph→Int→Bool→Bool
 |[],_,sd=>sd
 |p::l,last,sd=>!(decide (p.role≤last)||(decide (p.role>3)||((p.who==0) || !trB p.tr)))&&rphs s l p.role (if (p.role==2)=true then(p.who==s) else sd)
theorem Q9v(s:Int):∀(l:List Ph) (last:Int) (sd:Bool),2≤last→rphs s l last sd=(phsB s l last&&sd)
 |[],_,_,_=>by simp[rphs,phsB]
 |p::l,last,sd,h=>by
  unfold rphs phsB phB
  by_cases hr:p.role≤last
  · rw[decide_eq_true hr];simp
  · have e2:(p.role==2)=false:=by rw[beq_eq_false_iff_ne];omega
    rw[e2,if_neg (by simp),Q9v s l p.role sd (by omega)]
    simp[Bool.and_assoc]
theorem X1s(s:Int):∀(l:List Ph) (last:Int),last<2→rphs s l last false=(phsB s l last&&l.any fun p=>p.role==2)
 |[],_,_=>by simp[rphs,phsB]
 |p::l,last,h=>by
  unfold rphs phsB phB
  by_cases e:p.role=2
  · have e2:(p.role==2)=true:=by rw[e];rfl
    rw[e2,if_pos rfl,Q9v s l p.role _ (by omega),List.any_cons,e2]
    have:(p.who != s) = !(p.who==s):=rfl
    rw[this]
    cases (p.who==s)<;>simp
  · have e2:(p.role==2)=false:=by rw[beq_eq_false_iff_ne];exact e
    rw[e2,if_neg (by simp),List.any_cons,e2]
    by_cases hl:p.role<2
    · rw[X1s s l p.role hl];simp[Bool.and_assoc]
    · rw[Q9v s l p.role _ (by omega)]
      have hn:∀(l:List Ph) (last:Int),2<last→(phsB s l last&&l.any fun p=>p.role==2)=false:=by
       intro l
       induction l with
       |nil=>intro last _;simp
       |cons q l ih=>
        intro last hla
        unfold phsB phB
        by_cases hq:q.role≤last
        · rw[decide_eq_true hq];simp
        · have e3:(q.role==2)=false:=by rw[beq_eq_false_iff_ne];omega
          rw[List.any_cons,e3,Bool.false_or,Bool.and_assoc,ih q.role (by omega),Bool.and_false]
      rw[Bool.and_false,Bool.and_false,Bool.false_or,Bool.and_assoc,hn l p.role (by omega),Bool.and_false]
theorem X7h(c:Cs)(hc:c.ok):Fn Tryz.prog 10 [csA c] [] (vb (Q4b c)) []:=by
 obtain⟨s,ph,cd⟩:=c
 obtain⟨hs,⟨hpl,hpo⟩,hcl,hco⟩:=hc
 dsimp only at hs hpl hpo hcl hco
 have so:=Z1d false cd (by omega)
 have hrl:=X2t cd cd.length
 have he:=sameA_fn false false cd (resD cd cd.length) (by omega) (by omega)
 have hra:=X9c cd cd.length (Nat.le_refl _)
 rw[X5f hra.1 fun x=>by rw[hra.2,List.take_length]] at he
 have e:Q4b ⟨s,ph,cd⟩=(rphs s ph 0 false&&X7m cd):=by
  rw[X1s s ph 0 (by decide),Bool.and_assoc];rfl
 rw[e]
 generalize resD cd cd.length=r at so he
 generalize X7m cd=b3 at he ⊢
 clear e hra hrl
 obtain⟨q,hq⟩:∃q,rphs s ph 0 false=q:=⟨_,rfl⟩
 rw[hq]
 (refine Q0z Tryz.func10 rfl (by rfl) ?_;simp only[Tryz.ntmps10,List.length_cons,List.length_nil,Nat.reduceAdd,Nat.reduceSub,List.replicate,List.cons_append,List.nil_append])
 (repeat(any_goals(first|((with_reducible refine Q0b ?_ ?_);rfl;intro K hK;simp only[go_sem];((repeat(refine ndI (by first|assumption) ?_));refine hK _ ?_;clear hK K))|(with_reducible first|(refine Q0c ?_;refine hR _ ?_;clear hR R)|((first|refine Q0d ?_|refine Q0f ?_);intro J hJ hJ')|(refine Q0a ?_;intro R hR)|(refine hJ _ ?_;clear hJ hJ' J)))))
 refine Q1t (α:={p:Nat×Int×Bool // p.1≤ph.length∧rphs s (ph.drop p.1) p.2.1 p.2.2=q}) (fun p=>⟨[.any,.ptr 1 0,vb false,vi .i64 p.1.2.1,vb p.1.2.2,.any,.any,.any,phs false ph,vi .i64 ph.length,vi .i64 (p.1.1:Int),.any,.any,.any,.any,.any,.any,.any,.any,.any,.any,.any,.any,.any,.any,.any,.any,.any,.any,.any,.any,.any,.any,.any,.any,.any,.any,.any,.any,.any,.any,.any,.any,.any,.any,.any,.any,.any,.any,.any,.any,.any,.any,.any],[(1,[vi .u64 s,phs false ph,asl false cd])]⟩) (fun p=>ph.length-p.1.1) ⟨(0,0,false),Nat.zero_le _,hq⟩ (St.le_of (by simp[leT]) (by simp[leH,hget])) ?_
 rintro ⟨⟨i,last,sd⟩,hi,hd⟩ J hJ hJ'
 (try dsimp only at hi hd hJ ⊢)
 rcases Nat.lt_or_ge i ph.length with hlt|hge
 · obtain⟨y,hy⟩:∃y,ph[i]? = some y:=⟨_,List.getElem?_eq_getElem hlt⟩
   have k1:(decide ((i:Int)<(ph.length:Int)))=true:=by simp;omega
   have k2:=X1e hy
   have k7:(i:Int)+1=((i+1:Nat):Int):=by omega
   have oy:=hpo y (List.mem_of_getElem? hy)
   have ck:=rRight_fn y.tr (by have:=oy.2.1;omega) oy.2.2
   have hdr:ph.drop i=y::ph.drop (i+1):=by
    rw[List.drop_eq_getElem_cons hlt]
    rw[List.getElem?_eq_getElem hlt] at hy
    rw[Option.some.inj hy]
   rw[hdr] at hd
   unfold rphs at hd
   have hJ1:=fun σ' v (h:rphs s (ph.drop (i+1)) y.role v=q)=>hJ σ' ⟨(i+1,y.role,v),hlt,h⟩ (by dsimp only;omega)
   dsimp only at hJ1
   generalize rphs s (ph.drop (i+1)) y.role=g at hd hJ1
   generalize trB y.tr=tb at ck hd
   obtain⟨c1,h1⟩:∃b,decide (y.role≤last)=b:=⟨_,rfl⟩
   obtain⟨c2,h2⟩:∃b,decide (y.role>3)=b:=⟨_,rfl⟩
   obtain⟨c3,h3⟩:∃b,(y.who==0)=b:=⟨_,rfl⟩
   obtain⟨c4,h4⟩:∃b,(y.role==2)=b:=⟨_,rfl⟩
   obtain⟨c5,h5⟩:∃b,(y.who==s)=b:=⟨_,rfl⟩
   rw[h1,h2,h3,h4,h5] at hd
   clear so he hq
   cases c1 with
   |true=>
    have hd:q=false:=hd.symm
    clear hJ1
    (have W:=ndI k1 (ndI k2 (ndI k7 (ndI h1 @wrI)));(repeat(any_goals(first|((with_reducible refine Q0b ?_ ?_);rfl;intro K hK;simp(disch:=omega) only[go_sem,W];((repeat(refine ndI (by first|assumption|omega|rfl) ?_));refine hK _ ?_;clear hK K))|(with_reducible first|(refine Q0c ?_;refine hR _ ?_;clear hR R)|((first|refine Q0d ?_|refine Q0f ?_);intro J hJ hJ')|(refine Q0a ?_;intro R hR)|(refine hJ _ ?_;clear hJ hJ' J)|refine Q0g ?_|refine Q0j ?_)|((with_reducible refine hJ' _ _ ?_ ?_);(focus(simp;done));clear hJ hJ' J)|((with_reducible apply Q0y);rfl;rfl;rfl;all_goals(intro hb;first|(cases hb;done)|((try simp only[Bool.not_true,Bool.not_false] at hb);(first|((fail_if_success (with_reducible intro _));simp(disch:=omega) only[go_sem,W])))))|((with_reducible apply Q0e);rfl;rfl;all_goals(intro hc;first|(cases hc;done)|(try simp only at hc)))))))
    all_goals rw[hd,Bool.false_and]
    all_goals(refine⟨by simp,⟨_,?_,AV.le_refl _⟩,Q0h (by simp[leH,hget])⟩;simp only[Tryz.results10,resL,ldA,Q0q,go_sem])
   |false=>
   cases c2 with
   |true=>
    have hd:q=false:=hd.symm
    clear hJ1
    (have W:=ndI k1 (ndI k2 (ndI k7 (ndI h1 (ndI h2 @wrI))));(repeat(any_goals(first|((with_reducible refine Q0b ?_ ?_);rfl;intro K hK;simp(disch:=omega) only[go_sem,W];((repeat(refine ndI (by first|assumption|omega|rfl) ?_));refine hK _ ?_;clear hK K))|(with_reducible first|(refine Q0c ?_;refine hR _ ?_;clear hR R)|((first|refine Q0d ?_|refine Q0f ?_);intro J hJ hJ')|(refine Q0a ?_;intro R hR)|(refine hJ _ ?_;clear hJ hJ' J)|refine Q0g ?_|refine Q0j ?_)|((with_reducible refine hJ' _ _ ?_ ?_);(focus(simp;done));clear hJ hJ' J)|((with_reducible apply Q0y);rfl;rfl;rfl;all_goals(intro hb;first|(cases hb;done)|((try simp only[Bool.not_true,Bool.not_false] at hb);(first|((with_reducible intro K hK);(first|skip);simp(disch:=omega) only[go_sem,W];((repeat(refine ndI (by first|assumption|rfl) ?_));refine hK _ ?_;clear hK K))|((fail_if_success (with_reducible intro _));simp(disch:=omega) only[go_sem,W])))))|((with_reducible apply Q0e);rfl;rfl;all_goals(intro hc;first|(cases hc;done)|(try simp only at hc)))))))
    all_goals rw[hd,Bool.false_and]
    all_goals(refine⟨by simp,⟨_,?_,AV.le_refl _⟩,Q0h (by simp[leH,hget])⟩;simp only[Tryz.results10,resL,ldA,Q0q,go_sem])
   |false=>
   cases c3 with
   |true=>
    have hd:q=false:=hd.symm
    clear hJ1
    (have W:=ndI k1 (ndI k2 (ndI k7 (ndI h1 (ndI h2 (ndI h3 @wrI)))));(repeat(any_goals(first|((with_reducible refine Q0b ?_ ?_);rfl;intro K hK;simp(disch:=omega) only[go_sem,W];((repeat(refine ndI (by first|assumption|omega|rfl) ?_));refine hK _ ?_;clear hK K))|(with_reducible first|(refine Q0c ?_;refine hR _ ?_;clear hR R)|((first|refine Q0d ?_|refine Q0f ?_);intro J hJ hJ')|(refine Q0a ?_;intro R hR)|(refine hJ _ ?_;clear hJ hJ' J)|refine Q0g ?_|refine Q0j ?_)|((with_reducible refine hJ' _ _ ?_ ?_);(focus(simp;done));clear hJ hJ' J)|((with_reducible apply Q0y);rfl;rfl;rfl;all_goals(intro hb;first|(cases hb;done)|((try simp only[Bool.not_true,Bool.not_false] at hb);(first|((with_reducible intro K hK);(first|skip);simp(disch:=omega) only[go_sem,W];((repeat(refine ndI (by first|assumption|rfl) ?_));refine hK _ ?_;clear hK K))|((fail_if_success (with_reducible intro _));simp(disch:=omega) only[go_sem,W])))))|((with_reducible apply Q0e);rfl;rfl;all_goals(intro hc;first|(cases hc;done)|(try simp only at hc)))))))
    all_goals rw[hd,Bool.false_and]
    all_goals(refine⟨by simp,⟨_,?_,AV.le_refl _⟩,Q0h (by simp[leH,hget])⟩;simp only[Tryz.results10,resL,ldA,Q0q,go_sem])
   |false=>
   cases tb with
   |false=>
    have hd:q=false:=hd.symm
    clear hJ1
    (have W:=ndI k1 (ndI k2 (ndI k7 (ndI h1 (ndI h2 (ndI h3 @wrI)))));(repeat(any_goals(first|((with_reducible refine Q0b ?_ ?_);rfl;intro K hK;simp(disch:=omega) only[go_sem,W];((repeat(refine ndI (by first|assumption|omega|rfl) ?_));refine hK _ ?_;clear hK K))|(with_reducible first|(refine Q0c ?_;refine hR _ ?_;clear hR R)|((first|refine Q0d ?_|refine Q0f ?_);intro J hJ hJ')|(refine Q0a ?_;intro R hR)|(refine hJ _ ?_;clear hJ hJ' J)|refine Q0g ?_|refine Q0j ?_)|((with_reducible refine hJ' _ _ ?_ ?_);(focus(simp;done));clear hJ hJ' J)|((with_reducible apply Q0y);rfl;rfl;rfl;all_goals(intro hb;first|(cases hb;done)|((try simp only[Bool.not_true,Bool.not_false] at hb);(first|((with_reducible intro K hK);(first|((apply Q0k (ck);rfl;rfl;rfl;rfl;exact Tryz.func39);kernel_rfl;rfl;(focus((simp(disch:=omega) only[go_sem,W]);(try rfl);done));(first|rfl))|skip);simp(disch:=omega) only[go_sem,W];((repeat(refine ndI (by first|assumption|rfl) ?_));refine hK _ ?_;clear hK K))))))|((with_reducible apply Q0e);rfl;rfl;all_goals(intro hc;first|(cases hc;done)|(try simp only at hc)))))))
    all_goals rw[hd,Bool.false_and]
    all_goals(refine⟨by simp,⟨_,?_,AV.le_refl _⟩,Q0h (by simp[leH,hget])⟩;simp only[Tryz.results10,resL,ldA,Q0q,go_sem])
   |true=>
   cases c4 with
   |false=>
    have hJ2:=fun σ'=>hJ1 σ' sd hd
    (have W:=ndI k1 (ndI k2 (ndI k7 (ndI h1 (ndI h2 (ndI h3 (ndI h4 @wrI))))));(repeat(any_goals(first|((with_reducible refine Q0b ?_ ?_);rfl;intro K hK;simp(disch:=omega) only[go_sem,W];((repeat(refine ndI (by first|assumption|omega|rfl) ?_));refine hK _ ?_;clear hK K))|(with_reducible first|(refine Q0c ?_;refine hR _ ?_;clear hR R)|((first|refine Q0d ?_|refine Q0f ?_);intro J hJ hJ')|(refine Q0a ?_;intro R hR)|(refine hJ _ ?_;clear hJ hJ' J)|refine Q0g ?_)|((with_reducible refine hJ' _ _ ?_ ?_);(focus(simp;done));clear hJ hJ' J)|((with_reducible apply Q0y);rfl;rfl;rfl;all_goals(intro hb;first|(cases hb;done)|((try simp only[Bool.not_true,Bool.not_false] at hb);(first|((with_reducible intro K hK);(first|((apply Q0k (ck);rfl;rfl;rfl;rfl;exact Tryz.func39);kernel_rfl;rfl;(focus((simp(disch:=omega) only[go_sem,W]);(try rfl);done));(first|rfl))|skip);simp(disch:=omega) only[go_sem,W];((repeat(refine ndI (by first|assumption|rfl) ?_));refine hK _ ?_;clear hK K))))))|((with_reducible apply Q0e);rfl;rfl;all_goals(intro hc;first|(cases hc;done)|(try simp only at hc)))))))
    all_goals exact hJ2 _ (St.le_of (by simp[leT]) (by simp[leH,hget]))
   |true=>
    have hJ2:=fun σ'=>hJ1 σ' c5 hd
    (have W:=ndI k1 (ndI k2 (ndI k7 (ndI h1 (ndI h2 (ndI h3 (ndI h4 (ndI h5 @wrI)))))));(repeat(any_goals(first|((with_reducible refine Q0b ?_ ?_);rfl;intro K hK;simp(disch:=omega) only[go_sem,W];((repeat(refine ndI (by first|assumption|omega|rfl) ?_));refine hK _ ?_;clear hK K))|(with_reducible first|(refine Q0c ?_;refine hR _ ?_;clear hR R)|((first|refine Q0d ?_|refine Q0f ?_);intro J hJ hJ')|(refine Q0a ?_;intro R hR)|(refine hJ _ ?_;clear hJ hJ' J)|refine Q0g ?_)|((with_reducible refine hJ' _ _ ?_ ?_);(focus(simp;done));clear hJ hJ' J)|((with_reducible apply Q0y);rfl;rfl;rfl;all_goals(intro hb;first|(cases hb;done)|((try simp only[Bool.not_true,Bool.not_false] at hb);(first|((with_reducible intro K hK);(first|((apply Q0k (ck);rfl;rfl;rfl;rfl;exact Tryz.func39);kernel_rfl;rfl;(focus((simp(disch:=omega) only[go_sem,W]);(try rfl);done));(first|rfl))|skip);simp(disch:=omega) only[go_sem,W];((repeat(refine ndI (by first|assumption|rfl) ?_));refine hK _ ?_;clear hK K))))))|((with_reducible apply Q0e);rfl;rfl;all_goals(intro hc;first|(cases hc;done)|(try simp only at hc)))))))
    all_goals exact hJ2 _ (St.le_of (by simp[leT]) (by simp[leH,hget]))
 · have k1:(decide ((i:Int)<(ph.length:Int)))=false:=by simp;omega
   rw[List.drop_eq_nil_of_le hge] at hd
   have hd:q=sd:=hd.symm
   clear hq
   cases sd with
   |true=>
    (repeat(any_goals(first|((with_reducible refine Q0b ?_ ?_);rfl;intro K hK;simp only[go_sem,k1];((repeat(refine ndI (by first|assumption) ?_));refine hK _ ?_;clear hK K))|(with_reducible first|(refine Q0c ?_;refine hR _ ?_;clear hR R)|((first|refine Q0d ?_);intro J hJ hJ')|(refine Q0a ?_;intro R hR)|(refine hJ _ ?_;clear hJ hJ' J)|refine Q0j ?_|refine Q0o ?_)|((with_reducible refine hJ' _ _ ?_ ?_);(focus(simp;done));clear hJ hJ' J)|((with_reducible apply Q0e);rfl;rfl;all_goals(intro hc;first|(cases hc;done)|(try simp only at hc)))|((with_reducible refine Q0v ?_ ?_);kernel_rfl;(with_reducible refine hR _ ?_);clear hR R)|((first|((first|((with_reducible apply Q2y);rfl;rfl;rfl;rfl;rfl));((first|(apply Q0u (so);rfl;rfl;rfl;rfl;exact Tryz.func40)|(apply Q0u (he);rfl;rfl;rfl;rfl;exact Tryz.func18));kernel_rfl;rfl;(focus((simp only[go_sem,k1]);(try rfl);done));(first|rfl)))|((first|((with_reducible apply Q0t);rfl;rfl)|((with_reducible apply Q2v);rfl;rfl;rfl;rfl;rfl));(simp only[rdE,rdOf,go_sem,k1];rfl);(intro τ hA hQ hN;((try simp only[Q1e,Op.operands,Call.operands,go_sem,k1,go_sem,List.mem_cons,List.not_mem_nil,forall_eq_or_imp,forall_eq,List.append_toArray,Option.toArray] at hA);(try simp only[go_sem,k1,List.mem_cons,List.not_mem_nil,forall_eq_or_imp,forall_eq] at hQ hN);(first|(revert hA;intro hA));(first|(revert hQ;intro hQ));(first|(revert hN;intro hN));simp only[go_sem,k1,go_sem,hA,hQ,hN];(repeat(refine ndI (by first|assumption) ?_));(first|apply Q1a)))));(simp only[St.eff,setO,Q0w,go_sem,k1]))|((with_reducible refine Q0r ?_ ?_ ?_ ?_);kernel_rfl;kernel_rfl;(first|kernel_rfl);intro R hR))))
    all_goals rw[hd,Bool.true_and]
    all_goals(refine⟨by simp,⟨_,?_,AV.le_refl _⟩,Q0h (by simp[leH,hget])⟩;simp only[Tryz.results10,resL,ldA,Q0q,go_sem])
   |false=>
    (repeat(any_goals(first|((with_reducible refine Q0b ?_ ?_);rfl;intro K hK;simp only[go_sem,k1];((repeat(refine ndI (by first|assumption) ?_));refine hK _ ?_;clear hK K))|(with_reducible first|(refine Q0c ?_;refine hR _ ?_;clear hR R)|((first|refine Q0d ?_);intro J hJ hJ')|(refine Q0a ?_;intro R hR)|(refine hJ _ ?_;clear hJ hJ' J)|refine Q0j ?_|refine Q0o ?_)|((with_reducible refine hJ' _ _ ?_ ?_);(focus(simp;done));clear hJ hJ' J)|((with_reducible apply Q0e);rfl;rfl;all_goals(intro hc;first|(cases hc;done)|(try simp only at hc)))|((with_reducible refine Q0v ?_ ?_);kernel_rfl;(with_reducible refine hR _ ?_);clear hR R)|((first|((with_reducible apply Q3e);rfl;rfl;rfl;rfl)|((first|((with_reducible apply Q0t);rfl;rfl));(simp only[rdE,rdOf,go_sem,k1];rfl);(intro τ hA hQ hN;((try simp only[Q1e,Op.operands,Call.operands,go_sem,k1,go_sem,List.mem_cons,List.not_mem_nil,forall_eq_or_imp,forall_eq,List.append_toArray,Option.toArray] at hA);(try simp only[go_sem,k1,List.mem_cons,List.not_mem_nil,forall_eq_or_imp,forall_eq] at hQ hN);(first|(revert hA;intro hA));(first|(revert hQ;intro hQ));(first|(revert hN;intro hN));simp only[go_sem,k1,go_sem,hA,hQ,hN];(repeat(refine ndI (by first|assumption) ?_));(first|apply Q1a)))));(simp only[St.eff,setO,Q0w,go_sem,k1]))|((with_reducible refine Q0r ?_ ?_ ?_ ?_);kernel_rfl;kernel_rfl;(first|kernel_rfl);intro R hR))))
    all_goals rw[hd,Bool.false_and]
    all_goals(refine⟨by simp,⟨_,?_,AV.le_refl _⟩,Q0h (by simp[leH,hget])⟩;simp only[Tryz.results10,resL,ldA,Q0q,go_sem])
end Go.Proofs.YtgdjkkapgghdbaaGreatDoor
namespace Go.Proofs.YtgdjkkapgghdbaaGreatDoor
open Go.RowKit
open Nat (reduceBEq)
attribute [-go_sem] IntKind.bits
set_option maxRecDepth 20000
set_option maxHeartbeats 4000000
theorem X5m{l:List Nat}(hb:∀b∈l,b<256):∀k,k≤l.length→∀i,i<k→l.getD i 0=rdN l k/256 ^ (k-1-i)%256
 |0,_,i,h=>by omega
 |k+1,hk,i,h=>by
  rw[rdN_s (by omega)]
  have hx:l.getD k 0<256:=by
   rw[List.getD_eq_getElem?_getD,List.getElem?_eq_getElem (by omega)]
   exact hb _ (List.getElem_mem _)
  rcases Nat.lt_or_ge i k with h1|h1
  · rw[X5m hb k (by omega) i h1,show k+1-1-i=(k-1-i)+1 by omega,Nat.pow_succ,Nat.mul_comm (256 ^ _),←Nat.div_div_eq_div_mul]
    congr 2
    omega
  · obtain rfl:i=k:=by omega
    rw[show i+1-1-i=0 by omega]
    omega
theorem rdN_of{l:List Nat}{A n:Nat}(hn:n≤l.length)(hA:A<256 ^ n)(h:∀i,i<n→l.getD i 0=A/256 ^ (n-1-i)%256):∀k,k≤n→rdN l k=A/256 ^ (n-k)
 |0,_=>by rw[Nat.sub_zero,Nat.div_eq_of_lt hA];rfl
 |k+1,hk=>by
  rw[rdN_s (by omega),rdN_of hn hA h k (by omega),h k (by omega),show n-k=(n-(k+1))+1 by omega,Nat.pow_succ,←Nat.div_div_eq_div_mul,show n-1-k=n-(k+1) by omega]
  omega
theorem X8r(W:List UInt64):∀k i,i<k→(wdT W k).getD i 0=wdB W i
 |0,i,h=>by omega
 |k+1,i,h=>by
  unfold wdT
  have hl:=X2n W k
  rcases Nat.lt_or_ge i k with h1|h1
  · rw[List.getD_eq_getElem?_getD,List.getElem?_append_left (by omega),←List.getD_eq_getElem?_getD,X8r W k i h1]
  · obtain rfl:i=k:=by omega
    rw[List.getD_eq_getElem?_getD,List.getElem?_append_right (by omega),hl,Nat.sub_self]
    rfl
def hitB(a:Int)(D:List Nat):Bool:=((D.take 24).all fun b=>b==0)&&((rdN ((D.drop 24).take 8) 8:Int)==a)
theorem ext_getD{l m:List Nat}{n:Nat}(hl:l.length=n)(hm:m.length=n)(h:∀i,i<n→l.getD i 0=m.getD i 0):l=m:=by
 refine List.ext_getElem (by omega) fun i h1 h2=>?_
 have:=h i (by omega)
 rw[List.getD_eq_getElem?_getD,List.getD_eq_getElem?_getD,List.getElem?_eq_getElem h1,List.getElem?_eq_getElem h2] at this
 exact this
theorem Q5v{l:List Nat}{n i:Nat}(h:i<n):(l.take n).getD i 0=l.getD i 0:=by
 rw[List.getD_eq_getElem?_getD,List.getD_eq_getElem?_getD,List.getElem?_take_of_lt h]
theorem hit_own{a:Int}(ha:U a){e:Ev}(hl:32≤e.data.length)(hb:∀b∈e.data,b<256):hitB a e.data=ownB (ownL a) e:=by
 unfold hitB ownB
 generalize e.data=D at hl hb ⊢
 obtain⟨A,hA⟩:∃A,a.toNat=A:=⟨_,rfl⟩
 have hAa:(A:Int)=a:=by rw[←hA];exact Int.toNat_of_nonneg ha.1
 have hlt:A<256 ^ 8:=by have:=ha.2;have:(256:Nat) ^ 8=18446744073709551616:=rfl;omega
 have w0:(UInt64.ofNat A).toNat=A:=UInt64.toNat_ofNat_of_lt' (by simpa [UInt64.size] using hlt)
 have wb:∀i,i<32→(ownL a).getD i 0=if i<24 then 0 else A/256 ^ (31-i)%256:=fun i hi=>by
  unfold ownL wdL
  rw[X8r _ 32 i hi,hA]
  unfold wdB
  split
  · have:(31-i)/8=1∨(31-i)/8=2∨(31-i)/8=3:=by omega
    rcases this with e|e|e<;>(rw[e];simp)
  · rw[show(31-i)/8=0 by omega,show(31-i)%8=31-i by omega]
    show(UInt64.ofNat A).toNat/_%_=_
    rw[w0]
 have hB:∀j,j<8→((D.drop 24).take 8).getD j 0=D.getD (24+j) 0:=fun j hj=>by
  rw[Q5v hj,List.getD_eq_getElem?_getD,List.getD_eq_getElem?_getD,List.getElem?_drop]
 have hBl:((D.drop 24).take 8).length=8:=by rw[List.length_take,List.length_drop];omega
 have hBb:∀b∈(D.drop 24).take 8,b<256:=fun b h=>hb b (List.mem_of_mem_drop (List.mem_of_mem_take h))
 generalize (D.drop 24).take 8=B at hB hBl hBb ⊢
 rw[Bool.eq_iff_iff,Bool.and_eq_true_iff,beq_iff_eq,decide_eq_true_iff,List.all_eq_true]
 constructor
 · rintro ⟨h1,h2⟩
   have h2:rdN B 8=A:=by omega
   refine ext_getD (n:=32) (by rw[List.length_take];omega) (X9o a) fun i hi=>?_
   rw[Q5v hi,wb i hi]
   split
   · rename_i h24
     have hm:D.getD i 0∈D.take 24:=by
      rw[←Q5v h24,List.getD_eq_getElem?_getD,List.getElem?_eq_getElem (by rw[List.length_take];omega)]
      exact List.getElem_mem _
     exact beq_iff_eq.1 (h1 _ hm)
   · have h3:=X5m hBb 8 (by omega) (i-24) (by omega)
     rw[hB _ (by omega),h2,show 24+(i-24)=i by omega,show 8-1-(i-24)=31-i by omega] at h3
     exact h3
 · intro h
   have hd:∀i,i<32→D.getD i 0=if i<24 then 0 else A/256 ^ (31-i)%256:=fun i hi=>by
    rw[←wb i hi,←h,Q5v hi]
   refine⟨fun b hbm=>?_,?_⟩
   · obtain⟨i,hi,rfl⟩:=List.mem_iff_getElem.1 hbm
     have hi2:i<24:=by rw[List.length_take] at hi;omega
     have h3:=hd i (by omega)
     rw[if_pos hi2,←Q5v hi2,List.getD_eq_getElem?_getD,List.getElem?_eq_getElem hi] at h3
     exact beq_iff_eq.2 h3
   · have h3:=rdN_of (l:=B) (A:=A) (n:=8) (by omega) hlt (fun j hj=>by
      rw[hB j hj,hd _ (by omega),if_neg (by omega),show 31-(24+j)=8-1-j by omega]) 8 (Nat.le_refl _)
     rw[h3,Nat.sub_self,Nat.pow_zero,Nat.div_one]
     exact hAa
theorem arg8{D:List Nat}(h:D.length=64):bsl false ((D.drop 24).take 8) = .c (.sl false 1 8 (((D.flatMap bpv).drop 24).take 8)):=by
 have e:((D.drop 24).take 8).length=8:=by rw[List.length_take,List.length_drop,h];rfl
 have f:((D.flatMap bpv).drop (24*1)).take (8*1)=((D.drop 24).take 8).flatMap bpv:=by
  rw[X0g Q3c,Q4p Q3c]
 rw[bsl,e,←f]
abbrev bsR(l:List Ev)(a:Int)(r:Nat)(out:List Nat)(i:Nat):St:=⟨[evs false l,vi .u64 a,.any,.any,.c (.v (.slice none 0 0)),.row r 35 4 out.length,vi .i64 i,.any,.any,.any,.any,.any,.any,.any,.any,.any,.any,.any,.any,.any,.any,.any,.any,.any,.any,.any,.any,.any,.any,.any,.any,.any,.any,.any,.any,.any,.any,.any,.any,.any,.any,.any,.any,.any,.any,.any,.any,.any,.any,.any,.any,.any,.any,.any,.any,.any,.any,.any],[(r,raG lpv out)]⟩
theorem bsR_rn(l:List Ev)(a:Int)(out:List Nat)(i:Nat):(bsR l a 56 out i).to (bsR l a 500 out i):=by
 have h:=St.to.rn (σ:=bsR l a 56 out i) (fun r=>if r=56 then 500 else r) (fun r=>if r=500 then 56 else r) [56] (by simp[AV.inNL,AV.inN]) (by simp) (by simp[inH,AV.inNL,AV.inN,Q1b]) (by simp) (by simp)
 simpa [AV.renL,AV.ren,renH] using h
theorem all_snoc{l:List Nat}{k x:Nat}(h:l[k]? = some x):((l.take (k+1)).all fun b=>b==0)=(((l.take k).all fun b=>b==0)&&((x:Int)==0)):=by
 rw[List.take_add_one,h,List.all_append]
 have:(x==0)=((x:Int)==0):=by rw[Bool.eq_iff_iff];simp
 simp[this]
theorem rbases_fn(l:List Ev)(hl:l.length≤1000)(ho:∀e∈l,e.ok)(hr:trB l=true)(a:Int)(ha:U a):Fn Tryz.prog 81 [evs false l,vi .u64 a] [] (wsl false (Q2i (ownL a) l)) []:=by
 have hrow:Fn Tryz.prog 81 [evs false l,vi .u64 a] [] (.row 500 35 4 (Q2i (ownL a) l).length) [(500,raG lpv (Q2i (ownL a) l))]:=by
  (refine Q0z Tryz.func81 rfl (by rfl) ?_;simp only[Tryz.ntmps81,List.length_cons,List.length_nil,Nat.reduceAdd,Nat.reduceSub,List.replicate,List.cons_append,List.nil_append])
  (repeat(any_goals(first|((with_reducible refine Q0b ?_ ?_);rfl;intro K hK;simp only[go_sem];((repeat(refine ndI (by first|assumption) ?_));refine hK _ ?_;clear hK K))|(with_reducible first|(refine Q0c ?_;refine hR _ ?_;clear hR R)|((first|refine Q0d ?_|refine Q0f ?_);intro J hJ hJ')|(refine Q0a ?_;intro R hR)|(refine hJ _ ?_;clear hJ hJ' J)))))
  refine Q3u l.length (fun i=>bsR l a 500 (Q2i (ownL a) (l.take i)) i) ?_ ?_
  · refine St.to.trans (St.to.of_le (τ:=⟨[evs false l,vi .u64 a,.any,.any,.c (.v (.slice none 0 0)),.c (.v (.slice none 0 0)),vi .i64 0,.any,.any,.any,.any,.any,.any,.any,.any,.any,.any,.any,.any,.any,.any,.any,.any,.any,.any,.any,.any,.any,.any,.any,.any,.any,.any,.any,.any,.any,.any,.any,.any,.any,.any,.any,.any,.any,.any,.any,.any,.any,.any,.any,.any,.any,.any,.any,.any,.any,.any,.any],[]⟩) (St.le_of (by simp[leT]) (by simp[leH,hget]))) ?_
    refine St.to.trans (St.to.nilrow 5 500 35 4 rfl (by simp) (by simp[St.free,Q1w,AV.refsL,AV.refs]) (by decide)) (St.to.of_le (St.le_of (by simp[leT,Q2i,selG]) (by simp[leH,hget,hput,Q2i,selG])))
  intro i hi J hJ hJ'
  (try dsimp only at hJ ⊢)
  rcases Nat.lt_or_ge i l.length with hlt|hge
  · obtain⟨y,hy⟩:∃y,l[i]? = some y:=⟨_,List.getElem?_eq_getElem hlt⟩
    have k1:(decide ((i:Int)<(l.length:Int)))=true:=by simpa using hlt
    have k2:=X8e hy
    have k7:(i:Int)+1=((i+1:Nat):Int):=by omega
    have hm:=List.mem_of_getElem? hy
    have oy:=ho y hm
    have hsn:=X4z (X1l (ownL a)) [1] hy
    have hbl:(Q2i (ownL a) (l.take i)).length≤1000:=by have:=X0x (ownL a) (l.take i);rw[List.length_take] at this;omega
    have fin:=fun τ=>hJ τ hlt
    change selG (X1l (ownL a)) [1] (l.take (i+1))=_ at hsn
    unfold Q2i at fin hbl ⊢
    rw[hsn] at fin
    clear hsn hJ
    generalize selG (X1l (ownL a)) [1] (l.take i)=out at fin hbl ⊢
    have k4:(raG lpv out).length=out.length*4:=by rw[List.length_map,Q0p Q8k]
    have k9:∀r,AV.refsL r (raG lpv out)=false:=fun r=>Q0l r _
    dsimp only[bsR]
    by_cases hk1:y.kind=1
    · have q1:(y.kind != 1)=false:=by rw[hk1];rfl
      have dl:=X3r hr hm hk1
      have hho:=hit_own ha (e:=y) (by omega) oy.2.2.2.1
      have rd:=X9a false ((y.data.drop 24).take 8) (by rw[List.length_take,List.length_drop];omega) fun b h=>oy.2.2.2.1 b (List.mem_of_mem_drop (List.mem_of_mem_take h))
      rw[arg8 dl] at rd
      rw[if_pos (by simp[hk1])] at fin
      unfold X1l at fin
      rw[←hho] at fin
      unfold hitB at fin
      generalize (rdN ((y.data.drop 24).take 8) 8:Int)=rv at fin rd
      obtain⟨b2,h2⟩:∃b,(rv==a)=b:=⟨_,rfl⟩
      rw[h2] at fin
      clear hho hr ho
      (have W:=ndI k1 (ndI k2 (ndI q1 @wrI));(repeat(any_goals(first|((with_reducible refine Q0b ?_ ?_);rfl;intro K hK;simp(disch:=omega) only[go_sem,W];((repeat(refine ndI (by first|assumption|omega|rfl) ?_));refine hK _ ?_;clear hK K))|(with_reducible first|(refine Q0c ?_;refine hR _ ?_;clear hR R)|((first|refine Q0d ?_|refine Q0f ?_);intro J hJ hJ')|(refine Q0a ?_;intro R hR)|(refine hJ _ ?_;clear hJ hJ' J)|refine Q0g ?_)|((with_reducible apply Q0e);rfl;rfl;all_goals(intro hc;first|(cases hc;done)|(try simp only at hc)))))))
      refine Q1s 24 (fun k=>⟨[evs false l,vi .u64 a,.any,.any,.c (.v (.slice none 0 0)),.row 500 35 4 out.length,vi .i64 (i:Int),vb ((y.data.take k).all fun b=>b==0),vi .i64 (k:Int),.any,.any,.any,.any,.any,.any,.any,.any,.any,.any,.any,.any,.any,.any,.any,.any,.any,.any,.any,.any,.any,.any,.any,.any,.any,.any,.any,.any,.any,.any,.any,.any,.any,.any,.any,.any,.any,.any,.any,.any,.any,.any,.any,.any,.any,.any,.any,.any,.any],[(500,raG lpv out)]⟩) (St.le_of (by simp[leT]) (by simp[leH,hget])) ?_
      intro k hk J hJ hJ'
      (try dsimp only at hJ ⊢)
      rcases Nat.lt_or_ge k 24 with hk24|hk24
      · obtain⟨x,hx⟩:∃x,y.data[k]? = some x:=⟨_,List.getElem?_eq_getElem (by omega)⟩
        have n1:(decide ((k:Int)<24))=true:=by simp;omega
        have n2:=X4k hx
        have n7:(k:Int)+1=((k+1:Nat):Int):=by omega
        have hkd:k<y.data.length:=by omega
        have hJ1:=fun τ=>hJ τ hk24
        rw[all_snoc hx] at hJ1
        generalize ((y.data.take k).all fun b=>b==0)=own at hJ1 ⊢
        obtain⟨b3,h3⟩:∃b,((x:Int)==0)=b:=⟨_,rfl⟩
        rw[h3] at hJ1
        clear fin rd
        cases own with
        |false=>
         (have W:=ndI n1 (ndI n2 (ndI n7 (ndI k2 (ndI h3 @wrI))));(repeat(any_goals(first|((with_reducible refine Q0b ?_ ?_);rfl;intro K hK;simp(disch:=omega) only[go_sem,W,Nat.mul_one];((repeat(refine ndI (by first|assumption|rfl) ?_));refine hK _ ?_;clear hK K))|(with_reducible first|(refine Q0c ?_;refine hR _ ?_;clear hR R)|((first|refine Q0d ?_|refine Q0f ?_);intro J hJ hJ')|(refine Q0a ?_;intro R hR)|(refine hJ _ ?_;clear hJ hJ' J)|refine Q0g ?_)|((with_reducible refine hJ' _ _ ?_ ?_);(focus(simp;done));clear hJ hJ' J)|((with_reducible apply Q0y);rfl;rfl;rfl;all_goals(intro hb;first|(cases hb;done)|((try simp only[Bool.not_true,Bool.not_false] at hb);(first|((fail_if_success (with_reducible intro _));simp(disch:=omega) only[go_sem,W,Nat.mul_one])))))|((with_reducible apply Q0e);rfl;rfl;all_goals(intro hc;first|(cases hc;done)|(try simp only at hc)))))))
         all_goals exact hJ1 _ (St.le_of (by simp[leT]) (by simp[leH,hget]))
        |true=>
         (have W:=ndI n1 (ndI n2 (ndI n7 (ndI k2 (ndI h3 @wrI))));(repeat(any_goals(first|((with_reducible refine Q0b ?_ ?_);rfl;intro K hK;simp(disch:=omega) only[go_sem,W,Nat.mul_one];((repeat(refine ndI (by first|assumption|rfl) ?_));refine hK _ ?_;clear hK K))|(with_reducible first|(refine Q0c ?_;refine hR _ ?_;clear hR R)|((first|refine Q0d ?_|refine Q0f ?_);intro J hJ hJ')|(refine Q0a ?_;intro R hR)|(refine hJ _ ?_;clear hJ hJ' J)|refine Q0g ?_)|((with_reducible refine hJ' _ _ ?_ ?_);(focus(simp;done));clear hJ hJ' J)|((with_reducible apply Q0y);rfl;rfl;rfl;all_goals(intro hb;first|(cases hb;done)|((try simp only[Bool.not_true,Bool.not_false] at hb);(first|((with_reducible intro K hK);simp(disch:=omega) only[go_sem,W,Nat.mul_one];((repeat(refine ndI (by first|assumption|omega|rfl) ?_));refine hK _ ?_;clear hK K))))))|((with_reducible apply Q0e);rfl;rfl;all_goals(intro hc;first|(cases hc;done)|(try simp only at hc)))))))
         all_goals exact hJ1 _ (St.le_of (by simp[leT]) (by simp[leH,hget]))
      · obtain rfl:k=24:=by omega
        have n1:(decide (((24:Nat):Int)<24))=false:=rfl
        generalize ((y.data.take 24).all fun b=>b==0)=own at fin ⊢
        cases own with
        |false=>
         (have W:=ndI n1 (ndI k2 (ndI k7 (ndI h2 @wrI)));(repeat(any_goals(first|((with_reducible refine Q0b ?_ ?_);rfl;intro K hK;simp(disch:=omega) only[go_sem,W,dl,Nat.mul_one];((repeat(refine ndI (by first|assumption|rfl) ?_));refine hK _ ?_;clear hK K))|(with_reducible first|(refine Q0c ?_;refine hR _ ?_;clear hR R)|((first|refine Q0d ?_);intro J hJ hJ')|(refine Q0a ?_;intro R hR)|(refine hJ _ ?_;clear hJ hJ' J)|refine Q0g ?_|refine Q0o ?_)|((with_reducible refine hJ' _ _ ?_ ?_);(focus(simp;done));clear hJ hJ' J)|((with_reducible apply Q0y);rfl;rfl;rfl;all_goals(intro hb;first|(cases hb;done)|((try simp only[Bool.not_true,Bool.not_false] at hb);(first|((fail_if_success (with_reducible intro _));simp(disch:=omega) only[go_sem,W,dl,Nat.mul_one])))))|((with_reducible apply Q0e);rfl;rfl;all_goals(intro hc;first|(cases hc;done)|(try simp only at hc)))))))
         all_goals exact fin _ (St.to.of_le (St.le_of (by simp[leT]) (by simp[leH,hget])))
        |true=>
        cases b2 with
        |false=>
         (have W:=ndI n1 (ndI k2 (ndI k7 (ndI h2 @wrI)));(repeat(any_goals(first|((with_reducible refine Q0b ?_ ?_);rfl;intro K hK;simp(disch:=omega) only[go_sem,W,dl,Nat.mul_one];((repeat(refine ndI (by first|assumption|rfl) ?_));refine hK _ ?_;clear hK K))|(with_reducible first|(refine Q0c ?_;refine hR _ ?_;clear hR R)|((first|refine Q0d ?_);intro J hJ hJ')|(refine Q0a ?_;intro R hR)|(refine hJ _ ?_;clear hJ hJ' J)|refine Q0g ?_|refine Q0o ?_)|((with_reducible refine hJ' _ _ ?_ ?_);(focus(simp;done));clear hJ hJ' J)|((with_reducible apply Q0y);rfl;rfl;rfl;all_goals(intro hb;first|(cases hb;done)|((try simp only[Bool.not_true,Bool.not_false] at hb);(first|((with_reducible intro K hK);(first|((apply Q0k (rd);rfl;rfl;rfl;rfl;exact Tryz.func133);kernel_rfl;rfl;(focus((simp(disch:=omega) only[go_sem,W,dl,Nat.mul_one]);(try rfl);done));(first|rfl))|skip);simp(disch:=omega) only[go_sem,W,dl,Nat.mul_one];((repeat(refine ndI (by first|assumption|omega|rfl) ?_));refine hK _ ?_;clear hK K))))))|((with_reducible apply Q0e);rfl;rfl;all_goals(intro hc;first|(cases hc;done)|(try simp only at hc)))))))
         all_goals exact fin _ (St.to.of_le (St.le_of (by simp[leT]) (by simp[leH,hget])))
        |true=>
         (have W:=ndI n1 (ndI k2 (ndI k4 (ndI k7 (ndI k9 (ndI h2 (ndI @wrI @Q0l))))));(repeat(any_goals(first|((with_reducible refine Q0b ?_ ?_);rfl;intro K hK;simp(disch:=omega) only[go_sem,W,dl,Q0x,AV.refsL,AV.refs,List.length_append,List.length_cons,List.length_nil,Bool.or_false,Nat.mul_one];((repeat(refine ndI (by first|assumption|omega|rfl) ?_));refine hK _ ?_;clear hK K))|(with_reducible first|(refine Q0c ?_;refine hR _ ?_;clear hR R)|((first|refine Q0d ?_);intro J hJ hJ')|(refine Q0a ?_;intro R hR)|(refine hJ _ ?_;clear hJ hJ' J)|refine Q0o ?_)|((with_reducible refine hJ' _ _ ?_ ?_);(focus(simp;done));clear hJ hJ' J)|((with_reducible apply Q0y);rfl;rfl;rfl;all_goals(intro hb;first|(cases hb;done)|((try simp only[Bool.not_true,Bool.not_false] at hb);(first|((with_reducible intro K hK);(first|((apply Q0k (rd);rfl;rfl;rfl;rfl;exact Tryz.func133);kernel_rfl;rfl;(focus((simp(disch:=omega) only[go_sem,W,dl,Q0x,AV.refsL,AV.refs,List.length_append,List.length_cons,List.length_nil,Bool.or_false,Nat.mul_one]);(try rfl);done));(first|rfl))|skip);simp(disch:=omega) only[go_sem,W,dl,Q0x,AV.refsL,AV.refs,List.length_append,List.length_cons,List.length_nil,Bool.or_false,Nat.mul_one];((repeat(refine ndI (by first|assumption|omega|rfl) ?_));refine hK _ ?_;clear hK K))))))|((with_reducible apply Q0e);rfl;rfl;all_goals(intro hc;first|(cases hc;done)|(try simp only at hc)))))))
         all_goals exact fin _ (St.to.trans (St.to.of_le (τ:=bsR l a 56 (out++[y.val]) (i+1)) (St.le_of (by simp[leT]) (by simp[leH,hget,lpv,raG]))) (bsR_rn l a _ _))
    · have q1:(y.kind != 1)=true:=by simpa using hk1
      rw[if_neg (by simp[hk1])] at fin
      clear hr ho
      (have W:=ndI k1 (ndI k2 (ndI k7 (ndI q1 @wrI)));(repeat(any_goals(first|((with_reducible refine Q0b ?_ ?_);rfl;intro K hK;simp(disch:=omega) only[go_sem,W];((repeat(refine ndI (by first|assumption|omega|rfl) ?_));refine hK _ ?_;clear hK K))|(with_reducible first|(refine Q0c ?_;refine hR _ ?_;clear hR R)|((first|refine Q0d ?_|refine Q0f ?_);intro J hJ hJ')|(refine Q0a ?_;intro R hR)|(refine hJ _ ?_;clear hJ hJ' J)|refine Q0g ?_|refine Q0o ?_)|((with_reducible refine hJ' _ _ ?_ ?_);(focus(simp;done));clear hJ hJ' J)|((with_reducible apply Q0e);rfl;rfl;all_goals(intro hc;first|(cases hc;done)|(try simp only at hc)))))))
      all_goals exact fin _ (St.to.of_le (St.le_of (by simp[leT]) (by simp[leH,hget])))
  · have k1:(decide ((i:Int)<(l.length:Int)))=false:=by simpa using hge
    rw[List.take_of_length_le hge]
    dsimp only[bsR]
    (repeat(any_goals(first|((with_reducible refine Q0b ?_ ?_);rfl;intro K hK;simp only[go_sem,k1];((repeat(refine ndI (by first|assumption) ?_));refine hK _ ?_;clear hK K))|(with_reducible first|(refine Q0c ?_;refine hR _ ?_;clear hR R)|((first|refine Q0d ?_);intro J hJ hJ')|(refine Q0a ?_;intro R hR)|(refine hJ _ ?_;clear hJ hJ' J)|refine Q0j ?_|refine Q0o ?_)|((with_reducible refine hJ' _ _ ?_ ?_);(focus(simp;done));clear hJ hJ' J)|((with_reducible apply Q0e);rfl;rfl;all_goals(intro hc;first|(cases hc;done)|(try simp only at hc))))))
    all_goals exact⟨by simp,⟨_,rfl,AV.le_refl _⟩,Q0h (by simp[leH,hget])⟩
 have h1:=hrow.frzG
 simpa [AV.frz,AV.frzL,Q0p Q8k] using h1
end Go.Proofs.YtgdjkkapgghdbaaGreatDoor
namespace Go.Proofs.YtgdjkkapgghdbaaGreatDoor
open Go.RowKit
open Nat (reduceBEq)
attribute [-go_sem] IntKind.bits
set_option maxRecDepth 20000
set_option maxHeartbeats 4000000
theorem rassoc_fn(l:List Ev)(hl:l.length≤1000)(ho:∀e∈l,e.ok)(hr:trB l=true)(a:Int)(ha:U a)(key:Nat)(hk:key<WW):Fn Tryz.prog 50 [evs false l,vi .u64 a,wN key] [] (vb (eqwB a key||(Q2i (ownL a) l).any (Q5d key))) []:=by
 have rb:=rbases_fn l hl ho hr a ha
 have rw':=rword_fn a
 have hbo:=Z0r ho (ownL a)
 have hbl:(Q2i (ownL a) l).length≤1000:=by have:=X0x (ownL a) l;omega
 generalize Q2i (ownL a) l=bs at rb hbo hbl ⊢
 obtain⟨b1,h1⟩:∃b,(l0 key==a&&(l1 key==0&&(l2 key==0&&l3 key==0)))=b:=⟨_,rfl⟩
 have e1:eqwB a key=b1:=h1
 rw[e1]
 obtain⟨r,hr'⟩:∃r,bs.any (Q5d key)=r:=⟨_,rfl⟩
 rw[hr']
 clear hr ho e1
 cases b1 with
 |true=>
  rw[Bool.true_or]
  clear hr' rb
  (refine Q0z Tryz.func50 rfl (by rfl) ?_;simp only[Tryz.ntmps50,List.length_cons,List.length_nil,Nat.reduceAdd,Nat.reduceSub,List.replicate,List.cons_append,List.nil_append])
  (repeat(any_goals(first|((with_reducible refine Q0b ?_ ?_);rfl;intro K hK;simp only[go_sem,h1];((repeat(refine ndI (by first|assumption) ?_));refine hK _ ?_;clear hK K))|(with_reducible first|(refine Q0c ?_;refine hR _ ?_;clear hR R)|((first|refine Q0d ?_);intro J hJ hJ')|(refine Q0a ?_;intro R hR)|(refine hJ _ ?_;clear hJ hJ' J)|refine Q0j ?_)|((with_reducible refine hJ' _ _ ?_ ?_);(focus(simp;done));clear hJ hJ' J)|((with_reducible apply Q0e);rfl;rfl;all_goals(intro hc;first|(cases hc;done)|(try simp only at hc)))|((with_reducible refine Q0v ?_ ?_);kernel_rfl;(with_reducible refine hR _ ?_);clear hR R)|((first|((with_reducible apply Q1j);rfl;rfl;((apply Q0u (rw');rfl;rfl;rfl;rfl;exact Tryz.func80);kernel_rfl;rfl;(focus((simp only[go_sem,h1]);(try rfl);done));(first|rfl)))|((with_reducible apply Q0t);rfl;rfl;(simp only[rdE,rdOf,go_sem,h1];rfl);(intro τ hA hQ hN;((try simp only[Q1e,Op.operands,Call.operands,go_sem,h1,go_sem,List.mem_cons,List.not_mem_nil,forall_eq_or_imp,forall_eq,List.append_toArray,Option.toArray] at hA);(try simp only[go_sem,h1,List.mem_cons,List.not_mem_nil,forall_eq_or_imp,forall_eq] at hQ hN);(first|(revert hA;intro hA));(first|(revert hQ;intro hQ));(first|(revert hN;intro hN));simp only[go_sem,h1,go_sem,hA,hQ,hN];(repeat(refine ndI (by first|assumption) ?_));(first|apply Q1a)))));(simp only[St.eff,setO,Q0w,go_sem,h1]))|((with_reducible refine Q0r ?_ ?_ ?_ ?_);kernel_rfl;kernel_rfl;(first|kernel_rfl);intro R hR))))
  all_goals(refine⟨by simp,⟨_,?_,AV.le_refl _⟩,Q0h (by simp[leH,hget])⟩;simp only[Tryz.results50,resL,ldA,Q0q,go_sem])
 |false=>
 rw[Bool.false_or]
 (refine Q0z Tryz.func50 rfl (by rfl) ?_;simp only[Tryz.ntmps50,List.length_cons,List.length_nil,Nat.reduceAdd,Nat.reduceSub,List.replicate,List.cons_append,List.nil_append])
 (repeat(any_goals(first|((with_reducible refine Q0n ?_ ?_ ?_);rfl;rfl;intro K hK;((first|(apply Q0k (rb);rfl;rfl;rfl;rfl;exact Tryz.func81));kernel_rfl;rfl;(focus((simp only[go_sem,h1]);(try rfl);done));(first|rfl));(simp only[go_sem,h1];refine hK _ ?_;clear hK K))|((with_reducible refine Q0b ?_ ?_);rfl;intro K hK;simp only[go_sem,h1];((repeat(refine ndI (by first|assumption) ?_));refine hK _ ?_;clear hK K))|(with_reducible first|(refine Q0c ?_;refine hR _ ?_;clear hR R)|((first|refine Q0d ?_|refine Q0f ?_);intro J hJ hJ')|(refine Q0a ?_;intro R hR)|(refine hJ _ ?_;clear hJ hJ' J)|refine Q0g ?_)|((with_reducible apply Q0e);rfl;rfl;all_goals(intro hc;first|(cases hc;done)|(try simp only at hc)))|((with_reducible refine Q0v ?_ ?_);kernel_rfl;(with_reducible refine hR _ ?_);clear hR R)|((first|((with_reducible apply Q1j);rfl;rfl;((first|(apply Q0u (rw');rfl;rfl;rfl;rfl;exact Tryz.func80));kernel_rfl;rfl;(focus((simp only[go_sem,h1]);(try rfl);done));(first|rfl)))|((with_reducible apply Q0t);rfl;rfl;(simp only[rdE,rdOf,go_sem,h1];rfl);(intro τ hA hQ hN;((try simp only[Q1e,Op.operands,Call.operands,go_sem,h1,go_sem,List.mem_cons,List.not_mem_nil,forall_eq_or_imp,forall_eq,List.append_toArray,Option.toArray] at hA);(try simp only[go_sem,h1,List.mem_cons,List.not_mem_nil,forall_eq_or_imp,forall_eq] at hQ hN);(first|(revert hA;intro hA));(first|(revert hQ;intro hQ));(first|(revert hN;intro hN));simp only[go_sem,h1,go_sem,hA,hQ,hN];(repeat(refine ndI (by first|assumption) ?_));(first|apply Q1a)))));(simp only[St.eff,setO,Q0w,go_sem,h1]))|((with_reducible refine Q0r ?_ ?_ ?_ ?_);kernel_rfl;kernel_rfl;(first|kernel_rfl);intro R hR))))
 refine Q1t (α:={i:Nat // i≤bs.length∧(bs.drop i).any (Q5d key)=r}) (fun q=>⟨[.any,.any,.any,.any,.any,.ptr 5 0,vb false,wsl false bs,vi .i64 (q.1:Int),.any,.any,.any,.any,.any,.any,.any,.any,.any,.any,.any,.any,.any,.any,.any,.any,.any,.any,.any],[(5,cN key)]⟩) (fun q=>bs.length-q.1) ⟨0,Nat.zero_le _,hr'⟩ (St.le_of (by simp[leT]) (by simp[leH,hget])) ?_
 rintro ⟨i,hi,hd⟩ J hJ hJ'
 (try dsimp only at hi hd hJ ⊢)
 clear rb rw'
 rcases Nat.lt_or_ge i bs.length with hlt|hge
 · obtain⟨y,hy⟩:∃y,bs[i]? = some y:=⟨_,List.getElem?_eq_getElem hlt⟩
   have k1:(decide ((i:Int)<(bs.length:Int)))=true:=by simpa using hlt
   have k2:=wsl_at hy
   have k7:(i:Int)+1=((i+1:Nat):Int):=by omega
   have hdr:bs.drop i=y::bs.drop (i+1):=by
    rw[List.drop_eq_getElem_cons hlt]
    rw[List.getElem?_eq_getElem hlt] at hy
    rw[Option.some.inj hy]
   have nr:=nearR_fn key y hk (hbo y (List.mem_of_getElem? hy))
   rw[hdr,List.any_cons] at hd
   cases hxy:Q5d key y
   · rw[hxy,Bool.false_or] at hd
     rw[hxy] at nr
     have hJ1:=fun σ'=>hJ σ' ⟨i+1,hlt,hd⟩ (by dsimp only;omega)
     dsimp only at hJ1
     clear hd hdr hxy
     (have W:=ndI k1 (ndI k2 (ndI k7 @wrI));(repeat(any_goals(first|((with_reducible refine Q0b ?_ ?_);rfl;intro K hK;simp(disch:=omega) only[go_sem,W];((repeat(refine ndI (by first|assumption|rfl) ?_));refine hK _ ?_;clear hK K))|(with_reducible first|(refine Q0c ?_;refine hR _ ?_;clear hR R)|((first|refine Q0d ?_|refine Q0f ?_);intro J hJ hJ')|(refine Q0a ?_;intro R hR)|(refine hJ _ ?_;clear hJ hJ' J)|refine Q0g ?_)|((with_reducible refine hJ' _ _ ?_ ?_);(focus(simp;done));clear hJ hJ' J)|((with_reducible apply Q0e);rfl;rfl;all_goals(intro hc;first|(cases hc;done)|(try simp only at hc)))|((with_reducible refine Q0v ?_ ?_);kernel_rfl;(with_reducible refine hR _ ?_);clear hR R)|((first|((with_reducible apply Q1j);rfl;rfl;((apply Q0u (nr);rfl;rfl;rfl;rfl;exact Tryz.func82);kernel_rfl;rfl;(focus((simp(disch:=omega) only[go_sem,W]);(try rfl);done));(first|rfl)))|((with_reducible apply Q0t);rfl;rfl;(simp(disch:=omega) only[rdE,rdOf,go_sem,W];rfl);(intro τ hA hQ hN;((try simp only[Q1e,Op.operands,Call.operands,go_sem,W,go_sem,List.mem_cons,List.not_mem_nil,forall_eq_or_imp,forall_eq,List.append_toArray,Option.toArray] at hA);(try simp only[go_sem,W,List.mem_cons,List.not_mem_nil,forall_eq_or_imp,forall_eq] at hQ hN);(first|(revert hA;intro hA));(first|(revert hQ;intro hQ));(first|(revert hN;intro hN));simp(disch:=omega) only[go_sem,W,go_sem,hA,hQ,hN];(repeat(refine ndI (by first|assumption|omega|rfl) ?_));(first|apply Q1a)))));(simp(disch:=omega) only[St.eff,setO,Q0w,go_sem,W]))|((with_reducible refine Q0r ?_ ?_ ?_ ?_);kernel_rfl;kernel_rfl;(first|kernel_rfl);intro R hR)))))
     all_goals exact hJ1 _ (St.le_of (by simp[leT]) (by simp[leH,hget]))
   · rw[hxy,Bool.true_or] at hd
     rw[hxy] at nr
     have hd:r=true:=hd.symm
     clear hdr hxy
     (have W:=ndI k1 (ndI k2 (ndI k7 @wrI));(repeat(any_goals(first|((with_reducible refine Q0b ?_ ?_);rfl;intro K hK;simp(disch:=omega) only[go_sem,W];((repeat(refine ndI (by first|assumption|rfl) ?_));refine hK _ ?_;clear hK K))|(with_reducible first|(refine Q0c ?_;refine hR _ ?_;clear hR R)|((first|refine Q0d ?_|refine Q0f ?_);intro J hJ hJ')|(refine Q0a ?_;intro R hR)|(refine hJ _ ?_;clear hJ hJ' J)|refine Q0g ?_|refine Q0j ?_)|((with_reducible refine hJ' _ _ ?_ ?_);(focus(simp;done));clear hJ hJ' J)|((with_reducible apply Q0e);rfl;rfl;all_goals(intro hc;first|(cases hc;done)|(try simp only at hc)))|((with_reducible refine Q0v ?_ ?_);kernel_rfl;(with_reducible refine hR _ ?_);clear hR R)|((first|((with_reducible apply Q1j);rfl;rfl;((apply Q0u (nr);rfl;rfl;rfl;rfl;exact Tryz.func82);kernel_rfl;rfl;(focus((simp(disch:=omega) only[go_sem,W]);(try rfl);done));(first|rfl)))|((with_reducible apply Q0t);rfl;rfl;(simp(disch:=omega) only[rdE,rdOf,go_sem,W];rfl);(intro τ hA hQ hN;((try simp only[Q1e,Op.operands,Call.operands,go_sem,W,go_sem,List.mem_cons,List.not_mem_nil,forall_eq_or_imp,forall_eq,List.append_toArray,Option.toArray] at hA);(try simp only[go_sem,W,List.mem_cons,List.not_mem_nil,forall_eq_or_imp,forall_eq] at hQ hN);(first|(revert hA;intro hA));(first|(revert hQ;intro hQ));(first|(revert hN;intro hN));simp(disch:=omega) only[go_sem,W,go_sem,hA,hQ,hN];(repeat(refine ndI (by first|assumption|omega|rfl) ?_));(first|apply Q1a)))));(simp(disch:=omega) only[St.eff,setO,Q0w,go_sem,W]))|((with_reducible refine Q0r ?_ ?_ ?_ ?_);kernel_rfl;kernel_rfl;(first|kernel_rfl);intro R hR)))))
     all_goals rw[hd]
     all_goals(refine⟨by simp,⟨_,?_,AV.le_refl _⟩,Q0h (by simp[leH,hget])⟩;simp only[Tryz.results50,resL,ldA,Q0q,go_sem])
 · have k1:(decide ((i:Int)<(bs.length:Int)))=false:=by simpa using hge
   rw[List.drop_eq_nil_of_le hge] at hd
   have hd:r=false:=hd.symm
   (repeat(any_goals(first|((with_reducible refine Q0b ?_ ?_);rfl;intro K hK;simp only[go_sem,k1];((repeat(refine ndI (by first|assumption) ?_));refine hK _ ?_;clear hK K))|(with_reducible first|(refine Q0c ?_;refine hR _ ?_;clear hR R)|((first|refine Q0d ?_);intro J hJ hJ')|(refine Q0a ?_;intro R hR)|(refine hJ _ ?_;clear hJ hJ' J)|refine Q0j ?_|refine Q0o ?_)|((with_reducible refine hJ' _ _ ?_ ?_);(focus(simp;done));clear hJ hJ' J)|((with_reducible apply Q0e);rfl;rfl;all_goals(intro hc;first|(cases hc;done)|(try simp only at hc))))))
   all_goals rw[hd]
   all_goals(refine⟨by simp,⟨_,?_,AV.le_refl _⟩,Q0h (by simp[leH,hget])⟩;simp only[Tryz.results50,resL,ldA,Q0q,go_sem])
abbrev alR(c:Cs)(r:Nat)(out:List Ev)(i:Nat):St:=⟨[.any,.ptr 1 0,.c (.v (.slice none 0 0)),.row r evT 14 out.length,.any,.any,.any,phs false c.ph,vi .i64 c.ph.length,vi .i64 i,.any,.any,.any,.any,.any,.any,.any,.any,.any],[(1,[vi .u64 c.snd,phs false c.ph,asl false c.cd]),(r,raE out)]⟩
theorem alR_rn(c:Cs)(out:List Ev)(i:Nat):(alR c 16 out i).to (alR c 500 out i):=by
 have h:=St.to.rn (σ:=alR c 16 out i) (fun r=>if r=16 then 500 else r) (fun r=>if r=500 then 16 else r) [16,1] (by simp[AV.inNL,AV.inN]) (by simp) (by simp[inH,AV.inNL,AV.inN,Q1b]) (by simp) (by simp)
 simpa [AV.renL,AV.ren,renH] using h
theorem rall_fn(c:Cs)(hpl:c.ph.length≤1000)(hal:(c.ph.flatMap Ph.tr).length≤1000):Fn Tryz.prog 42 [csA c] [] (evs false (c.ph.flatMap Ph.tr)) []:=by
 have hrow:Fn Tryz.prog 42 [csA c] [] (.row 500 evT 14 (c.ph.flatMap Ph.tr).length) [(500,raE (c.ph.flatMap Ph.tr))]:=by
  (refine Q0z Tryz.func42 rfl (by rfl) ?_;simp only[Tryz.ntmps42,List.length_cons,List.length_nil,Nat.reduceAdd,Nat.reduceSub,List.replicate,List.cons_append,List.nil_append])
  (repeat(any_goals(first|((with_reducible refine Q0b ?_ ?_);rfl;intro K hK;simp only[go_sem];((repeat(refine ndI (by first|assumption) ?_));refine hK _ ?_;clear hK K))|(with_reducible first|(refine Q0c ?_;refine hR _ ?_;clear hR R)|((first|refine Q0d ?_|refine Q0f ?_);intro J hJ hJ')|(refine Q0a ?_;intro R hR)|(refine hJ _ ?_;clear hJ hJ' J)))))
  refine Q3u c.ph.length (fun i=>alR c 500 ((c.ph.take i).flatMap Ph.tr) i) ?_ ?_
  · refine St.to.trans (St.to.of_le (τ:=⟨[.any,.ptr 1 0,.c (.v (.slice none 0 0)),.c (.v (.slice none 0 0)),.any,.any,.any,phs false c.ph,vi .i64 c.ph.length,vi .i64 0,.any,.any,.any,.any,.any,.any,.any,.any,.any],[(1,[vi .u64 c.snd,phs false c.ph,asl false c.cd])]⟩) (St.le_of (by simp[leT]) (by simp[leH,hget]))) ?_
    refine St.to.trans (St.to.nilrow 3 500 evT 14 rfl (by simp) (by simp[St.free,Q1w,AV.refsL,AV.refs]) (by decide)) (St.to.of_le (St.le_of (by simp[leT]) (by simp[leH,hget,hput])))
  intro i hi J hJ hJ'
  (try dsimp only at hJ ⊢)
  rcases Nat.lt_or_ge i c.ph.length with hlt|hge
  · obtain⟨y,hy⟩:∃y,c.ph[i]? = some y:=⟨_,List.getElem?_eq_getElem hlt⟩
    have c1:(decide ((i:Int)<(c.ph.length:Int)))=true:=by simpa using hlt
    have c2:=X1e hy
    have c7:(i:Int)+1=((i+1:Nat):Int):=by omega
    have d2:(c.ph.take (i+1)).flatMap Ph.tr=(c.ph.take i).flatMap Ph.tr++y.tr:=by
     rw[List.take_add_one,hy,List.flatMap_append];simp
    have b1:((c.ph.take i).flatMap Ph.tr).length+y.tr.length≤1000:=by
     have h:=congrArg List.length (congrArg (List.flatMap Ph.tr) (List.take_append_drop (i+1) c.ph))
     rw[List.flatMap_append,List.length_append,d2,List.length_append] at h
     omega
    have fin:=fun σ'=>hJ σ' hlt
    rw[d2] at fin
    generalize (c.ph.take i).flatMap Ph.tr=out at b1 fin ⊢
    dsimp only[alR]
    have x1:∀d,AV.refsL d (raE out)=false:=fun d=>Q0l d _
    have x2:=Q9x out
    have x3:(y.tr.flatMap Ev.pv).length=y.tr.length*14:=Q0p X0i _
    have x4:((y.tr.flatMap Ev.pv).map AV.c).length=y.tr.length*14:=by rw[List.length_map,x3]
    clear d2
    (repeat(any_goals(first|((with_reducible refine Q0b ?_ ?_);rfl;intro K hK;simp(disch:=omega) only[go_sem,c1,c2,c7,x1,x2,x3,x4,Q0l,wrI];((repeat(refine ndI (by first|assumption|omega|rfl) ?_));refine hK _ ?_;clear hK K))|(with_reducible first|(refine Q0c ?_;refine hR _ ?_;clear hR R)|((first|refine Q0d ?_|refine Q0f ?_);intro J hJ hJ')|(refine Q0a ?_;intro R hR)|(refine hJ _ ?_;clear hJ hJ' J)|refine Q0g ?_)|((with_reducible refine hJ' _ _ ?_ ?_);(focus(simp;done));clear hJ hJ' J)|((with_reducible apply Q0e);rfl;rfl;all_goals(intro hc;first|(cases hc;done)|(try simp only at hc))))))
    all_goals exact fin _ (St.to.trans (St.to.of_le (τ:=alR c 16 (out++y.tr) (i+1)) (St.le_of (by simp[leT]) (by simp[leH,hget,raE]))) (alR_rn c _ _))
  · have c1:(decide ((i:Int)<(c.ph.length:Int)))=false:=by simpa using hge
    rw[List.take_of_length_le hge]
    dsimp only[alR]
    (repeat(any_goals(first|((with_reducible refine Q0b ?_ ?_);rfl;intro K hK;simp only[go_sem,c1];((repeat(refine ndI (by first|assumption) ?_));refine hK _ ?_;clear hK K))|(with_reducible first|(refine Q0c ?_;refine hR _ ?_;clear hR R)|((first|refine Q0d ?_);intro J hJ hJ')|(refine Q0a ?_;intro R hR)|(refine hJ _ ?_;clear hJ hJ' J)|refine Q0j ?_|refine Q0o ?_)|((with_reducible refine hJ' _ _ ?_ ?_);(focus(simp;done));clear hJ hJ' J)|((with_reducible apply Q0e);rfl;rfl;all_goals(intro hc;first|(cases hc;done)|(try simp only at hc))))))
    all_goals exact⟨by simp,⟨_,rfl,AV.le_refl _⟩,Q0h (by simp[leH,hget])⟩
 have h1:=hrow.frzG
 generalize c.ph.flatMap Ph.tr=AL at h1 ⊢
 simpa [AV.frz,AV.frzL,Q0p X0i] using h1
def belB(c:Cs)(s:Sp)(a:Int):Bool:=(s.a==a)||(eqwB a s.k||(Q2i (ownL a) (c.ph.flatMap Ph.tr)).any (Q5d s.k))
theorem rbel_fn(c:Cs)(hc:c.ok)(hr:trB (c.ph.flatMap Ph.tr)=true)(hal:(c.ph.flatMap Ph.tr).length≤1000)(s:Sp)(hs:s.ok)(a:Int)(ha:U a):Fn Tryz.prog 15 [csA c,spA s,vi .u64 a] [] (vb (belB c s a)) []:=by
 have al:=rall_fn c hc.2.1.1 hal
 have as':=rassoc_fn (c.ph.flatMap Ph.tr) hal (Z0t hc) hr a ha s.k hs.2
 unfold belB
 generalize (eqwB a s.k||(Q2i (ownL a) (c.ph.flatMap Ph.tr)).any (Q5d s.k))=b2 at as' ⊢
 obtain⟨b1,h1⟩:∃b,(s.a==a)=b:=⟨_,rfl⟩
 rw[h1]
 generalize c.ph.flatMap Ph.tr=AL at al as'
 clear hr hal
 cases b1 with
 |true=>
  (refine Q0z Tryz.func15 rfl (by rfl) ?_;simp only[Tryz.ntmps15,List.length_cons,List.length_nil,Nat.reduceAdd,Nat.reduceSub,List.replicate,List.cons_append,List.nil_append])
  (repeat(any_goals(first|((with_reducible refine Q0b ?_ ?_);rfl;intro K hK;simp only[go_sem,h1];((repeat(refine ndI (by first|assumption) ?_));refine hK _ ?_;clear hK K))|(with_reducible first|(refine Q0c ?_;refine hR _ ?_;clear hR R)|((first|refine Q0d ?_);intro J hJ hJ')|(refine Q0a ?_;intro R hR)|(refine hJ _ ?_;clear hJ hJ' J)|refine Q0j ?_)|((with_reducible refine Q0v ?_ ?_);kernel_rfl;(with_reducible refine hR _ ?_);clear hR R)|((first|((with_reducible apply Q3e);rfl;rfl;rfl;rfl)|((first|((with_reducible apply Q0t);rfl;rfl));(simp only[rdE,rdOf,go_sem,h1];rfl);(intro τ hA hQ hN;((try simp only[Q1e,Op.operands,Call.operands,go_sem,h1,go_sem,List.mem_cons,List.not_mem_nil,forall_eq_or_imp,forall_eq,List.append_toArray,Option.toArray] at hA);(try simp only[go_sem,h1,List.mem_cons,List.not_mem_nil,forall_eq_or_imp,forall_eq] at hQ hN);(first|(revert hA;intro hA));(first|(revert hQ;intro hQ));(first|(revert hN;intro hN));simp only[go_sem,h1,go_sem,hA,hQ,hN];(repeat(refine ndI (by first|assumption) ?_));(first|apply Q1a)))));(simp only[St.eff,setO,Q0w,go_sem,h1]))|((with_reducible refine Q0r ?_ ?_ ?_ ?_);kernel_rfl;kernel_rfl;(first|kernel_rfl);intro R hR))))
  all_goals(refine⟨by simp,⟨_,?_,AV.le_refl _⟩,Q0h (by simp[leH,hget])⟩;simp only[Tryz.results15,resL,ldA,Q0q,go_sem])
 |false=>
  (refine Q0z Tryz.func15 rfl (by rfl) ?_;simp only[Tryz.ntmps15,List.length_cons,List.length_nil,Nat.reduceAdd,Nat.reduceSub,List.replicate,List.cons_append,List.nil_append])
  (repeat(any_goals(first|((with_reducible refine Q0b ?_ ?_);rfl;intro K hK;simp only[go_sem,h1];((repeat(refine ndI (by first|assumption) ?_));refine hK _ ?_;clear hK K))|(with_reducible first|(refine Q0c ?_;refine hR _ ?_;clear hR R)|((first|refine Q0d ?_);intro J hJ hJ')|(refine Q0a ?_;intro R hR)|(refine hJ _ ?_;clear hJ hJ' J)|refine Q0j ?_)|((with_reducible refine Q0v ?_ ?_);kernel_rfl;(with_reducible refine hR _ ?_);clear hR R)|((first|((first|((with_reducible apply Q2y);rfl;rfl;rfl;rfl;rfl));((first|(apply Q0u (al);rfl;rfl;rfl;rfl;exact Tryz.func42)|(apply Q0u (as');rfl;rfl;rfl;rfl;exact Tryz.func50));kernel_rfl;rfl;(focus((simp only[go_sem,h1]);(try rfl);done));(first|rfl)))|((first|((with_reducible apply Q0t);rfl;rfl)|((with_reducible apply Q2v);rfl;rfl;rfl;rfl;rfl));(simp only[rdE,rdOf,go_sem,h1];rfl);(intro τ hA hQ hN;((try simp only[Q1e,Op.operands,Call.operands,go_sem,h1,go_sem,List.mem_cons,List.not_mem_nil,forall_eq_or_imp,forall_eq,List.append_toArray,Option.toArray] at hA);(try simp only[go_sem,h1,List.mem_cons,List.not_mem_nil,forall_eq_or_imp,forall_eq] at hQ hN);(first|(revert hA;intro hA));(first|(revert hQ;intro hQ));(first|(revert hN;intro hN));simp only[go_sem,h1,go_sem,hA,hQ,hN];(repeat(refine ndI (by first|assumption) ?_));(first|apply Q1a)))));(simp only[St.eff,setO,Q0w,go_sem,h1]))|((with_reducible refine Q0r ?_ ?_ ?_ ?_);kernel_rfl;kernel_rfl;(first|kernel_rfl);intro R hR))))
  all_goals(refine⟨by simp,⟨_,?_,AV.le_refl _⟩,Q0h (by simp[leH,hget])⟩;simp only[Tryz.results15,resL,ldA,Q0q,go_sem])
end Go.Proofs.YtgdjkkapgghdbaaGreatDoor
namespace Go.Proofs.YtgdjkkapgghdbaaGreatDoor
open Go.RowKit
open Nat (reduceBEq)
attribute [-go_sem] IntKind.bits
set_option maxRecDepth 20000
set_option maxHeartbeats 4000000
end Go.Proofs.YtgdjkkapgghdbaaGreatDoor
namespace Go.Proofs.YtgdjkkapgghdbaaGreatDoor
open Go.RowKit
open Nat (reduceBEq)
attribute [-go_sem] IntKind.bits
set_option maxRecDepth 20000
set_option maxHeartbeats 4000000
end Go.Proofs.YtgdjkkapgghdbaaGreatDoor
namespace Go.Proofs.YtgdjkkapgghdbaaGreatDoor
open Go.RowKit
theorem bases_app(W:List Nat)(a b:List Ev):Q2i W (a++b)=Q2i W a++Q2i W b:=by
 unfold Q2i selG
 rw[List.filter_append,List.filterMap_append]
theorem X7a(a:Int)(s:Sp):∀l:List Ph,(∀p∈l,trB p.tr=true)→l≠[]→l.any (assP a s)=(eqwB a s.k||(Q2i (ownL a) (l.flatMap Ph.tr)).any (Q5d s.k))
 |[],_,h=>absurd rfl h
 |[p],hp,_=>by
  have h1:=hp p (by simp)
  unfold assP X7b
  simp[h1]
 |p::q::l,hp,_=>by
  have h1:=hp p (by simp)
  have ih:=X7a a s (q::l) (fun x hx=>hp x (List.mem_cons_of_mem _ hx)) (by simp)
  have e:Q2i (ownL a) ((p::q::l).flatMap Ph.tr)=Q2i (ownL a) p.tr++Q2i (ownL a) ((q::l).flatMap Ph.tr):=by rw[List.flatMap_cons,bases_app]
  rw[e,List.any_append,List.any_cons,ih]
  show(X7b a s.k p.tr||_)=_
  unfold X7b
  rw[h1,Bool.true_and]
  generalize (Q2i (ownL a) ((q::l).flatMap Ph.tr)).any (Q5d s.k)=x
  generalize (Q2i (ownL a) p.tr).any (Q5d s.k)=y
  generalize eqwB a s.k=z
  cases x<;>cases y<;>cases z<;>rfl
theorem case_ne{c:Cs}(hc:Q4b c=true):c.ph≠[]:=fun e=>by
 unfold Q4b at hc
 rw[e] at hc
 simp at hc
theorem bel_eq{c:Cs}(hc:Q4b c=true)(s:Sp)(a:Int):belB c s a=Q2o c s a:=by
 unfold belB Q2o
 rw[X7a a s c.ph (X4h hc) (case_ne hc)]
end Go.Proofs.YtgdjkkapgghdbaaGreatDoor
namespace Go.Proofs.YtgdjkkapgghdbaaGreatDoor
open Go.RowKit
open Nat (reduceBEq)
attribute [-go_sem] IntKind.bits
set_option maxRecDepth 20000
set_option maxHeartbeats 4000000
def inS(s:Sp):Bool→List Sp→List Sp
 |laid,[]=>if laid then[] else[s]
 |laid,q::l=>(if laid=false∧¬q.key<s.key then[s] else[])++((if q=s then[] else[q])++inS s (laid || !decide (q.key<s.key)) l)
theorem X3l(s:Sp):∀l:List Sp,(inS s true l).length≤l.length
 |[]=>by simp[inS]
 |q::l=>by
  have h:=X3l s l
  unfold inS
  rw[if_neg (by simp),Bool.true_or]
  split<;>simp<;>omega
theorem X8a(s:Sp):∀(laid:Bool) (l:List Sp),(inS s laid l).length≤l.length+1
 |laid,[]=>by cases laid<;>simp[inS]
 |true,q::l=>by have:=X3l s (q::l);omega
 |false,q::l=>by
  have h:=X8a s false l
  have h1:=X3l s l
  unfold inS
  by_cases hq:q.key<s.key
  · rw[if_neg (fun h=>h.2 hq),decide_eq_true hq,Bool.not_true,Bool.or_false]
    split<;>simp<;>omega
  · rw[if_pos ⟨rfl,hq⟩,decide_eq_false hq,Bool.not_false,Bool.or_true]
    split<;>simp<;>omega
theorem Q6g(s:Sp):∀(l:List Sp) (x:Sp),x∈inS s true l↔x∈l∧x≠s
 |[],x=>by simp[inS]
 |q::l,x=>by
  have h:=Q6g s l x
  unfold inS
  rw[if_neg (by simp),Bool.true_or,List.nil_append,List.mem_append,h]
  by_cases hq:q=s
  · rw[if_pos hq];subst hq
    simp only[List.not_mem_nil,false_or,List.mem_cons]
    constructor
    · rintro ⟨h1,h2⟩;exact⟨.inr h1,h2⟩
    · rintro ⟨h1|h1,h2⟩
      · exact absurd h1 h2
      · exact⟨h1,h2⟩
  · rw[if_neg hq]
    simp only[List.mem_cons,List.not_mem_nil,or_false]
    constructor
    · rintro (rfl|⟨h1,h2⟩)
      · exact⟨.inl rfl,hq⟩
      · exact⟨.inr h1,h2⟩
    · rintro ⟨h1|h1,h2⟩
      · exact .inl h1
      · exact .inr ⟨h1,h2⟩
theorem X3k(s:Sp):∀(l:List Sp) (x:Sp),x∈inS s false l↔x=s∨x∈l
 |[],x=>by simp[inS]
 |q::l,x=>by
  have h:=X3k s l x
  have h1:=Q6g s l x
  unfold inS
  by_cases hq:q.key<s.key
  · rw[if_neg (fun h=>h.2 hq),decide_eq_true hq,Bool.not_true,Bool.or_false,List.nil_append,List.mem_append,h]
    have hne:q≠s:=fun e=>by rw[e] at hq;omega
    rw[if_neg hne]
    simp only[List.mem_cons,List.not_mem_nil,or_false]
    constructor
    · rintro (h|h|h)
      · exact .inr (.inl h)
      · exact .inl h
      · exact .inr (.inr h)
    · rintro (h|h|h)
      · exact .inr (.inl h)
      · exact .inl h
      · exact .inr (.inr h)
  · rw[if_pos ⟨rfl,hq⟩,decide_eq_false hq,Bool.not_false,Bool.or_true,List.mem_append,List.mem_append,h1]
    by_cases he:q=s
    · rw[if_pos he];subst he
      simp only[List.not_mem_nil,false_or,or_false,List.mem_cons]
      constructor
      · rintro (h|⟨h,_⟩)
        · exact .inl h
        · exact .inr (.inr h)
      · rintro (h|h|h)
        · exact .inl h
        · exact .inl h
        · by_cases hx:x=q
          · exact .inl hx
          · exact .inr ⟨h,hx⟩
    · rw[if_neg he]
      simp only[List.mem_cons,List.not_mem_nil,or_false]
      constructor
      · rintro (h|h|⟨h,_⟩)
        · exact .inl h
        · exact .inr (.inl h)
        · exact .inr (.inr h)
      · rintro (h|h|h)
        · exact .inl h
        · exact .inr (.inl h)
        · by_cases hx:x=s
          · exact .inl hx
          · exact .inr (.inr ⟨h,hx⟩)
theorem X6f(s:Sp):∀l:List Sp,l.Pairwise (fun x y=>x.key<y.key)→(inS s true l).Pairwise (fun x y=>x.key<y.key)
 |[],_=>by simp[inS]
 |q::l,h=>by
  rw[List.pairwise_cons] at h
  have ih:=X6f s l h.2
  unfold inS
  rw[if_neg (by simp),Bool.true_or,List.nil_append]
  by_cases hq:q=s
  · rw[if_pos hq];exact ih
  · rw[if_neg hq]
    exact List.pairwise_cons.2 ⟨fun x hx=>h.1 x ((Q6g s l x).1 hx).1,ih⟩
theorem X9v(s:Sp)(os:s.ok):∀l:List Sp,(∀x∈l,x.ok)→l.Pairwise (fun x y=>x.key<y.key)→(inS s false l).Pairwise (fun x y=>x.key<y.key)
 |[],_,_=>by simp[inS]
 |q::l,ho,h=>by
  rw[List.pairwise_cons] at h
  have ih:=X9v s os l (fun x hx=>ho x (by simp[hx])) h.2
  have ih1:=X6f s l h.2
  unfold inS
  by_cases hq:q.key<s.key
  · have hne:q≠s:=fun e=>by rw[e] at hq;omega
    rw[if_neg (fun h=>h.2 hq),decide_eq_true hq,Bool.not_true,Bool.or_false,List.nil_append,if_neg hne]
    refine List.pairwise_cons.2 ⟨fun x hx=>?_,ih⟩
    rcases(X3k s l x).1 hx with rfl|hx
    · exact hq
    · exact h.1 x hx
  · rw[if_pos ⟨rfl,hq⟩,decide_eq_false hq,Bool.not_false,Bool.or_true]
    by_cases he:q=s
    · rw[if_pos he];subst he
      exact List.pairwise_cons.2 ⟨fun x hx=>h.1 x ((Q6g q l x).1 (by simpa using hx)).1,by simpa using ih1⟩
    · have hlt:s.key<q.key:=by
       have:s.key≠q.key:=fun e=>he (Sp.key_inj (ho q (by simp)) os e.symm)
       omega
      rw[if_neg he]
      refine List.pairwise_cons.2 ⟨fun x hx=>?_,List.pairwise_cons.2 ⟨fun x hx=>h.1 x ((Q6g s l x).1 hx).1,ih1⟩⟩
      rcases List.mem_cons.1 hx with rfl|hx
      · exact hlt
      · have:=h.1 x ((Q6g s l x).1 hx).1;omega
theorem inS_drop{s:Sp}{l:List Sp}{i:Nat}{q:Sp}(h:l[i]? = some q)(laid:Bool):inS s laid (l.drop i)=(if laid=false∧¬q.key<s.key then[s] else[])++((if q=s then[] else[q])++inS s (laid || !decide (q.key<s.key)) (l.drop (i+1))):=by
 have hi:=(List.getElem?_eq_some_iff.1 h).1
 have e:l.drop i=q::l.drop (i+1):=by
  rw[List.drop_eq_getElem_cons hi]
  rw[List.getElem?_eq_getElem hi] at h
  rw[Option.some.inj h]
 rw[e]
 rfl
abbrev spL(s:Sp):List AV:=[vi .u64 s.a,vi .u64 (l0 s.k),vi .u64 (l1 s.k),vi .u64 (l2 s.k),vi .u64 (l3 s.k)]
abbrev sxL(l:List Sp):List AV:=[nilA,spl5 false l,nilA]
abbrev soR(l:List Sp)(s:Sp)(r:Nat)(out:List Sp)(laid:Bool)(i:Nat):St:=⟨[.any,.any,.ptr 2 0,.ptr 3 0,.ptr 4 0,vb false,vb false,.row r 37 5 out.length,vb laid,.any,vi .i64 (i:Int),.any,.any,.any,.any,.any,.any,.any,.any,.any,.any,.any,.any,.any,.any,.any,.any,.any,.any,.any,.any,.any,.any,.any,.any,.any,.any,.any,.any,.any,.any,.any,.any,.any,.any,.any,.any,.any,.any,.any,.any,.any,.any,.any,.any,.any,.any,.any,.any,.any,.any,.any,.any,.any,.any,.any,.any,.any,.any,.any],[(2,sxL l),(3,spL s),(4,[nilA,nilA,nilA]),(r,raS out)]⟩
theorem soR_rna(l:List Sp)(s:Sp)(out:List Sp)(laid:Bool)(i:Nat):(soR l s 40 out laid i).to (soR l s 500 out laid i):=by
 have h:=St.to.rn (σ:=soR l s 40 out laid i) (fun r=>if r=40 then 500 else r) (fun r=>if r=500 then 40 else r) [2,3,4,40] (by simp[AV.inNL,AV.inN]) (by simp) (by simp[inH,AV.inNL,AV.inN]) (by simp) (by simp)
 simpa [AV.renL,AV.ren,renH] using h
theorem X2p(l:List Sp)(s:Sp)(out:List Sp)(laid:Bool)(i:Nat):(soR l s 55 out laid i).to (soR l s 500 out laid i):=by
 have h:=St.to.rn (σ:=soR l s 55 out laid i) (fun r=>if r=55 then 500 else r) (fun r=>if r=500 then 55 else r) [2,3,4,55] (by simp[AV.inNL,AV.inN]) (by simp) (by simp[inH,AV.inNL,AV.inN]) (by simp) (by simp)
 simpa [AV.renL,AV.ren,renH] using h
theorem soR_rnc(l:List Sp)(s:Sp)(out:List Sp)(laid:Bool)(i:Nat):(soR l s 500 out laid i).to (soR l s 61 out laid i):=by
 have h:=St.to.rn (σ:=soR l s 500 out laid i) (fun r=>if r=500 then 61 else r) (fun r=>if r=61 then 500 else r) [2,3,4,500] (by simp[AV.inNL,AV.inN]) (by simp) (by simp[inH,AV.inNL,AV.inN]) (by simp) (by simp)
 simpa [AV.renL,AV.ren,renH] using h
theorem Z1h(l:List Sp)(hl:l.length≤399)(ol:∀x∈l,x.ok)(s:Sp)(os:s.ok):Fn Tryz.prog 115 [.agg (sxL l),spA s] [] (.tup [.agg [nilA,.row 61 37 5 (inS s false l).length,nilA],.any,vb true]) [(61,raS (inS s false l))]:=by
 have hlen:=X8a s false l
 obtain⟨RR,hR⟩:∃RR,inS s false l=RR:=⟨_,rfl⟩
 rw[hR] at hlen
 rw[hR]
 have k9:decide ((RR.length:Int)>400)=false:=decide_eq_false (by omega)
 (refine Q0z Tryz.func115 rfl (by rfl) ?_;simp only[Tryz.ntmps115,List.length_cons,List.length_nil,Nat.reduceAdd,Nat.reduceSub,List.replicate,List.cons_append,List.nil_append])
 (repeat(any_goals(first|((with_reducible refine Q0b ?_ ?_);rfl;intro K hK;simp only[go_sem];((repeat(refine ndI (by first|assumption) ?_));refine hK _ ?_;clear hK K))|(with_reducible first|(refine Q0c ?_;refine hR _ ?_;clear hR R)|((first|refine Q0d ?_|refine Q0f ?_);intro J hJ hJ')|(refine Q0a ?_;intro R hR)|(refine hJ _ ?_;clear hJ hJ' J)))))
 refine X6n (α:={p:Nat×List Sp×Bool // p.1≤l.length∧p.2.1++inS s p.2.2 (l.drop p.1)=RR}) (fun p=>soR l s 500 p.1.2.1 p.1.2.2 p.1.1) (fun p=>l.length-p.1.1) ⟨(0,[],false),Nat.zero_le _,by simpa using hR⟩ ?_ ?_
 · refine(St.to.nilrow 7 500 37 5 rfl (by simp) (by simp[St.free,Q1w,AV.refs,AV.refsL]) (by omega)).trans (St.to.of_le (St.le_of (by simp[leT]) (by simp[leH,hget,hput])))
 rintro ⟨⟨i,out,laid⟩,hi,hok⟩ J hJ hJ'
 (try dsimp only at hi hok hJ ⊢)
 have ln:out.length≤l.length+1:=by have:=congrArg List.length hok;rw[List.length_append] at this;omega
 have e1:(raS out).length=out.length*5:=by rw[List.length_map,Q0p Q4y]
 have e3:raS (out++[s])=raS out++[vi .u64 s.a,vi .u64 (l0 s.k),vi .u64 (l1 s.k),vi .u64 (l2 s.k),vi .u64 (l3 s.k)]:=by simp[raS,Sp.pv]
 clear hR
 by_cases hge:l.length≤i
 · have k1:(decide ((i:Int)<(l.length:Int)))=false:=decide_eq_false (by omega)
   rw[List.drop_eq_nil_of_le hge] at hok
   cases laid with
   |true=>
    have eo:out=RR:=by simpa [inS] using hok
    refine Q0d ?_
    intro J hJ hJ'
    refine Q0d ?_
    intro J hJ hJ'
    refine Q0a ?_
    intro R hR
    refine Z0c rfl (soR_rnc l s out true i) ?_
    rw[←eo] at k9
    (have W:=ndI k1 (ndI k9 @Q0l);(repeat(any_goals(first|((with_reducible refine Q0b ?_ ?_);rfl;intro K hK;simp(disch:=omega) only[go_sem,W];((repeat(refine ndI (by first|assumption|rfl) ?_));refine hK _ ?_;clear hK K))|(with_reducible first|(refine Q0c ?_;refine hR _ ?_;clear hR R)|((first|refine Q0d ?_);intro J hJ hJ')|(refine Q0a ?_;intro R hR)|(refine hJ _ ?_;clear hJ hJ' J)|refine Q0g ?_|refine Q0j ?_|refine Q0o ?_)|((with_reducible refine hJ' _ _ ?_ ?_);(focus(simp;done));clear hJ hJ' J)|((with_reducible apply Q0e);rfl;rfl;all_goals(intro hc;first|(cases hc;done)|(try simp only at hc)))))))
    all_goals rw[←eo]
    all_goals(refine⟨by simp,⟨_,?_,AV.le_refl _⟩,Q0h (by simp[leH,hget])⟩;simp only[Tryz.results115,resL,ldA,Q0q,go_sem])
   |false=>
    have eo:out++[s]=RR:=by simpa [inS] using hok
    have el:RR.length=out.length+1:=by rw[←eo];simp
    rw[el] at k9
    have k9':decide (((out.length:Int)+1)>400)=false:=by rw[←k9];exact decide_eq_decide.2 (by omega)
    (have W:=ndI k1 (ndI k9 (ndI k9' (ndI e1 @Q0l)));(repeat(any_goals(first|((with_reducible refine Q0b ?_ ?_);rfl;intro K hK;simp(disch:=omega) only[go_sem,W,Int.natCast_add,Int.natCast_one];((repeat(refine ndI (by first|assumption|omega|rfl) ?_));refine hK _ ?_;clear hK K))|(with_reducible first|(refine Q0c ?_;refine hR _ ?_;clear hR R)|((first|refine Q0d ?_);intro J hJ hJ')|(refine Q0a ?_;intro R hR)|(refine hJ _ ?_;clear hJ hJ' J)|refine Q0g ?_|refine Q0j ?_|refine Q0o ?_)|((with_reducible refine hJ' _ _ ?_ ?_);(focus(simp;done));clear hJ hJ' J)|((with_reducible apply Q0e);rfl;rfl;all_goals(intro hc;first|(cases hc;done)|(try simp only at hc)))))))
    all_goals rw[←eo,e3,List.length_append,List.length_cons,List.length_nil]
    all_goals(refine⟨by simp,⟨_,?_,AV.le_refl _⟩,Q0h (by simp[leH,hget])⟩;simp only[Tryz.results115,resL,ldA,Q0q,go_sem])
 have hlt:i<l.length:=by omega
 obtain⟨q,hq⟩:∃q,l[i]? = some q:=⟨_,List.getElem?_eq_getElem hlt⟩
 have qo:=ol q (List.mem_of_getElem? hq)
 have k1:(decide ((i:Int)<(l.length:Int)))=true:=decide_eq_true (by omega)
 have k2:=Q8g hq
 have k7:(i:Int)+1=((i+1:Nat):Int):=by omega
 have k3:=X1c qo os
 have bf:=before_fn q s qo os
 rw[inS_drop hq] at hok
 have e2:raS (out++[q])=raS out++(Sp.pv q).map .c:=by simp[raS]
 have e5:raS (out++[s]++[q])=raS out++[vi .u64 s.a,vi .u64 (l0 s.k),vi .u64 (l1 s.k),vi .u64 (l2 s.k),vi .u64 (l3 s.k)]++(Sp.pv q).map .c:=by simp[raS,Sp.pv]
 by_cases c1:q.key<s.key
 · have c2:¬q=s:=fun e=>by rw[e] at c1;omega
   rw[decide_eq_true c1] at bf
   rw[decide_eq_false c2] at k3
   rw[if_neg (show ¬(laid=false∧¬q.key<s.key) from fun h=>h.2 c1),if_neg c2,decide_eq_true c1,Bool.not_true,Bool.or_false,List.nil_append] at hok
   have hJ1:=fun σ'=>hJ σ' ⟨(i+1,out++[q],laid),hlt,(by simpa using hok)⟩ (by dsimp only;omega)
   dsimp only at hJ1
   clear hJ hok k9
   cases laid
   · (have W:=ndI k1 (ndI k2 (ndI k3 (ndI k7 (ndI e1 (ndI @Q0l @wrI)))));(repeat(any_goals(first|((with_reducible refine Q0b ?_ ?_);rfl;intro K hK;simp(disch:=omega) only[go_sem,W,Q0x,AV.refsL,AV.refs,List.length_append,List.length_cons,List.length_nil,Bool.or_false];((repeat(refine ndI (by first|assumption|omega|rfl) ?_));refine hK _ ?_;clear hK K))|(with_reducible first|(refine Q0c ?_;refine hR _ ?_;clear hR R)|((first|refine Q0d ?_|refine Q0f ?_);intro J hJ hJ')|(refine Q0a ?_;intro R hR)|(refine hJ _ ?_;clear hJ hJ' J)|refine Q0g ?_)|((with_reducible refine hJ' _ _ ?_ ?_);(focus(simp;done));clear hJ hJ' J)|((with_reducible apply Q0e);rfl;rfl;all_goals(intro hc;first|(cases hc;done)|(try simp only at hc)))|((with_reducible refine Q0v ?_ ?_);kernel_rfl;(with_reducible refine hR _ ?_);clear hR R)|((first|((first|((with_reducible apply Q2y);rfl;rfl;rfl;rfl;rfl));((apply Q0u (bf);rfl;rfl;rfl;rfl;exact Tryz.func116);kernel_rfl;rfl;(focus((simp(disch:=omega) only[go_sem,W,Q0x,AV.refsL,AV.refs,List.length_append,List.length_cons,List.length_nil,Bool.or_false]);(try rfl);done));(first|rfl)))|((first|((with_reducible apply Q0t);rfl;rfl)|((with_reducible apply Q2v);rfl;rfl;rfl;rfl;rfl));(simp(disch:=omega) only[rdE,rdOf,go_sem,W,Q0x,AV.refsL,AV.refs,List.length_append,List.length_cons,List.length_nil,Bool.or_false];rfl);(intro τ hA hQ hN;((try simp only[Q1e,Op.operands,Call.operands,go_sem,W,Q0x,AV.refsL,AV.refs,List.length_append,List.length_cons,List.length_nil,Bool.or_false,go_sem,List.mem_cons,List.not_mem_nil,forall_eq_or_imp,forall_eq,List.append_toArray,Option.toArray] at hA);(try simp only[go_sem,W,Q0x,AV.refsL,AV.refs,List.length_append,List.length_cons,List.length_nil,Bool.or_false,List.mem_cons,List.not_mem_nil,forall_eq_or_imp,forall_eq] at hQ hN);(first|(revert hA;intro hA));(first|(revert hQ;intro hQ));(first|(revert hN;intro hN));simp(disch:=omega) only[go_sem,W,Q0x,AV.refsL,AV.refs,List.length_append,List.length_cons,List.length_nil,Bool.or_false,go_sem,hA,hQ,hN];(repeat(refine ndI (by first|assumption|omega|rfl) ?_));(first|apply Q1a)))));(simp(disch:=omega) only[St.eff,setO,Q0w,go_sem,W,Q0x,AV.refsL,AV.refs,List.length_append,List.length_cons,List.length_nil,Bool.or_false]))|((with_reducible refine Q0r ?_ ?_ ?_ ?_);kernel_rfl;kernel_rfl;(simp[Q1m,Q4o,St.free,Q1w,AV.refsL,AV.refs,Q0l]);intro R hR)))))
     exact hJ1 _ (St.to.trans (St.to.of_le (τ:=soR l s 55 (out++[q]) false (i+1)) (St.le_of (by simp[leT]) (by simp only[leH,hget,e2];simp[Sp.pv]))) (X2p l s _ _ _))
   · (have W:=ndI k1 (ndI k2 (ndI k3 (ndI k7 (ndI e1 (ndI @Q0l @wrI)))));(repeat(any_goals(first|((with_reducible refine Q0b ?_ ?_);rfl;intro K hK;simp(disch:=omega) only[go_sem,W,Q0x,AV.refsL,AV.refs,List.length_append,List.length_cons,List.length_nil,Bool.or_false];((repeat(refine ndI (by first|assumption|omega|rfl) ?_));refine hK _ ?_;clear hK K))|(with_reducible first|(refine Q0c ?_;refine hR _ ?_;clear hR R)|((first|refine Q0d ?_|refine Q0f ?_);intro J hJ hJ')|(refine Q0a ?_;intro R hR)|(refine hJ _ ?_;clear hJ hJ' J)|refine Q0g ?_)|((with_reducible refine hJ' _ _ ?_ ?_);(focus(simp;done));clear hJ hJ' J)|((with_reducible apply Q0e);rfl;rfl;all_goals(intro hc;first|(cases hc;done)|(try simp only at hc)))|((with_reducible refine Q0v ?_ ?_);kernel_rfl;(with_reducible refine hR _ ?_);clear hR R)|((first|((with_reducible apply Q3e);rfl;rfl;rfl;rfl)|((first|((with_reducible apply Q0t);rfl;rfl));(simp(disch:=omega) only[rdE,rdOf,go_sem,W,Q0x,AV.refsL,AV.refs,List.length_append,List.length_cons,List.length_nil,Bool.or_false];rfl);(intro τ hA hQ hN;((try simp only[Q1e,Op.operands,Call.operands,go_sem,W,Q0x,AV.refsL,AV.refs,List.length_append,List.length_cons,List.length_nil,Bool.or_false,go_sem,List.mem_cons,List.not_mem_nil,forall_eq_or_imp,forall_eq,List.append_toArray,Option.toArray] at hA);(try simp only[go_sem,W,Q0x,AV.refsL,AV.refs,List.length_append,List.length_cons,List.length_nil,Bool.or_false,List.mem_cons,List.not_mem_nil,forall_eq_or_imp,forall_eq] at hQ hN);(first|(revert hA;intro hA));(first|(revert hQ;intro hQ));(first|(revert hN;intro hN));simp(disch:=omega) only[go_sem,W,Q0x,AV.refsL,AV.refs,List.length_append,List.length_cons,List.length_nil,Bool.or_false,go_sem,hA,hQ,hN];(repeat(refine ndI (by first|assumption|omega|rfl) ?_));(first|apply Q1a)))));(simp(disch:=omega) only[St.eff,setO,Q0w,go_sem,W,Q0x,AV.refsL,AV.refs,List.length_append,List.length_cons,List.length_nil,Bool.or_false]))|((with_reducible refine Q0r ?_ ?_ ?_ ?_);kernel_rfl;kernel_rfl;(simp[Q1m,Q4o,St.free,Q1w,AV.refsL,AV.refs,Q0l]);intro R hR)))))
     exact hJ1 _ (St.to.trans (St.to.of_le (τ:=soR l s 55 (out++[q]) true (i+1)) (St.le_of (by simp[leT]) (by simp only[leH,hget,e2];simp[Sp.pv]))) (X2p l s _ _ _))
 rw[decide_eq_false c1] at bf
 rw[decide_eq_false c1,Bool.not_false,Bool.or_true] at hok
 by_cases c2:q=s
 · rw[decide_eq_true c2] at k3
   rw[if_pos c2,List.nil_append] at hok
   cases laid
   · rw[if_pos ⟨rfl,c1⟩] at hok
     have hJ1:=fun σ'=>hJ σ' ⟨(i+1,out++[s],true),hlt,(by simpa using hok)⟩ (by dsimp only;omega)
     dsimp only at hJ1
     clear hJ hok k9 c2
     (have W:=ndI k1 (ndI k2 (ndI k3 (ndI k7 (ndI e1 (ndI @Q0l @wrI)))));(repeat(any_goals(first|((with_reducible refine Q0b ?_ ?_);rfl;intro K hK;simp(disch:=omega) only[go_sem,W,Q0x,AV.refsL,AV.refs,List.length_append,List.length_cons,List.length_nil,Bool.or_false];((repeat(refine ndI (by first|assumption|omega|rfl) ?_));refine hK _ ?_;clear hK K))|(with_reducible first|(refine Q0c ?_;refine hR _ ?_;clear hR R)|((first|refine Q0d ?_|refine Q0f ?_);intro J hJ hJ')|(refine Q0a ?_;intro R hR)|(refine hJ _ ?_;clear hJ hJ' J)|refine Q0g ?_)|((with_reducible refine hJ' _ _ ?_ ?_);(focus(simp;done));clear hJ hJ' J)|((with_reducible apply Q0e);rfl;rfl;all_goals(intro hc;first|(cases hc;done)|(try simp only at hc)))|((with_reducible refine Q0v ?_ ?_);kernel_rfl;(with_reducible refine hR _ ?_);clear hR R)|((first|((first|((with_reducible apply Q2y);rfl;rfl;rfl;rfl;rfl));((apply Q0u (bf);rfl;rfl;rfl;rfl;exact Tryz.func116);kernel_rfl;rfl;(focus((simp(disch:=omega) only[go_sem,W,Q0x,AV.refsL,AV.refs,List.length_append,List.length_cons,List.length_nil,Bool.or_false]);(try rfl);done));(first|rfl)))|((first|((with_reducible apply Q0t);rfl;rfl)|((with_reducible apply Q2v);rfl;rfl;rfl;rfl;rfl));(simp(disch:=omega) only[rdE,rdOf,go_sem,W,Q0x,AV.refsL,AV.refs,List.length_append,List.length_cons,List.length_nil,Bool.or_false];rfl);(intro τ hA hQ hN;((try simp only[Q1e,Op.operands,Call.operands,go_sem,W,Q0x,AV.refsL,AV.refs,List.length_append,List.length_cons,List.length_nil,Bool.or_false,go_sem,List.mem_cons,List.not_mem_nil,forall_eq_or_imp,forall_eq,List.append_toArray,Option.toArray] at hA);(try simp only[go_sem,W,Q0x,AV.refsL,AV.refs,List.length_append,List.length_cons,List.length_nil,Bool.or_false,List.mem_cons,List.not_mem_nil,forall_eq_or_imp,forall_eq] at hQ hN);(first|(revert hA;intro hA));(first|(revert hQ;intro hQ));(first|(revert hN;intro hN));simp(disch:=omega) only[go_sem,W,Q0x,AV.refsL,AV.refs,List.length_append,List.length_cons,List.length_nil,Bool.or_false,go_sem,hA,hQ,hN];(repeat(refine ndI (by first|assumption|omega|rfl) ?_));(first|apply Q1a)))));(simp(disch:=omega) only[St.eff,setO,Q0w,go_sem,W,Q0x,AV.refsL,AV.refs,List.length_append,List.length_cons,List.length_nil,Bool.or_false]))|((with_reducible refine Q0r ?_ ?_ ?_ ?_);kernel_rfl;kernel_rfl;(simp[Q1m,Q4o,St.free,Q1w,AV.refsL,AV.refs,Q0l]);intro R hR)))))
     exact hJ1 _ (St.to.trans (St.to.of_le (τ:=soR l s 40 (out++[s]) true (i+1)) (St.le_of (by simp[leT]) (by simp only[leH,hget,e3];simp[Sp.pv]))) (soR_rna l s _ _ _))
   · rw[if_neg (by simp)] at hok
     have hJ1:=fun σ'=>hJ σ' ⟨(i+1,out,true),hlt,(by simpa using hok)⟩ (by dsimp only;omega)
     dsimp only at hJ1
     clear hJ hok k9 c2
     (have W:=ndI k1 (ndI k2 (ndI k3 (ndI k7 (ndI e1 (ndI @Q0l @wrI)))));(repeat(any_goals(first|((with_reducible refine Q0b ?_ ?_);rfl;intro K hK;simp(disch:=omega) only[go_sem,W,Q0x,AV.refsL,AV.refs,List.length_append,List.length_cons,List.length_nil,Bool.or_false];((repeat(refine ndI (by first|assumption|rfl) ?_));refine hK _ ?_;clear hK K))|(with_reducible first|(refine Q0c ?_;refine hR _ ?_;clear hR R)|((first|refine Q0d ?_|refine Q0f ?_);intro J hJ hJ')|(refine Q0a ?_;intro R hR)|(refine hJ _ ?_;clear hJ hJ' J)|refine Q0g ?_)|((with_reducible refine hJ' _ _ ?_ ?_);(focus(simp;done));clear hJ hJ' J)|((with_reducible apply Q0e);rfl;rfl;all_goals(intro hc;first|(cases hc;done)|(try simp only at hc)))|((with_reducible refine Q0v ?_ ?_);kernel_rfl;(with_reducible refine hR _ ?_);clear hR R)|((first|((with_reducible apply Q3e);rfl;rfl;rfl;rfl)|((first|((with_reducible apply Q0t);rfl;rfl));(simp(disch:=omega) only[rdE,rdOf,go_sem,W,Q0x,AV.refsL,AV.refs,List.length_append,List.length_cons,List.length_nil,Bool.or_false];rfl);(intro τ hA hQ hN;((try simp only[Q1e,Op.operands,Call.operands,go_sem,W,Q0x,AV.refsL,AV.refs,List.length_append,List.length_cons,List.length_nil,Bool.or_false,go_sem,List.mem_cons,List.not_mem_nil,forall_eq_or_imp,forall_eq,List.append_toArray,Option.toArray] at hA);(try simp only[go_sem,W,Q0x,AV.refsL,AV.refs,List.length_append,List.length_cons,List.length_nil,Bool.or_false,List.mem_cons,List.not_mem_nil,forall_eq_or_imp,forall_eq] at hQ hN);(first|(revert hA;intro hA));(first|(revert hQ;intro hQ));(first|(revert hN;intro hN));simp(disch:=omega) only[go_sem,W,Q0x,AV.refsL,AV.refs,List.length_append,List.length_cons,List.length_nil,Bool.or_false,go_sem,hA,hQ,hN];(repeat(refine ndI (by first|assumption|omega|rfl) ?_));(first|apply Q1a)))));(simp(disch:=omega) only[St.eff,setO,Q0w,go_sem,W,Q0x,AV.refsL,AV.refs,List.length_append,List.length_cons,List.length_nil,Bool.or_false]))|((with_reducible refine Q0r ?_ ?_ ?_ ?_);kernel_rfl;kernel_rfl;(simp[Q1m,Q4o,St.free,Q1w,AV.refsL,AV.refs,Q0l]);intro R hR)))))
     exact hJ1 _ (St.to.of_le (St.le_of (by simp[leT]) (by simp[leH,hget])))
 · rw[decide_eq_false c2] at k3
   rw[if_neg c2] at hok
   cases laid
   · rw[if_pos ⟨rfl,c1⟩] at hok
     have hJ1:=fun σ'=>hJ σ' ⟨(i+1,out++[s]++[q],true),hlt,(by simpa using hok)⟩ (by dsimp only;omega)
     dsimp only at hJ1
     clear hJ hok k9
     (have W:=ndI k1 (ndI k2 (ndI k3 (ndI k7 (ndI e1 (ndI @Q0l @wrI)))));(repeat(any_goals(first|((with_reducible refine Q0b ?_ ?_);rfl;intro K hK;simp(disch:=omega) only[go_sem,W,Q0x,AV.refsL,AV.refs,List.length_append,List.length_cons,List.length_nil,Bool.or_false];((repeat(refine ndI (by first|assumption|omega|rfl) ?_));refine hK _ ?_;clear hK K))|(with_reducible first|(refine Q0c ?_;refine hR _ ?_;clear hR R)|((first|refine Q0d ?_|refine Q0f ?_);intro J hJ hJ')|(refine Q0a ?_;intro R hR)|(refine hJ _ ?_;clear hJ hJ' J)|refine Q0g ?_)|((with_reducible refine hJ' _ _ ?_ ?_);(focus(simp;done));clear hJ hJ' J)|((with_reducible apply Q0e);rfl;rfl;all_goals(intro hc;first|(cases hc;done)|(try simp only at hc)))|((with_reducible refine Q0v ?_ ?_);kernel_rfl;(with_reducible refine hR _ ?_);clear hR R)|((first|((first|((with_reducible apply Q2y);rfl;rfl;rfl;rfl;rfl));((apply Q0u (bf);rfl;rfl;rfl;rfl;exact Tryz.func116);kernel_rfl;rfl;(focus((simp(disch:=omega) only[go_sem,W,Q0x,AV.refsL,AV.refs,List.length_append,List.length_cons,List.length_nil,Bool.or_false]);(try rfl);done));(first|rfl)))|((first|((with_reducible apply Q0t);rfl;rfl)|((with_reducible apply Q2v);rfl;rfl;rfl;rfl;rfl));(simp(disch:=omega) only[rdE,rdOf,go_sem,W,Q0x,AV.refsL,AV.refs,List.length_append,List.length_cons,List.length_nil,Bool.or_false];rfl);(intro τ hA hQ hN;((try simp only[Q1e,Op.operands,Call.operands,go_sem,W,Q0x,AV.refsL,AV.refs,List.length_append,List.length_cons,List.length_nil,Bool.or_false,go_sem,List.mem_cons,List.not_mem_nil,forall_eq_or_imp,forall_eq,List.append_toArray,Option.toArray] at hA);(try simp only[go_sem,W,Q0x,AV.refsL,AV.refs,List.length_append,List.length_cons,List.length_nil,Bool.or_false,List.mem_cons,List.not_mem_nil,forall_eq_or_imp,forall_eq] at hQ hN);(first|(revert hA;intro hA));(first|(revert hQ;intro hQ));(first|(revert hN;intro hN));simp(disch:=omega) only[go_sem,W,Q0x,AV.refsL,AV.refs,List.length_append,List.length_cons,List.length_nil,Bool.or_false,go_sem,hA,hQ,hN];(repeat(refine ndI (by first|assumption|omega|rfl) ?_));(first|apply Q1a)))));(simp(disch:=omega) only[St.eff,setO,Q0w,go_sem,W,Q0x,AV.refsL,AV.refs,List.length_append,List.length_cons,List.length_nil,Bool.or_false]))|((with_reducible refine Q0r ?_ ?_ ?_ ?_);kernel_rfl;kernel_rfl;(simp[Q1m,Q4o,St.free,Q1w,AV.refsL,AV.refs,Q0l]);intro R hR)))))
     exact hJ1 _ (St.to.trans (St.to.of_le (τ:=soR l s 55 (out++[s]++[q]) true (i+1)) (St.le_of (by simp[leT]) (by simp only[leH,hget,e5];simp[Sp.pv]))) (X2p l s _ _ _))
   · rw[if_neg (by simp)] at hok
     have hJ1:=fun σ'=>hJ σ' ⟨(i+1,out++[q],true),hlt,(by simpa using hok)⟩ (by dsimp only;omega)
     dsimp only at hJ1
     clear hJ hok k9
     (have W:=ndI k1 (ndI k2 (ndI k3 (ndI k7 (ndI e1 (ndI @Q0l @wrI)))));(repeat(any_goals(first|((with_reducible refine Q0b ?_ ?_);rfl;intro K hK;simp(disch:=omega) only[go_sem,W,Q0x,AV.refsL,AV.refs,List.length_append,List.length_cons,List.length_nil,Bool.or_false];((repeat(refine ndI (by first|assumption|omega|rfl) ?_));refine hK _ ?_;clear hK K))|(with_reducible first|(refine Q0c ?_;refine hR _ ?_;clear hR R)|((first|refine Q0d ?_|refine Q0f ?_);intro J hJ hJ')|(refine Q0a ?_;intro R hR)|(refine hJ _ ?_;clear hJ hJ' J)|refine Q0g ?_)|((with_reducible refine hJ' _ _ ?_ ?_);(focus(simp;done));clear hJ hJ' J)|((with_reducible apply Q0e);rfl;rfl;all_goals(intro hc;first|(cases hc;done)|(try simp only at hc)))|((with_reducible refine Q0v ?_ ?_);kernel_rfl;(with_reducible refine hR _ ?_);clear hR R)|((first|((with_reducible apply Q3e);rfl;rfl;rfl;rfl)|((first|((with_reducible apply Q0t);rfl;rfl));(simp(disch:=omega) only[rdE,rdOf,go_sem,W,Q0x,AV.refsL,AV.refs,List.length_append,List.length_cons,List.length_nil,Bool.or_false];rfl);(intro τ hA hQ hN;((try simp only[Q1e,Op.operands,Call.operands,go_sem,W,Q0x,AV.refsL,AV.refs,List.length_append,List.length_cons,List.length_nil,Bool.or_false,go_sem,List.mem_cons,List.not_mem_nil,forall_eq_or_imp,forall_eq,List.append_toArray,Option.toArray] at hA);(try simp only[go_sem,W,Q0x,AV.refsL,AV.refs,List.length_append,List.length_cons,List.length_nil,Bool.or_false,List.mem_cons,List.not_mem_nil,forall_eq_or_imp,forall_eq] at hQ hN);(first|(revert hA;intro hA));(first|(revert hQ;intro hQ));(first|(revert hN;intro hN));simp(disch:=omega) only[go_sem,W,Q0x,AV.refsL,AV.refs,List.length_append,List.length_cons,List.length_nil,Bool.or_false,go_sem,hA,hQ,hN];(repeat(refine ndI (by first|assumption|omega|rfl) ?_));(first|apply Q1a)))));(simp(disch:=omega) only[St.eff,setO,Q0w,go_sem,W,Q0x,AV.refsL,AV.refs,List.length_append,List.length_cons,List.length_nil,Bool.or_false]))|((with_reducible refine Q0r ?_ ?_ ?_ ?_);kernel_rfl;kernel_rfl;(simp[Q1m,Q4o,St.free,Q1w,AV.refsL,AV.refs,Q0l]);intro R hR)))))
     exact hJ1 _ (St.to.trans (St.to.of_le (τ:=soR l s 55 (out++[q]) true (i+1)) (St.le_of (by simp[leT]) (by simp only[leH,hget,e2];simp[Sp.pv]))) (X2p l s _ _ _))
theorem rput_fn(l:List Sp)(hl:l.length≤399)(ol:∀x∈l,x.ok)(s:Sp)(os:s.ok):Fn Tryz.prog 71 [spl5 false l,spA s] [] (spl5 false (inS s false l)) []:=by
 have h:=(Z1h l hl ol s os).frzG
 have e:((inS s false l).flatMap Sp.pv).length=(inS s false l).length*5:=Q0p Q4y _
 generalize inS s false l=RR at h e ⊢
 have rr:Fn Tryz.prog 115 [.agg (sxL l),spA s] [] (.tup [.agg [nilA,spl5 false RR,nilA],.any,vb true]) []:=by
  simpa [-List.length_flatMap,AV.frz,AV.frzL,e] using h
 clear h e
 (refine Q0z Tryz.func71 rfl (by rfl) ?_;simp only[Tryz.ntmps71,List.length_cons,List.length_nil,Nat.reduceAdd,Nat.reduceSub,List.replicate,List.cons_append,List.nil_append])
 (repeat(any_goals(first|((with_reducible refine Q0n ?_ ?_ ?_);rfl;rfl;intro K hK;((apply Q0k (rr);rfl;rfl;rfl;rfl;exact Tryz.func115);kernel_rfl;rfl;(focus((simp only[go_sem]);(try rfl);done));(first|rfl));(simp only[go_sem];refine hK _ ?_;clear hK K))|((with_reducible refine Q0b ?_ ?_);rfl;intro K hK;simp only[go_sem];((repeat(refine ndI (by first|assumption) ?_));refine hK _ ?_;clear hK K))|(with_reducible first|(refine Q0c ?_;refine hR _ ?_;clear hR R)|((first|refine Q0d ?_);intro J hJ hJ')|(refine Q0a ?_;intro R hR)|(refine hJ _ ?_;clear hJ hJ' J)|refine Q0g ?_|refine Q0j ?_)|((with_reducible apply Q0e);rfl;rfl;all_goals(intro hc;first|(cases hc;done)|(try simp only at hc))))))
 all_goals(refine⟨by simp,⟨_,?_,AV.le_refl _⟩,Q0h (by simp[leH,hget])⟩;simp only[Tryz.results71,resL,ldA,Q0q,go_sem])
end Go.Proofs.YtgdjkkapgghdbaaGreatDoor
namespace Go.Proofs.YtgdjkkapgghdbaaGreatDoor
open Go.RowKit
open Nat (reduceBEq)
attribute [-go_sem] IntKind.bits
set_option maxRecDepth 20000
set_option maxHeartbeats 4000000
theorem St.to.tmp{σ : St}{x y:AV}(i:Nat)(h:σ.T.getD i .any=x)(hxy:x.le y):σ.to ⟨σ.T.set i y,σ.H⟩:=St.to.of_le ⟨by simp,fun j=>by
 by_cases hj:j=i
 · subst hj
   by_cases hl:j < σ.T.length
   · have e:(σ.T.set j y).getD j .any=y:=by simp[List.getD,List.getElem?_set,hl]
     show(σ.T.getD j .any).le ((σ.T.set j y).getD j .any)
     rw[e,h];exact hxy
   · have e:(σ.T.set j y).getD j .any = .any:=by simp[List.getD,List.getElem?_set,hl]
     show(σ.T.getD j .any).le ((σ.T.set j y).getD j .any)
     rw[e];exact AV.le_any _
 · have e:(σ.T.set i y).getD j .any = σ.T.getD j .any:=by simp[List.getD,List.getElem?_set,Ne.symm hj]
   show(σ.T.getD j .any).le ((σ.T.set i y).getD j .any)
   rw[e];exact AV.le_refl _,fun r cs hr=>hr⟩
def touR(l:List Ev):List Sp:=l.foldl (fun out e=>if e.kind=2∨e.kind=3 then inS e.sp false out else out) []
theorem X4v{l:List Ev}{i:Nat}{e:Ev}(h:l[i]? = some e):touR (l.take (i+1))=if e.kind=2∨e.kind=3 then inS e.sp false (touR (l.take i)) else touR (l.take i):=by
 unfold touR
 rw[List.take_add_one,h,List.foldl_append]
 rfl
theorem X1o(l:List Ev)(ho:∀e∈l,e.ok):∀n,n≤l.length→(touR (l.take n)).length≤n∧(∀x∈touR (l.take n),x.ok)∧(touR (l.take n)).Pairwise (fun x y=>x.key<y.key)∧∀x,x∈touR (l.take n)↔x∈selS [2,3] (l.take n)
 |0,_=>⟨Nat.le_refl _,fun x hx=>(by cases hx),List.Pairwise.nil,fun x=>by simp[touR,selS]⟩
 |n+1,hn=>by
  obtain⟨h1,h2,h3,h4⟩:=X1o l ho n (by omega)
  obtain⟨e,he⟩:∃e,l[n]? = some e:=⟨_,List.getElem?_eq_getElem (by omega)⟩
  have oe:=ho e (List.mem_of_getElem? he)
  have os:e.sp.ok:=⟨oe.2.2.2.2.1,oe.1⟩
  have es:selS [2,3] (l.take (n+1))=selS [2,3] (l.take n)++(if e.kind=2∨e.kind=3 then[e.sp] else[]):=by
   unfold selS
   rw[List.take_add_one,he,List.filter_append,List.map_append]
   congr 1
   show List.map Ev.sp (List.filter (fun e=>decide (e.kind∈[2,3])) [e])=_
   by_cases hk:e.kind=2∨e.kind=3
   · rw[if_pos hk,List.filter_cons_of_pos (by simpa using hk)]
     rfl
   · rw[if_neg hk,List.filter_cons_of_neg (by simpa using hk)]
     rfl
  rw[X4v he,es]
  by_cases hk:e.kind=2∨e.kind=3
  · rw[if_pos hk,if_pos hk]
    have hl:=X8a e.sp false (touR (l.take n))
    refine⟨by omega,fun x hx=>?_,X9v _ os _ h2 h3,fun x=>?_⟩
    · rcases(X3k _ _ x).1 hx with rfl|hx
      · exact os
      · exact h2 x hx
    · rw[X3k,h4,List.mem_append,List.mem_singleton]
      exact Or.comm
  · rw[if_neg hk,if_neg hk,List.append_nil]
    exact⟨by omega,h2,h3,h4⟩
theorem Q9q(l:List Ev)(ho:∀e∈l,e.ok):(touR l).length≤l.length∧(∀x∈touR l,x.ok)∧(touR l).Pairwise (fun x y=>x.key<y.key)∧∀x,x∈touR l↔x∈selS [2,3] l:=by
 have h:=X1o l ho l.length (Nat.le_refl _)
 rwa [List.take_length] at h
theorem X7g(l:List Ev)(hl:l.length≤390)(ho:∀e∈l,e.ok):Fn Tryz.prog 41 [evs false l] [] (spl5 false (touR l)) []:=by
 (refine Q0z Tryz.func41 rfl (by rfl) ?_;simp only[Tryz.ntmps41,List.length_cons,List.length_nil,Nat.reduceAdd,Nat.reduceSub,List.replicate,List.cons_append,List.nil_append])
 (repeat(any_goals(first|((with_reducible refine Q0b ?_ ?_);rfl;intro K hK;simp only[go_sem];((repeat(refine ndI (by first|assumption) ?_));refine hK _ ?_;clear hK K))|(with_reducible first|(refine Q0c ?_;refine hR _ ?_;clear hR R)|((first|refine Q0d ?_|refine Q0f ?_);intro J hJ hJ')|(refine Q0a ?_;intro R hR)|(refine hJ _ ?_;clear hJ hJ' J)))))
 refine Q3u l.length (fun i=>⟨[evs false l,.any,nilA,spl5 false (touR (l.take i)),vi .i64 (i:Int),.any,.any,.any,.any,.any,.any,.any,.any,.any,.any,.any,.any,.any,.any,.any,.any,.any,.any,.any,.any,.any,.any,.any,.any,.any,.any,.any,.any,.any,.any,.any,.any,.any,.any],[]⟩) ?_ ?_
 · refine St.to.trans (St.to.of_le (τ:=⟨[evs false l,.any,nilA,nilA,vi .i64 0,.any,.any,.any,.any,.any,.any,.any,.any,.any,.any,.any,.any,.any,.any,.any,.any,.any,.any,.any,.any,.any,.any,.any,.any,.any,.any,.any,.any,.any,.any,.any,.any,.any,.any],[]⟩) (St.le_of (by simp[leT]) (by simp[leH]))) ?_
   exact(St.to.tmp (x:=nilA) (y:=spl5 false []) 3 rfl (AV.le_nil false 5)).trans (St.to.of_le (St.le_of (by simp[leT,touR]) (by simp[leH])))
 intro i hi J hJ hJ'
 (try dsimp only at hJ ⊢)
 rcases Nat.lt_or_ge i l.length with hlt|hge
 · obtain⟨y,hy⟩:∃y,l[i]? = some y:=⟨_,List.getElem?_eq_getElem hlt⟩
   have k1:(decide ((i:Int)<(l.length:Int)))=true:=by simpa using hlt
   have k2:=X8e hy
   have k7:(i:Int)+1=((i+1:Nat):Int):=by omega
   have oy:=ho y (List.mem_of_getElem? hy)
   have hJ1:=fun τ=>hJ τ hlt
   rw[X4v hy] at hJ1
   obtain⟨s1,s2,s3,s4⟩:=Q9q (l.take i) fun e he=>ho e (List.mem_of_mem_take he)
   have ti:(l.take i).length≤389:=by rw[List.length_take];omega
   have os:y.sp.ok:=⟨oy.2.2.2.2.1,oy.1⟩
   have pf:=rput_fn (touR (l.take i)) (by omega) s2 y.sp os
   clear hJ s1 s2 s3 s4
   generalize touR (l.take i)=out at pf hJ1 ⊢
   by_cases h2:y.kind=2
   · have k3:(y.kind==2)=true:=by simpa using h2
     rw[if_pos (.inl h2)] at hJ1
     (have W:=ndI k1 (ndI k2 (ndI k3 (ndI k7 @wrI)));(repeat(any_goals(first|((with_reducible refine Q0b ?_ ?_);rfl;intro K hK;simp(disch:=omega) only[go_sem,W];((repeat(refine ndI (by first|assumption|omega|rfl) ?_));refine hK _ ?_;clear hK K))|(with_reducible first|(refine Q0c ?_;refine hR _ ?_;clear hR R)|((first|refine Q0d ?_|refine Q0f ?_);intro J hJ hJ')|(refine Q0a ?_;intro R hR)|(refine hJ _ ?_;clear hJ hJ' J)|refine Q0g ?_)|((with_reducible refine hJ' _ _ ?_ ?_);(focus(simp;done));clear hJ hJ' J)|((with_reducible apply Q0y);rfl;rfl;rfl;all_goals(intro hb;first|(cases hb;done)|((try simp only[Bool.not_true,Bool.not_false] at hb);(first|((fail_if_success (with_reducible intro _));simp(disch:=omega) only[go_sem,W])))))|((with_reducible apply Q0e);rfl;rfl;all_goals(intro hc;first|(cases hc;done)|(try simp only at hc)))|((with_reducible refine Q0v ?_ ?_);kernel_rfl;(with_reducible refine hR _ ?_);clear hR R)|((first|((with_reducible apply Q1j);rfl;rfl;((apply Q0u (pf);rfl;rfl;rfl;rfl;exact Tryz.func71);kernel_rfl;rfl;(focus((simp(disch:=omega) only[go_sem,W]);(try rfl);done));(first|rfl)))|((with_reducible apply Q0t);rfl;rfl;(simp(disch:=omega) only[rdE,rdOf,go_sem,W];rfl);(intro τ hA hQ hN;((try simp only[Q1e,Op.operands,Call.operands,go_sem,W,go_sem,List.mem_cons,List.not_mem_nil,forall_eq_or_imp,forall_eq,List.append_toArray,Option.toArray] at hA);(try simp only[go_sem,W,List.mem_cons,List.not_mem_nil,forall_eq_or_imp,forall_eq] at hQ hN);(first|(revert hA;intro hA));(first|(revert hQ;intro hQ));(first|(revert hN;intro hN));simp(disch:=omega) only[go_sem,W,go_sem,hA,hQ,hN];(repeat(refine ndI (by first|assumption|omega|rfl) ?_));(first|apply Q1a)))));(simp(disch:=omega) only[St.eff,setO,Q0w,go_sem,W]))|((with_reducible refine Q0r ?_ ?_ ?_ ?_);kernel_rfl;kernel_rfl;(first|kernel_rfl);intro R hR)))))
     all_goals exact hJ1 _ (St.to.of_le (St.le_of (by simp[leT]) (by simp[leH])))
   · have k3:(y.kind==2)=false:=by simpa using h2
     by_cases h3:y.kind=3
     · have k4:(y.kind==3)=true:=by simpa using h3
       rw[if_pos (.inr h3)] at hJ1
       (have W:=ndI k1 (ndI k2 (ndI k3 (ndI k4 (ndI k7 @wrI))));(repeat(any_goals(first|((with_reducible refine Q0b ?_ ?_);rfl;intro K hK;simp(disch:=omega) only[go_sem,W];((repeat(refine ndI (by first|assumption|omega|rfl) ?_));refine hK _ ?_;clear hK K))|(with_reducible first|(refine Q0c ?_;refine hR _ ?_;clear hR R)|((first|refine Q0d ?_|refine Q0f ?_);intro J hJ hJ')|(refine Q0a ?_;intro R hR)|(refine hJ _ ?_;clear hJ hJ' J)|refine Q0g ?_)|((with_reducible refine hJ' _ _ ?_ ?_);(focus(simp;done));clear hJ hJ' J)|((with_reducible apply Q0y);rfl;rfl;rfl;all_goals(intro hb;first|(cases hb;done)|((try simp only[Bool.not_true,Bool.not_false] at hb);(first|((with_reducible intro K hK);simp(disch:=omega) only[go_sem,W];((repeat(refine ndI (by first|assumption|omega|rfl) ?_));refine hK _ ?_;clear hK K))))))|((with_reducible apply Q0e);rfl;rfl;all_goals(intro hc;first|(cases hc;done)|(try simp only at hc)))|((with_reducible refine Q0v ?_ ?_);kernel_rfl;(with_reducible refine hR _ ?_);clear hR R)|((first|((with_reducible apply Q1j);rfl;rfl;((apply Q0u (pf);rfl;rfl;rfl;rfl;exact Tryz.func71);kernel_rfl;rfl;(focus((simp(disch:=omega) only[go_sem,W]);(try rfl);done));(first|rfl)))|((with_reducible apply Q0t);rfl;rfl;(simp(disch:=omega) only[rdE,rdOf,go_sem,W];rfl);(intro τ hA hQ hN;((try simp only[Q1e,Op.operands,Call.operands,go_sem,W,go_sem,List.mem_cons,List.not_mem_nil,forall_eq_or_imp,forall_eq,List.append_toArray,Option.toArray] at hA);(try simp only[go_sem,W,List.mem_cons,List.not_mem_nil,forall_eq_or_imp,forall_eq] at hQ hN);(first|(revert hA;intro hA));(first|(revert hQ;intro hQ));(first|(revert hN;intro hN));simp(disch:=omega) only[go_sem,W,go_sem,hA,hQ,hN];(repeat(refine ndI (by first|assumption|omega|rfl) ?_));(first|apply Q1a)))));(simp(disch:=omega) only[St.eff,setO,Q0w,go_sem,W]))|((with_reducible refine Q0r ?_ ?_ ?_ ?_);kernel_rfl;kernel_rfl;(first|kernel_rfl);intro R hR)))))
       all_goals exact hJ1 _ (St.to.of_le (St.le_of (by simp[leT]) (by simp[leH])))
     · have k4:(y.kind==3)=false:=by simpa using h3
       rw[if_neg (by omega)] at hJ1
       clear pf
       (have W:=ndI k1 (ndI k2 (ndI k3 (ndI k4 (ndI k7 @wrI))));(repeat(any_goals(first|((with_reducible refine Q0b ?_ ?_);rfl;intro K hK;simp(disch:=omega) only[go_sem,W];((repeat(refine ndI (by first|assumption|omega|rfl) ?_));refine hK _ ?_;clear hK K))|(with_reducible first|(refine Q0c ?_;refine hR _ ?_;clear hR R)|((first|refine Q0d ?_|refine Q0f ?_);intro J hJ hJ')|(refine Q0a ?_;intro R hR)|(refine hJ _ ?_;clear hJ hJ' J)|refine Q0g ?_)|((with_reducible refine hJ' _ _ ?_ ?_);(focus(simp;done));clear hJ hJ' J)|((with_reducible apply Q0y);rfl;rfl;rfl;all_goals(intro hb;first|(cases hb;done)|((try simp only[Bool.not_true,Bool.not_false] at hb);(first|((with_reducible intro K hK);simp(disch:=omega) only[go_sem,W];((repeat(refine ndI (by first|assumption|omega|rfl) ?_));refine hK _ ?_;clear hK K))))))|((with_reducible apply Q0e);rfl;rfl;all_goals(intro hc;first|(cases hc;done)|(try simp only at hc)))))))
       all_goals exact hJ1 _ (St.to.of_le (St.le_of (by simp[leT]) (by simp[leH])))
 · have k1:(decide ((i:Int)<(l.length:Int)))=false:=by simpa using hge
   rw[List.take_of_length_le hge]
   (repeat(any_goals(first|((with_reducible refine Q0b ?_ ?_);rfl;intro K hK;simp only[go_sem,k1];((repeat(refine ndI (by first|assumption) ?_));refine hK _ ?_;clear hK K))|(with_reducible first|(refine Q0c ?_;refine hR _ ?_;clear hR R)|((first|refine Q0d ?_);intro J hJ hJ')|(refine Q0a ?_;intro R hR)|(refine hJ _ ?_;clear hJ hJ' J)|refine Q0j ?_|refine Q0o ?_)|((with_reducible refine hJ' _ _ ?_ ?_);(focus(simp;done));clear hJ hJ' J)|((with_reducible apply Q0e);rfl;rfl;all_goals(intro hc;first|(cases hc;done)|(try simp only at hc))))))
   all_goals(refine⟨by simp,⟨_,?_,AV.le_refl _⟩,Q0h (by simp[leH,hget])⟩;simp only[Tryz.results41,resL,ldA,Q0q,go_sem])
abbrev foR(c:Cs)(T:List Sp)(r:Nat)(out:List Sp)(i:Nat):St:=⟨[.any,.ptr 1 0,nilA,.row r 37 5 out.length,.any,.any,.any,.any,spl5 false T,vi .i64 T.length,vi .i64 (i:Int),.any,.any,.any,.any,.any,.any,.any,.any,.any,.any,.any,.any,.any,.any,.any],[(1,[vi .u64 c.snd,phs false c.ph,asl false c.cd]),(r,raS out)]⟩
theorem foR_rn(c:Cs)(T out:List Sp)(i:Nat):(foR c T 23 out i).to (foR c T 500 out i):=by
 have h:=St.to.rn (σ:=foR c T 23 out i) (fun r=>if r=23 then 500 else r) (fun r=>if r=500 then 23 else r) [23,1] (by simp[AV.inNL,AV.inN]) (by simp) (by simp[inH,AV.inNL,AV.inN,Q1b]) (by simp) (by simp)
 simpa [AV.renL,AV.ren,renH] using h
theorem X5g(c:Cs)(T:List Sp)(p:Sp→Bool)(L:List Ev)(hT:T.length≤1000)(al:Fn Tryz.prog 42 [csA c] [] (evs false L) [])(to:Fn Tryz.prog 41 [evs false L] [] (spl5 false T) [])
 (be:∀s∈T,Fn Tryz.prog 15 [csA c,spA s,vi .u64 c.snd] [] (vb (p s)) []):Fn Tryz.prog 11 [csA c] [] (spl5 false (T.filter fun s=>!p s)) []:=by
 have hrow:Fn Tryz.prog 11 [csA c] [] (.row 500 37 5 (T.filter fun s=>!p s).length) [(500,raS (T.filter fun s=>!p s))]:=by
  (refine Q0z Tryz.func11 rfl (by rfl) ?_;simp only[Tryz.ntmps11,List.length_cons,List.length_nil,Nat.reduceAdd,Nat.reduceSub,List.replicate,List.cons_append,List.nil_append])
  (repeat(any_goals(first|((with_reducible refine Q0n ?_ ?_ ?_);rfl;rfl;intro K hK;((first|(apply Q0k (al);rfl;rfl;rfl;rfl;exact Tryz.func42)|(apply Q0k (to);rfl;rfl;rfl;rfl;exact Tryz.func41));kernel_rfl;rfl;(focus((simp only[go_sem]);(try rfl);done));(first|rfl));(simp only[go_sem];refine hK _ ?_;clear hK K))|((with_reducible refine Q0b ?_ ?_);rfl;intro K hK;simp only[go_sem];((repeat(refine ndI (by first|assumption) ?_));refine hK _ ?_;clear hK K))|(with_reducible first|(refine Q0c ?_;refine hR _ ?_;clear hR R)|((first|refine Q0d ?_|refine Q0f ?_);intro J hJ hJ')|(refine Q0a ?_;intro R hR)|(refine hJ _ ?_;clear hJ hJ' J)))))
  refine Q3u T.length (fun i=>foR c T 500 ((T.take i).filter fun s=>!p s) i) ?_ ?_
  · refine St.to.trans (St.to.of_le (τ:=⟨[.any,.ptr 1 0,nilA,nilA,.any,.any,.any,.any,spl5 false T,vi .i64 T.length,vi .i64 0,.any,.any,.any,.any,.any,.any,.any,.any,.any,.any,.any,.any,.any,.any,.any],[(1,[vi .u64 c.snd,phs false c.ph,asl false c.cd])]⟩) (St.le_of (by simp[leT]) (by simp[leH,hget]))) ?_
    refine St.to.trans (St.to.nilrow 3 500 37 5 rfl (by simp) (by simp[St.free,Q1w,AV.refsL,AV.refs]) (by decide)) (St.to.of_le (St.le_of (by simp[leT]) (by simp[leH,hget,hput])))
  clear al to
  intro i hi J hJ hJ'
  (try dsimp only at hJ ⊢)
  rcases Nat.lt_or_ge i T.length with hlt|hge
  · obtain⟨y,hy⟩:∃y,T[i]? = some y:=⟨_,List.getElem?_eq_getElem hlt⟩
    have c1:(decide ((i:Int)<(T.length:Int)))=true:=by simpa using hlt
    have c2:=Q8g hy
    have c7:(i:Int)+1=((i+1:Nat):Int):=by omega
    have bf:=be y (List.mem_of_getElem? hy)
    have d2:(T.take (i+1)).filter (fun s=>!p s)=(T.take i).filter (fun s=>!p s)++(if p y then[] else[y]):=by
     rw[List.take_add_one,hy,List.filter_append]
     congr 1
     cases hp:p y<;>simp[hp]
    have b1:((T.take i).filter fun s=>!p s).length≤1000:=by
     have:=List.length_filter_le (fun s=>!p s) (T.take i)
     rw[List.length_take] at this
     omega
    have fin:=fun σ'=>hJ σ' hlt
    rw[d2] at fin
    clear hJ d2 be
    generalize (T.take i).filter (fun s=>!p s)=out at b1 fin ⊢
    dsimp only[foR]
    have x1:∀d,AV.refsL d (raS out)=false:=fun d=>Q0l d _
    have x2:(raS out).length=out.length*5:=by rw[List.length_map,Q0p Q4y]
    have e3:raS (out++[y])=raS out++[vi .u64 y.a,vi .u64 (l0 y.k),vi .u64 (l1 y.k),vi .u64 (l2 y.k),vi .u64 (l3 y.k)]:=by simp[raS,Sp.pv]
    cases hp:p y with
    |true=>
     rw[hp] at bf fin
     rw[if_pos rfl,List.append_nil] at fin
     (have W:=ndI c1 (ndI c2 (ndI c7 (ndI x1 (ndI x2 (ndI @Q0l @wrI)))));(repeat(any_goals(first|((with_reducible refine Q0n ?_ ?_ ?_);rfl;rfl;intro K hK;((apply Q0k (bf);rfl;rfl;rfl;rfl;exact Tryz.func15);kernel_rfl;rfl;(focus((simp(disch:=omega) only[go_sem,W]);(try rfl);done));(first|rfl));(simp(disch:=omega) only[go_sem,W];refine hK _ ?_;clear hK K))|((with_reducible refine Q0b ?_ ?_);rfl;intro K hK;simp(disch:=omega) only[go_sem,W];((repeat(refine ndI (by first|assumption|omega|rfl) ?_));refine hK _ ?_;clear hK K))|(with_reducible first|(refine Q0c ?_;refine hR _ ?_;clear hR R)|((first|refine Q0d ?_|refine Q0f ?_);intro J hJ hJ')|(refine Q0a ?_;intro R hR)|(refine hJ _ ?_;clear hJ hJ' J)|refine Q0g ?_)|((with_reducible refine hJ' _ _ ?_ ?_);(focus(simp;done));clear hJ hJ' J)|((with_reducible apply Q0e);rfl;rfl;all_goals(intro hc;first|(cases hc;done)|(try simp only at hc)))))))
     all_goals exact fin _ (St.to.of_le (St.le_of (by simp[leT]) (by simp[leH,hget])))
    |false=>
     rw[hp] at bf fin
     rw[if_neg (by simp)] at fin
     (have W:=ndI c1 (ndI c2 (ndI c7 (ndI x1 (ndI x2 (ndI @Q0l @wrI)))));(repeat(any_goals(first|((with_reducible refine Q0n ?_ ?_ ?_);rfl;rfl;intro K hK;((apply Q0k (bf);rfl;rfl;rfl;rfl;exact Tryz.func15);kernel_rfl;rfl;(focus((simp(disch:=omega) only[go_sem,W]);(try rfl);done));(first|rfl));(simp(disch:=omega) only[go_sem,W];refine hK _ ?_;clear hK K))|((with_reducible refine Q0b ?_ ?_);rfl;intro K hK;simp(disch:=omega) only[go_sem,W];((repeat(refine ndI (by first|assumption|omega|rfl) ?_));refine hK _ ?_;clear hK K))|(with_reducible first|(refine Q0c ?_;refine hR _ ?_;clear hR R)|((first|refine Q0d ?_|refine Q0f ?_);intro J hJ hJ')|(refine Q0a ?_;intro R hR)|(refine hJ _ ?_;clear hJ hJ' J)|refine Q0g ?_)|((with_reducible refine hJ' _ _ ?_ ?_);(focus(simp;done));clear hJ hJ' J)|((with_reducible apply Q0e);rfl;rfl;all_goals(intro hc;first|(cases hc;done)|(try simp only at hc)))))))
     all_goals exact fin _ (St.to.trans (St.to.of_le (τ:=foR c T 23 (out++[y]) (i+1)) (St.le_of (by simp[leT]) (by simp only[leH,hget,e3];simp))) (foR_rn c _ _ _))
  · have c1:(decide ((i:Int)<(T.length:Int)))=false:=by simpa using hge
    rw[List.take_of_length_le hge]
    dsimp only[foR]
    (repeat(any_goals(first|((with_reducible refine Q0b ?_ ?_);rfl;intro K hK;simp only[go_sem,c1];((repeat(refine ndI (by first|assumption) ?_));refine hK _ ?_;clear hK K))|(with_reducible first|(refine Q0c ?_;refine hR _ ?_;clear hR R)|((first|refine Q0d ?_);intro J hJ hJ')|(refine Q0a ?_;intro R hR)|(refine hJ _ ?_;clear hJ hJ' J)|refine Q0j ?_|refine Q0o ?_)|((with_reducible refine hJ' _ _ ?_ ?_);(focus(simp;done));clear hJ hJ' J)|((with_reducible apply Q0e);rfl;rfl;all_goals(intro hc;first|(cases hc;done)|(try simp only at hc))))))
    all_goals exact⟨by simp,⟨_,rfl,AV.le_refl _⟩,Q0h (by simp[leH,hget])⟩
 have h1:=hrow.frzG
 generalize T.filter (fun s=>!p s)=AL at h1 ⊢
 simpa [AV.frz,AV.frzL,Q0p Q4y] using h1
theorem X5a(l:List Sp)(hl:l.length≤1000)(ho:∀x∈l,x.ok):Fn Tryz.prog 12 [spl5 false l,spl5 false l] [] (vb true) []:=by
 have k0:((l.length:Int) != (l.length:Int))=false:=by simp
 (refine Q0z Tryz.func12 rfl (by rfl) ?_;simp only[Tryz.ntmps12,List.length_cons,List.length_nil,Nat.reduceAdd,Nat.reduceSub,List.replicate,List.cons_append,List.nil_append])
 (repeat(any_goals(first|((with_reducible refine Q0b ?_ ?_);rfl;intro K hK;simp only[go_sem,k0];((repeat(refine ndI (by first|assumption) ?_));refine hK _ ?_;clear hK K))|(with_reducible first|(refine Q0c ?_;refine hR _ ?_;clear hR R)|((first|refine Q0d ?_|refine Q0f ?_);intro J hJ hJ')|(refine Q0a ?_;intro R hR)|(refine hJ _ ?_;clear hJ hJ' J)|refine Q0g ?_)|((with_reducible apply Q0e);rfl;rfl;all_goals(intro hc;first|(cases hc;done)|(try simp only at hc))))))
 refine Q1s l.length (fun i=>⟨[spl5 false l,spl5 false l,.any,.any,vb false,vi .i64 (i:Int),.any,.any,.any,.any,.any,.any,.any,.any,.any,.any,.any,.any,.any,.any,.any,.any,.any,.any,.any,.any],[]⟩) (St.le_of (by simp[leT]) (by simp[leH])) ?_
 intro i hi J hJ hJ'
 (try dsimp only at hJ ⊢)
 rcases Nat.lt_or_ge i l.length with hlt|hge
 · obtain⟨y,hy⟩:∃y,l[i]? = some y:=⟨_,List.getElem?_eq_getElem hlt⟩
   have k1:(decide ((i:Int)<(l.length:Int)))=true:=by simpa using hlt
   have k2:=Q8g hy
   have k7:(i:Int)+1=((i+1:Nat):Int):=by omega
   have oy:=ho y (List.mem_of_getElem? hy)
   have k3:=X1c oy oy
   rw[decide_eq_true rfl] at k3
   have fin:=fun σ'=>hJ σ' hlt
   clear hJ k0
   (have W:=ndI k1 (ndI k2 (ndI k3 (ndI k7 @wrI)));(repeat(any_goals(first|((with_reducible refine Q0b ?_ ?_);rfl;intro K hK;simp(disch:=omega) only[go_sem,W];((repeat(refine ndI (by first|assumption|rfl) ?_));refine hK _ ?_;clear hK K))|(with_reducible first|(refine Q0c ?_;refine hR _ ?_;clear hR R)|((first|refine Q0d ?_|refine Q0f ?_);intro J hJ hJ')|(refine Q0a ?_;intro R hR)|(refine hJ _ ?_;clear hJ hJ' J)|refine Q0g ?_)|((with_reducible refine hJ' _ _ ?_ ?_);(focus(simp;done));clear hJ hJ' J)|((with_reducible apply Q0e);rfl;rfl;all_goals(intro hc;first|(cases hc;done)|(try simp only at hc)))|((with_reducible refine Q0v ?_ ?_);kernel_rfl;(with_reducible refine hR _ ?_);clear hR R)|(((with_reducible apply Q0t);rfl;rfl;(simp(disch:=omega) only[rdE,rdOf,go_sem,W];rfl);(intro τ hA hQ hN;((try simp only[Q1e,Op.operands,Call.operands,go_sem,W,go_sem,List.mem_cons,List.not_mem_nil,forall_eq_or_imp,forall_eq,List.append_toArray,Option.toArray] at hA);(try simp only[go_sem,W,List.mem_cons,List.not_mem_nil,forall_eq_or_imp,forall_eq] at hQ hN);(first|(revert hA;intro hA));(first|(revert hQ;intro hQ));(first|(revert hN;intro hN));simp(disch:=omega) only[go_sem,W,go_sem,hA,hQ,hN];(repeat(refine ndI (by first|assumption|omega|rfl) ?_));(first|apply Q1a))));(simp(disch:=omega) only[St.eff,setO,Q0w,go_sem,W]))|((with_reducible refine Q0r ?_ ?_ ?_ ?_);kernel_rfl;kernel_rfl;(first|kernel_rfl);intro R hR)))))
   all_goals exact fin _ (St.le_of (by simp[leT]) (by simp[leH]))
 · have k1:(decide ((i:Int)<(l.length:Int)))=false:=by simpa using hge
   (repeat(any_goals(first|((with_reducible refine Q0b ?_ ?_);rfl;intro K hK;simp only[go_sem,k1];((repeat(refine ndI (by first|assumption) ?_));refine hK _ ?_;clear hK K))|(with_reducible first|(refine Q0c ?_;refine hR _ ?_;clear hR R)|((first|refine Q0d ?_);intro J hJ hJ')|(refine Q0a ?_;intro R hR)|(refine hJ _ ?_;clear hJ hJ' J)|refine Q0j ?_|refine Q0o ?_)|((with_reducible refine hJ' _ _ ?_ ?_);(focus(simp;done));clear hJ hJ' J)|((with_reducible apply Q0e);rfl;rfl;all_goals(intro hc;first|(cases hc;done)|(try simp only at hc))))))
   all_goals(refine⟨by simp,⟨_,?_,AV.le_refl _⟩,Q0h (by simp[leH,hget])⟩;simp only[Tryz.results12,resL,ldA,Q0q,go_sem])
end Go.Proofs.YtgdjkkapgghdbaaGreatDoor
namespace Go.Proofs.YtgdjkkapgghdbaaGreatDoor
open Go.RowKit
open Nat (reduceBEq)
attribute [-go_sem] IntKind.bits
set_option maxRecDepth 20000
set_option maxHeartbeats 2000000
theorem rd2_fn(e:Ev)(he:e.kind=2)(p:Ph):Fn Tryz.prog 102 [epE e,epP p,.ptr 1001 0] [(1001,[clF e])] (vb false) [(1001,[clF e])]:=by
 obtain⟨kind,dep,self,to,op,key,val,data⟩:=e
 dsimp only at he
 subst he
 (refine Q0z Tryz.func102 rfl (by rfl) ?_;simp only[Tryz.ntmps102,List.length_cons,List.length_nil,Nat.reduceAdd,Nat.reduceSub,List.replicate,List.cons_append,List.nil_append])
 (repeat(any_goals(first|((with_reducible refine Q0b ?_ ?_);rfl;intro K hK;simp only[go_sem];((repeat(refine ndI (by first|assumption) ?_));refine hK _ ?_;clear hK K))|(with_reducible first|(refine Q0c ?_;refine hR _ ?_;clear hR R)|((first|refine Q0d ?_);intro J hJ hJ')|(refine Q0a ?_;intro R hR)|(refine hJ _ ?_;clear hJ hJ' J)|refine Q0j ?_)|((with_reducible apply Q5f);rfl;rfl;rfl;(try simp only[go_sem]))|((with_reducible apply Q0y);rfl;rfl;rfl;all_goals(intro hb;first|(cases hb;done)|((try simp only[Bool.not_true,Bool.not_false] at hb);(first|((fail_if_success (with_reducible intro _));simp only[go_sem]))))))))
 all_goals(refine⟨by simp,⟨_,?_,AV.le_refl _⟩,Q0h (by simp[leH,hget])⟩;simp only[Tryz.results102,resL,ldA,Q0q,go_sem])
theorem rd3_fn(e:Ev)(he:e.kind=2):Fn Tryz.prog 103 [epE e,.ptr 1001 0] [(1001,[clF e])] (vb false) [(1001,[clF e])]:=by
 obtain⟨kind,dep,self,to,op,key,val,data⟩:=e
 dsimp only at he
 subst he
 (refine Q0z Tryz.func103 rfl (by rfl) ?_;simp only[Tryz.ntmps103,List.length_cons,List.length_nil,Nat.reduceAdd,Nat.reduceSub,List.replicate,List.cons_append,List.nil_append])
 (repeat(any_goals(first|((with_reducible refine Q0b ?_ ?_);rfl;intro K hK;simp only[go_sem];((repeat(refine ndI (by first|assumption) ?_));refine hK _ ?_;clear hK K))|(with_reducible first|(refine Q0c ?_;refine hR _ ?_;clear hR R)|((first|refine Q0d ?_);intro J hJ hJ')|(refine Q0a ?_;intro R hR)|(refine hJ _ ?_;clear hJ hJ' J)|refine Q0j ?_)|((with_reducible apply Q0y);rfl;rfl;rfl;all_goals(intro hb;first|(cases hb;done)|((try simp only[Bool.not_true,Bool.not_false] at hb);(first|((fail_if_success (with_reducible intro _));simp only[go_sem]))))))))
 all_goals(refine⟨by simp,⟨_,?_,AV.le_refl _⟩,Q0h (by simp[leH,hget])⟩;simp only[Tryz.results103,resL,ldA,Q0q,go_sem])
theorem rd4_fn(e:Ev)(he:e.kind=2):Fn Tryz.prog 104 [epE e,.ptr 1001 0] [(1001,[clF e])] (vb false) [(1001,[clF e])]:=by
 obtain⟨kind,dep,self,to,op,key,val,data⟩:=e
 dsimp only at he
 subst he
 (refine Q0z Tryz.func104 rfl (by rfl) ?_;simp only[Tryz.ntmps104,List.length_cons,List.length_nil,Nat.reduceAdd,Nat.reduceSub,List.replicate,List.cons_append,List.nil_append])
 (repeat(any_goals(first|((with_reducible refine Q0b ?_ ?_);rfl;intro K hK;simp only[go_sem];((repeat(refine ndI (by first|assumption) ?_));refine hK _ ?_;clear hK K))|(with_reducible first|(refine Q0c ?_;refine hR _ ?_;clear hR R)|((first|refine Q0d ?_);intro J hJ hJ')|(refine Q0a ?_;intro R hR)|(refine hJ _ ?_;clear hJ hJ' J)|refine Q0j ?_)|((with_reducible apply Q5f);rfl;rfl;rfl;(try simp only[go_sem]))|((with_reducible apply Q0y);rfl;rfl;rfl;all_goals(intro hb;first|(cases hb;done)|((try simp only[Bool.not_true,Bool.not_false] at hb);(first|((fail_if_success (with_reducible intro _));simp only[go_sem]))))))))
 all_goals(refine⟨by simp,⟨_,?_,AV.le_refl _⟩,Q0h (by simp[leH,hget])⟩;simp only[Tryz.results104,resL,ldA,Q0q,go_sem])
theorem rd5_fn(e:Ev)(he:e.kind=2)(p:Ph)(ks:List PV)(n:Int):Fn Tryz.prog 105 [epE e,.ptr 1001 0,.ptr 1002 0,epP p,.ep [.v (.int .i64 n)]] [(1001,[clF e]),(1002,[.ep ks])] (vb false) [(1001,[clF e]),(1002,[.ep ks])]:=by
 obtain⟨kind,dep,self,to,op,key,val,data⟩:=e
 dsimp only at he
 subst he
 (refine Q0z Tryz.func105 rfl (by rfl) ?_;simp only[Tryz.ntmps105,List.length_cons,List.length_nil,Nat.reduceAdd,Nat.reduceSub,List.replicate,List.cons_append,List.nil_append])
 (repeat(any_goals(first|((with_reducible refine Q0b ?_ ?_);rfl;intro K hK;simp only[go_sem];((repeat(refine ndI (by first|assumption) ?_));refine hK _ ?_;clear hK K))|(with_reducible first|(refine Q0c ?_;refine hR _ ?_;clear hR R)|((first|refine Q0d ?_);intro J hJ hJ')|(refine Q0a ?_;intro R hR)|(refine hJ _ ?_;clear hJ hJ' J)|refine Q0j ?_)|((with_reducible apply Q0y);rfl;rfl;rfl;all_goals(intro hb;first|(cases hb;done)|((try simp only[Bool.not_true,Bool.not_false] at hb);(first|((fail_if_success (with_reducible intro _));simp only[go_sem]))))))))
 all_goals(refine⟨by simp,⟨_,?_,AV.le_refl _⟩,Q0h (by simp[leH,hget])⟩;simp only[Tryz.results105,resL,ldA,Q0q,go_sem])
theorem rd6_fn(e:Ev)(he:e.kind=2):Fn Tryz.prog 107 [epE e,.ptr 1001 0] [(1001,[clF e])] (vb false) [(1001,[clF e])]:=by
 obtain⟨kind,dep,self,to,op,key,val,data⟩:=e
 dsimp only at he
 subst he
 (refine Q0z Tryz.func107 rfl (by rfl) ?_;simp only[Tryz.ntmps107,List.length_cons,List.length_nil,Nat.reduceAdd,Nat.reduceSub,List.replicate,List.cons_append,List.nil_append])
 (repeat(any_goals(first|((with_reducible refine Q0b ?_ ?_);rfl;intro K hK;simp only[go_sem];((repeat(refine ndI (by first|assumption) ?_));refine hK _ ?_;clear hK K))|(with_reducible first|(refine Q0c ?_;refine hR _ ?_;clear hR R)|((first|refine Q0d ?_);intro J hJ hJ')|(refine Q0a ?_;intro R hR)|(refine hJ _ ?_;clear hJ hJ' J)|refine Q0j ?_)|((with_reducible apply Q0y);rfl;rfl;rfl;all_goals(intro hb;first|(cases hb;done)|((try simp only[Bool.not_true,Bool.not_false] at hb);(first|((fail_if_success (with_reducible intro _));simp only[go_sem]))))))))
 all_goals(refine⟨by simp,⟨_,?_,AV.le_refl _⟩,Q0h (by simp[leH,hget])⟩;simp only[Tryz.results107,resL,ldA,Q0q,go_sem])
theorem rd7_fn(e:Ev)(he:e.kind=2)(ks:List PV):Fn Tryz.prog 108 [epE e,.ptr 1001 0,.ptr 1002 0] [(1001,[clF e]),(1002,[.ep ks])] (vb false) [(1001,[clF e]),(1002,[.ep ks])]:=by
 obtain⟨kind,dep,self,to,op,key,val,data⟩:=e
 dsimp only at he
 subst he
 (refine Q0z Tryz.func108 rfl (by rfl) ?_;simp only[Tryz.ntmps108,List.length_cons,List.length_nil,Nat.reduceAdd,Nat.reduceSub,List.replicate,List.cons_append,List.nil_append])
 (repeat(any_goals(first|((with_reducible refine Q0b ?_ ?_);rfl;intro K hK;simp only[go_sem];((repeat(refine ndI (by first|assumption) ?_));refine hK _ ?_;clear hK K))|(with_reducible first|(refine Q0c ?_;refine hR _ ?_;clear hR R)|((first|refine Q0d ?_);intro J hJ hJ')|(refine Q0a ?_;intro R hR)|(refine hJ _ ?_;clear hJ hJ' J)|refine Q0j ?_)|((with_reducible apply Q0y);rfl;rfl;rfl;all_goals(intro hb;first|(cases hb;done)|((try simp only[Bool.not_true,Bool.not_false] at hb);(first|((fail_if_success (with_reducible intro _));simp only[go_sem]))))))))
 all_goals(refine⟨by simp,⟨_,?_,AV.le_refl _⟩,Q0h (by simp[leH,hget])⟩;simp only[Tryz.results108,resL,ldA,Q0q,go_sem])
theorem ruleRd_fn(c:Cs)(hc:c.ok)(p:Ph)(hp:p.ok)(at_:Nat)(e:Ev)(hy:p.tr[at_]? = some e)(h2:e.kind=2):Fn Tryz.prog 68 [ktP c (ofM c) (ofF c),phA p,vi .i64 at_] [] (vi .i64 (X7f c p at_ e)) []:=by
 have he:=hp.2.2 e (List.mem_of_getElem? hy)
 have h:=rule_fnE _ p at_ e (List.getElem?_eq_some_iff.1 hy).1 (X8e hy) _ _ _ _ _ _ _ (rd2_fn e h2 p) (rd3_fn e h2) (rd4_fn e h2) (rd5_fn e h2 p _ at_) (rd6_fn e h2) (rd7_fn e h2 _) (rl8_fn e he c hc (ofM c) (ofF c) p hp.1)
 have e2:X7f c p at_ e=ruleN false false false false false false (((e.kind==2)||(e.kind==3)) && !X1n c (ofF c) p e):=by
  unfold X7f
  rw[h2]
  rfl
 rw[e2]
 exact h
theorem Z1p(b:Bool):∀p∈(Q2d b).ph,∀e∈p.tr,e.kind=2:=fun p hp e he=>by
 rcases List.mem_cons.1 hp with rfl|hp
 · cases he
 · rcases List.mem_cons.1 hp with rfl|hp
   · rcases List.mem_cons.1 he with rfl|he
     · rfl
     · cases he
   · cases hp
theorem X2b(b:Bool):Fn Tryz.prog 27 [csA (Q2d b)] [] (bkE (Q7t (Q2d b)) (Q7s (Q2d b))) []:=
 holds_fnR (Q2d b) (Q7j b) fun _ p hp j e he=>ruleRd_fn (Q2d b) (Q7j b) p ((Q7j b).2.1.2 p hp) j e he (Z1p b p hp e (List.mem_of_getElem? he))
theorem wakesO_fn:Fn Tryz.prog 8 [] [] (vb true) []:=
 wakes_fnE (X2b false) (X2b true) _ (X2f (Q2d true) (Q7j true)) plain_for
end Go.Proofs.YtgdjkkapgghdbaaGreatDoor
namespace Go.Proofs.YtgdjkkapgghdbaaGreatDoor
open Go.RowKit
open Nat (reduceBEq)
attribute [-go_sem] IntKind.bits
set_option maxRecDepth 20000
set_option maxHeartbeats 4000000
theorem Z1e:Fn Tryz.prog 12 [spl5 false [],nilA] [] (vb true) []:=
 (X5a [] (Nat.zero_le _) (fun x hx=>by cases hx)).args ⟨AV.le_refl _,AV.le_nil false 5,trivial⟩
abbrev owS(X:Cs)(sl:List Sp)(b:Bool)(i:Nat):St:=⟨[.any,.any,.any,.any,vb false,.ptr 5 0,vb b,.any,.any,.any,.any,.any,.any,.any,.any,.any,.any,.any,.any,.any,.any,.any,.any,.any,spl5 false sl,vi .i64 sl.length,vi .i64 (i:Int),.any,.any,.any,.any,.any,.any,.any,.any,.any,.any,.any,.any,.any,.any,.any,.any,.any,.any,.any,.any,.any],[(5,[vi .u64 X.snd,phs false X.ph,asl false X.cd])]⟩
theorem own_fnE(x X:Cs)(sl:List Sp)(hsl:sl.length<9223372036854775808)(fw:Fn Tryz.prog 9 [csA x] [] (csA X) [])(b:Bool)(F:List Sp)(p:Sp→Bool)
 (rt:Fn Tryz.prog 10 [csA X] [] (vb b) [])
 (cf:Fn Tryz.prog 13 [csA X] [] (spl5 false (if b then F else[])) [])
 (rf:b=true→Fn Tryz.prog 11 [csA X] [] (spl5 false F) [])
 (ss:Fn Tryz.prog 12 [spl5 false F,spl5 false F] [] (vb true) [])
 (ow:∀s∈sl,Fn Tryz.prog 14 [csA X,spA s] [] (vb (b&&p s)) [])
 (be:b=true→∀s∈sl,Fn Tryz.prog 15 [csA X,spA s,vi .u64 X.snd] [] (vb (p s)) []) :
 Fn Tryz.prog 3 [csA x,spl5 false sl] [] (vb true) []:=by
 obtain⟨xs,xp,xc⟩:=x
 have wk:=wakesO_fn
 cases b with
 |false=>
  rw[if_neg (by simp)] at cf
  have ss:=Z1e
  simp only[Bool.false_and] at ow
  clear rf be
  (refine Q0z Tryz.func3 rfl (by rfl) ?_;simp only[Tryz.ntmps3,List.length_cons,List.length_nil,Nat.reduceAdd,Nat.reduceSub,List.replicate,List.cons_append,List.nil_append])
  (repeat(any_goals(first|((with_reducible refine Q0n ?_ ?_ ?_);rfl;rfl;intro K hK;((first|(apply Q0k (wk);rfl;rfl;rfl;rfl;exact Tryz.func8)|(apply Q0k (fw);rfl;rfl;rfl;rfl;exact Tryz.func9)|(apply Q0k (rt);rfl;rfl;rfl;rfl;exact Tryz.func10)|(apply Q0k (cf);rfl;rfl;rfl;rfl;exact Tryz.func13)|(apply Q0k (ss);rfl;rfl;rfl;rfl;exact Tryz.func12));kernel_rfl;rfl;(focus((simp only[go_sem]);(try rfl);done));(first|rfl));(simp only[go_sem];refine hK _ ?_;clear hK K))|((with_reducible refine Q0b ?_ ?_);rfl;intro K hK;simp only[go_sem];((repeat(refine ndI (by first|assumption) ?_));refine hK _ ?_;clear hK K))|(with_reducible first|(refine Q0c ?_;refine hR _ ?_;clear hR R)|((first|refine Q0d ?_|refine Q0f ?_);intro J hJ hJ')|(refine Q0a ?_;intro R hR)|(refine hJ _ ?_;clear hJ hJ' J)|refine Q0g ?_)|((with_reducible apply Q0e);rfl;rfl;all_goals(intro hc;first|(cases hc;done)|(try simp only at hc))))))
  refine Q1s sl.length (fun i=>owS X sl false i) (St.le_of (by simp[leT]) (by simp[leH,hget])) ?_
  clear wk fw rt cf ss
  intro i hi J hJ hJ'
  (try dsimp only at hJ ⊢)
  rcases Nat.lt_or_ge i sl.length with hlt|hge
  · obtain⟨s,hs⟩:∃x,sl[i]? = some x:=⟨_,List.getElem?_eq_getElem hlt⟩
    have k1:(decide ((i:Int)<(sl.length:Int)))=true:=decide_eq_true (by omega)
    have k2:=Q8g hs
    have k7:(i:Int)+1=((i+1:Nat):Int):=by omega
    have ow:=ow s (List.mem_of_getElem? hs)
    have fin:=fun τ=>hJ τ hlt
    clear hJ
    by_cases h20:i<20
    · have k3:decide ((i:Int)<20)=true:=decide_eq_true (by omega)
      (have W:=ndI k1 (ndI k2 (ndI k3 (ndI k7 @wrI)));(repeat(any_goals(first|((with_reducible refine Q0b ?_ ?_);rfl;intro K hK;simp(disch:=omega) only[go_sem,W];((repeat(refine ndI (by first|assumption|omega|rfl) ?_));refine hK _ ?_;clear hK K))|(with_reducible first|(refine Q0c ?_;refine hR _ ?_;clear hR R)|((first|refine Q0d ?_|refine Q0f ?_);intro J hJ hJ')|(refine Q0a ?_;intro R hR)|(refine hJ _ ?_;clear hJ hJ' J)|refine Q0g ?_)|((with_reducible refine hJ' _ _ ?_ ?_);(focus(simp;done));clear hJ hJ' J)|((with_reducible apply Q0y);rfl;rfl;rfl;all_goals(intro hb;first|(cases hb;done)|((try simp only[Bool.not_true,Bool.not_false] at hb);(first|((with_reducible intro K hK);(first|((apply Q0k (ow);rfl;rfl;rfl;rfl;exact Tryz.func14);kernel_rfl;rfl;(focus((simp(disch:=omega) only[go_sem,W]);(try rfl);done));(first|rfl))|skip);simp(disch:=omega) only[go_sem,W];((repeat(refine ndI (by first|assumption|rfl) ?_));refine hK _ ?_;clear hK K))|((fail_if_success (with_reducible intro _));simp(disch:=omega) only[go_sem,W])))))|((with_reducible apply Q0e);rfl;rfl;all_goals(intro hc;first|(cases hc;done)|(try simp only at hc)))))))
      all_goals exact fin _ (St.le_of (by simp[leT]) (by simp[leH,hget]))
    · have k3:decide ((i:Int)<20)=false:=decide_eq_false (by omega)
      clear ow
      (have W:=ndI k1 (ndI k2 (ndI k3 (ndI k7 @wrI)));(repeat(any_goals(first|((with_reducible refine Q0b ?_ ?_);rfl;intro K hK;simp(disch:=omega) only[go_sem,W];((repeat(refine ndI (by first|assumption|omega|rfl) ?_));refine hK _ ?_;clear hK K))|(with_reducible first|(refine Q0c ?_;refine hR _ ?_;clear hR R)|((first|refine Q0d ?_|refine Q0f ?_);intro J hJ hJ')|(refine Q0a ?_;intro R hR)|(refine hJ _ ?_;clear hJ hJ' J)|refine Q0g ?_)|((with_reducible refine hJ' _ _ ?_ ?_);(focus(simp;done));clear hJ hJ' J)|((with_reducible apply Q5f);rfl;rfl;rfl;(try simp(disch:=omega) only[go_sem,W]))|((with_reducible apply Q0y);rfl;rfl;rfl;all_goals(intro hb;first|(cases hb;done)|((try simp only[Bool.not_true,Bool.not_false] at hb);(first|((fail_if_success (with_reducible intro _));simp(disch:=omega) only[go_sem,W])))))|((with_reducible apply Q0e);rfl;rfl;all_goals(intro hc;first|(cases hc;done)|(try simp only at hc)))))))
      all_goals exact fin _ (St.le_of (by simp[leT]) (by simp[leH,hget]))
  · have k1:(decide ((i:Int)<(sl.length:Int)))=false:=decide_eq_false (by omega)
    (repeat(any_goals(first|((with_reducible refine Q0b ?_ ?_);rfl;intro K hK;simp only[go_sem,k1];((repeat(refine ndI (by first|assumption) ?_));refine hK _ ?_;clear hK K))|(with_reducible first|(refine Q0c ?_;refine hR _ ?_;clear hR R)|((first|refine Q0d ?_);intro J hJ hJ')|(refine Q0a ?_;intro R hR)|(refine hJ _ ?_;clear hJ hJ' J)|refine Q0j ?_|refine Q0o ?_)|((with_reducible refine hJ' _ _ ?_ ?_);(focus(simp;done));clear hJ hJ' J)|((with_reducible apply Q0e);rfl;rfl;all_goals(intro hc;first|(cases hc;done)|(try simp only at hc))))))
    all_goals(refine⟨by simp,⟨_,?_,AV.le_refl _⟩,Q0h (by simp[leH,hget])⟩;simp only[Tryz.results3,resL,ldA,Q0q,go_sem])
 |true=>
  rw[if_pos rfl] at cf
  have rf:=rf rfl
  have be:=be rfl
  simp only[Bool.true_and] at ow
  (refine Q0z Tryz.func3 rfl (by rfl) ?_;simp only[Tryz.ntmps3,List.length_cons,List.length_nil,Nat.reduceAdd,Nat.reduceSub,List.replicate,List.cons_append,List.nil_append])
  (repeat(any_goals(first|((with_reducible refine Q0n ?_ ?_ ?_);rfl;rfl;intro K hK;((first|(apply Q0k (wk);rfl;rfl;rfl;rfl;exact Tryz.func8)|(apply Q0k (fw);rfl;rfl;rfl;rfl;exact Tryz.func9)|(apply Q0k (rt);rfl;rfl;rfl;rfl;exact Tryz.func10)|(apply Q0k (cf);rfl;rfl;rfl;rfl;exact Tryz.func13)|(apply Q0k (rf);rfl;rfl;rfl;rfl;exact Tryz.func11)|(apply Q0k (ss);rfl;rfl;rfl;rfl;exact Tryz.func12));kernel_rfl;rfl;(focus((simp only[go_sem]);(try rfl);done));(first|rfl));(simp only[go_sem];refine hK _ ?_;clear hK K))|((with_reducible refine Q0b ?_ ?_);rfl;intro K hK;simp only[go_sem];((repeat(refine ndI (by first|assumption) ?_));refine hK _ ?_;clear hK K))|(with_reducible first|(refine Q0c ?_;refine hR _ ?_;clear hR R)|((first|refine Q0d ?_|refine Q0f ?_);intro J hJ hJ')|(refine Q0a ?_;intro R hR)|(refine hJ _ ?_;clear hJ hJ' J)|refine Q0g ?_)|((with_reducible apply Q0e);rfl;rfl;all_goals(intro hc;first|(cases hc;done)|(try simp only at hc))))))
  refine Q1s sl.length (fun i=>owS X sl true i) (St.le_of (by simp[leT]) (by simp[leH,hget])) ?_
  clear wk fw rt cf rf ss
  intro i hi J hJ hJ'
  (try dsimp only at hJ ⊢)
  rcases Nat.lt_or_ge i sl.length with hlt|hge
  · obtain⟨s,hs⟩:∃x,sl[i]? = some x:=⟨_,List.getElem?_eq_getElem hlt⟩
    have k1:(decide ((i:Int)<(sl.length:Int)))=true:=decide_eq_true (by omega)
    have k2:=Q8g hs
    have k7:(i:Int)+1=((i+1:Nat):Int):=by omega
    have ow:=ow s (List.mem_of_getElem? hs)
    have be:=be s (List.mem_of_getElem? hs)
    have fin:=fun τ=>hJ τ hlt
    clear hJ
    generalize p s=v at ow be
    by_cases h20:i<20
    · have k3:decide ((i:Int)<20)=true:=decide_eq_true (by omega)
      have k4:(v != v)=false:=by cases v<;>rfl
      (have W:=ndI k1 (ndI k2 (ndI k3 (ndI k4 (ndI k7 @wrI))));(repeat(any_goals(first|((with_reducible refine Q0b ?_ ?_);rfl;intro K hK;simp(disch:=omega) only[go_sem,W];((repeat(refine ndI (by first|assumption|omega|rfl) ?_));refine hK _ ?_;clear hK K))|(with_reducible first|(refine Q0c ?_;refine hR _ ?_;clear hR R)|((first|refine Q0d ?_|refine Q0f ?_);intro J hJ hJ')|(refine Q0a ?_;intro R hR)|(refine hJ _ ?_;clear hJ hJ' J)|refine Q0g ?_)|((with_reducible refine hJ' _ _ ?_ ?_);(focus(simp;done));clear hJ hJ' J)|((with_reducible apply Q0y);rfl;rfl;rfl;all_goals(intro hb;first|(cases hb;done)|((try simp only[Bool.not_true,Bool.not_false] at hb);(first|((with_reducible intro K hK);(first|((first|(apply Q0k (ow);rfl;rfl;rfl;rfl;exact Tryz.func14)|(apply Q0k (be);rfl;rfl;rfl;rfl;exact Tryz.func15));kernel_rfl;rfl;(focus((simp(disch:=omega) only[go_sem,W]);(try rfl);done));(first|rfl))|skip);simp(disch:=omega) only[go_sem,W];((repeat(refine ndI (by first|assumption|rfl) ?_));refine hK _ ?_;clear hK K))))))|((with_reducible apply Q0e);rfl;rfl;all_goals(intro hc;first|(cases hc;done)|(try simp only at hc)))))))
      all_goals exact fin _ (St.le_of (by simp[leT]) (by simp[leH,hget]))
    · have k3:decide ((i:Int)<20)=false:=decide_eq_false (by omega)
      clear ow be
      (have W:=ndI k1 (ndI k2 (ndI k3 (ndI k7 @wrI)));(repeat(any_goals(first|((with_reducible refine Q0b ?_ ?_);rfl;intro K hK;simp(disch:=omega) only[go_sem,W];((repeat(refine ndI (by first|assumption|omega|rfl) ?_));refine hK _ ?_;clear hK K))|(with_reducible first|(refine Q0c ?_;refine hR _ ?_;clear hR R)|((first|refine Q0d ?_|refine Q0f ?_);intro J hJ hJ')|(refine Q0a ?_;intro R hR)|(refine hJ _ ?_;clear hJ hJ' J)|refine Q0g ?_)|((with_reducible refine hJ' _ _ ?_ ?_);(focus(simp;done));clear hJ hJ' J)|((with_reducible apply Q5f);rfl;rfl;rfl;(try simp(disch:=omega) only[go_sem,W]))|((with_reducible apply Q0y);rfl;rfl;rfl;all_goals(intro hb;first|(cases hb;done)|((try simp only[Bool.not_true,Bool.not_false] at hb);(first|((fail_if_success (with_reducible intro _));simp(disch:=omega) only[go_sem,W])))))|((with_reducible apply Q0e);rfl;rfl;all_goals(intro hc;first|(cases hc;done)|(try simp only at hc)))))))
      all_goals exact fin _ (St.le_of (by simp[leT]) (by simp[leH,hget]))
  · have k1:(decide ((i:Int)<(sl.length:Int)))=false:=decide_eq_false (by omega)
    (repeat(any_goals(first|((with_reducible refine Q0b ?_ ?_);rfl;intro K hK;simp only[go_sem,k1];((repeat(refine ndI (by first|assumption) ?_));refine hK _ ?_;clear hK K))|(with_reducible first|(refine Q0c ?_;refine hR _ ?_;clear hR R)|((first|refine Q0d ?_);intro J hJ hJ')|(refine Q0a ?_;intro R hR)|(refine hJ _ ?_;clear hJ hJ' J)|refine Q0j ?_|refine Q0o ?_)|((with_reducible refine hJ' _ _ ?_ ?_);(focus(simp;done));clear hJ hJ' J)|((with_reducible apply Q0e);rfl;rfl;all_goals(intro hc;first|(cases hc;done)|(try simp only at hc))))))
    all_goals(refine⟨by simp,⟨_,?_,AV.le_refl _⟩,Q0h (by simp[leH,hget])⟩;simp only[Tryz.results3,resL,ldA,Q0q,go_sem])
end Go.Proofs.YtgdjkkapgghdbaaGreatDoor
namespace Go.Proofs.YtgdjkkapgghdbaaGreatDoor
open Go.RowKit Go.ChangeShapes Go.WideShapes Go.ChangeAt Go.Deep
section
variable {H:Type} {enc:TypeId×Value→H} {P:Program}
def Dec{α : Type}(P:Program)(t:TypeId)(sz:Nat)(f:α→List Value)(Good:α→Prop):Prop:=
 P.cellsOf t=sz∧∀(H:Type) (enc:TypeId×Value→H) (w:World) (base:Nat) (spare:Nat→Bool) (held:Bool) (fuel:Nat) (cs:List Value) (x:DataW H×List MemPlace),
  DataW.trod enc P w base spare held fuel t cs=some x→∃a,cs=f a∧Good a
theorem dec_int{t:TypeId}{k:IntKind}(ht:P.underlying t=some (.int k))(hc:P.cellsOf t=1):Dec P t 1 (fun n:Int=>[.int k n]) (fun n=>(Lit.int k n).wf=true):=
 ⟨hc,fun H enc w base spare held fuel cs x h=>by
   obtain⟨n,rfl,_,hw⟩:=DataW.trod_int ht h
   exact⟨n,rfl,hw⟩⟩
theorem dec_map{α β : Type}{t:TypeId}{sz:Nat}{f:α→List Value}{G:α→Prop}(h:Dec P t sz f G){f':β→List Value}{G':β→Prop}(hg:∀a,G a→∃b,f a=f' b∧G' b):Dec P t sz f' G':=
 ⟨h.1,fun H enc w base spare held fuel cs x hx=>by
   obtain⟨a,e,g⟩:=h.2 H enc w base spare held fuel cs x hx
   obtain⟨b,e',g'⟩:=hg a g
   exact⟨b,e.trans e',g'⟩⟩
theorem wf_u64{n:Int}(h:(Lit.int .u64 n).wf=true):0≤n∧n<18446744073709551616:=by
 simp[Lit.wf,IntKind.min,IntKind.max,IntKind.signed,IntKind.bits] at h;omega
theorem wf_u8{n:Int}(h:(Lit.int .u8 n).wf=true):0≤n∧n<256:=by
 simp[Lit.wf,IntKind.min,IntKind.max,IntKind.signed,IntKind.bits] at h;omega
theorem dec_u64{t:TypeId}(ht:P.underlying t=some (.int .u64))(hc:P.cellsOf t=1):Dec P t 1 (fun n:Nat=>[.int .u64 (n:Int)]) (fun n=>n<18446744073709551616):=
 dec_map (dec_int ht hc) fun n h=>⟨n.toNat,by have:=wf_u64 h;rw[Int.toNat_of_nonneg (by omega)],by have:=wf_u64 h;omega⟩
theorem Q7c{α : Type}{p:Nat→α→Prop}(n:Nat)(h:∀i,i<n→∃b,p i b):∃l:List α,l.length=n∧∀i b,l[i]? = some b→p i b:=by
 induction n with
 |zero=>exact⟨[],rfl,by simp⟩
 |succ k ih=>
  obtain⟨l,hl,hp⟩:=ih fun i hi=>h i (by omega)
  obtain⟨b,hb⟩:=h k (by omega)
  refine⟨l++[b],by simp[hl],fun i b' hib=>?_⟩
  rw[List.getElem?_append] at hib
  split at hib
  · exact hp i b' hib
  · have hi0:i=k:=by
     have:=(List.getElem?_eq_some_iff.1 hib).1
     simp at this;omega
    subst hi0
    rw[hl,Nat.sub_self] at hib
    simp at hib
    subst hib
    exact hb
theorem dec_arr{α : Type}{t e:TypeId}{n sz:Nat}{f:α→List Value}{G:α→Prop}(ht:P.underlying t=some (.array n e))(hc:P.cellsOf t=n*sz)(hs:0<sz)
 (he:Dec P e sz f G) (hf:∀a,(f a).length=sz):Dec P t (n*sz) (sts f) (fun l=>l.length=n∧∀a∈l,G a):=
 ⟨hc,fun H enc w base spare held fuel cs x hx=>by
   obtain⟨xs,m,_,_,hlen,hxl,hi⟩:=DataW.trod_array ht hx
   rw[hc] at hlen
   obtain⟨l,hl,hp⟩:=Q7c (p:=fun i b=>G b∧(cs.drop (i*sz)).take sz=f b) n fun i hin=>by
    have h1:=hi i hin
    rw[he.1,List.getElem?_eq_getElem (by omega)] at h1
    obtain⟨b,hb,hg⟩:=he.2 H enc w base spare held m _ _ h1
    exact⟨b,hg,hb⟩
   refine⟨l,?_,hl,fun a ha=>?_⟩
   · apply List.ext_getElem?
     intro j
     by_cases hj:j<n*sz
     · have hq:j/sz<n:=Nat.div_lt_of_lt_mul (by rw[Nat.mul_comm];exact hj)
       have hr:j%sz<sz:=Nat.mod_lt _ hs
       have hje:j=j/sz*sz+j%sz:=by rw[Nat.mul_comm];exact(Nat.div_add_mod j sz).symm
       have hk:l[j/sz]? = some (l[j/sz]'(by omega)):=List.getElem?_eq_getElem (by omega)
       have h1:=sts_get hf hk hr
       rw[←hje] at h1
       rw[h1,←(hp _ _ hk).2,List.getElem?_take,if_pos hr,List.getElem?_drop,←hje]
     · rw[List.getElem?_eq_none (by omega),List.getElem?_eq_none (by rw[Z1b f sz hf,hl];omega)]
   · obtain⟨i,hi'⟩:=List.mem_iff_getElem?.1 ha
     exact(hp i a hi').1⟩
theorem Q7f(hl:laidOutB P=true){W W':World}(hb:Below W.heap.size W W'):∀{ts:List TypeId} {vs:List Value} {ds:List (DataW H)} {ps:List MemPlace},
 (∀t∈ts,P.readableRec t=true∧t<P.types.size)→DataW.TrodAll enc P W 0 (fun _=>true) true ts vs ds ps→DataW.TrodAll enc P W' 0 (fun b=>decide (b<W.heap.size)) true ts vs ds ps
 |[],[],[],_,_,h=>h
 |t::ts,v::vs,d::ds,ps,hr,h=>by
  obtain⟨p,q,⟨m,hm⟩,hq,rfl⟩:=h
  have h1:=hr t (List.mem_cons_self ..)
  exact⟨p,q,Below.trod hl h1.1 h1.2 ⟨m,hm⟩ hb (fun x hx=>DataW.trod_lt m _ _ _ hm x hx),Q7f hl hb (fun t ht=>hr t (List.mem_cons_of_mem _ ht)) hq,rfl⟩
 |[],_::_,_,_,_,h=>h.elim
 |[],[],_::_,_,_,h=>h.elim
 |_::_,[],_,_,_,h=>h.elim
 |_::_,_::_,[],_,_,h=>h.elim
theorem Q8p:∀{w:World} {base:Nat} {spare:Nat→Bool} {held:Bool} {ts:List TypeId} {vs:List Value} {ds:List (DataW H)} {ps:List MemPlace},DataW.TrodAll enc P w base spare held ts vs ds ps→ds.length=ts.length
 |_,_,_,_,[],[],[],_,_=>rfl
 |_,_,_,_,t::ts,v::vs,d::ds,_,h=>by
  obtain⟨p,q,_,hq,_⟩:=h
  simp[Q8p hq]
 |_,_,_,_,[],_::_,_,_,h=>h.elim
 |_,_,_,_,[],[],_::_,_,h=>h.elim
 |_,_,_,_,_::_,[],_,_,h=>h.elim
 |_,_,_,_,_::_,_::_,[],_,h=>h.elim
theorem law_post{W:World}{args:Array Value}{ds gs:List (DataW H)}{before:List MemPlace}{fn:Func}{s:ChangeSpec}{f:Nat}{tb:TypeId}(hl:laidOutB P=true)(hvars:s.vars=[])(htb:P.underlying tb=some .bool)(hrt:fn.resultTypes = #[tb])
 (hr:∀t∈fn.params.toList,P.readableRec t=true∧t<P.types.size) (hfn:∀ds:List (DataW H),ds.length=fn.params.toList.length→s.fn H ds={results:=[.lit (.bool true)],args:=ds})
 (hW:DataW.Whole enc P fn.params.toList s.vars false W args.toList ds gs before) (hc:Calls P f args W (RetT W true)) :
 Calls P f args W fun e W'=>∃v,e = .returned v∧s.post enc P fn false true false false W args v W':=by
 refine hc.mono fun e W' h=>?_
 obtain⟨he,bel⟩:=h
 subst he
 have hW':=hW
 obtain⟨p,q,hA,hV,rfl,hfz,hnd⟩:=hW
 rw[hvars] at hV
 obtain⟨rfl,rfl⟩:=trodVars_none hV
 have hfd:=hfn ds (Q8p hA)
 refine⟨_,rfl,ds,[],p++[],[],p,[],hW',?_,?_,?_,bel.frame _,fun h=>by cases h⟩
 · rw[hrt,List.append_nil,hfd]
   exact trodAll_mk1 (shut_bool htb _)
 · rw[List.append_nil,hfd]
   exact Q7f hl bel hr hA
 · rw[hvars,List.append_nil,hfd]
   rfl
end
end Go.Proofs.YtgdjkkapgghdbaaGreatDoor
namespace Go.Proofs.YtgdjkkapgghdbaaGreatDoor
open Go.RowKit Go.ChangeShapes Go.WideShapes Go.ChangeAt Go.Deep
def DecV{α : Type}(P:Program)(t:TypeId)(sz:Nat)(g:α→List PV)(Good:α→Prop):Prop:=
 P.cellsOf t=sz∧∀(H:Type) (enc:TypeId×Value→H) (w:World) (base:Nat) (spare:Nat→Bool) (held:Bool) (fuel:Nat) (cs:List Value) (x:DataW H×List MemPlace),
  DataW.trod enc P w base spare held fuel t cs=some x→∃a,cs.length=sz∧(g a).length=sz∧(∀(j:Nat) (u:Value) (y:PV),cs[j]? = some u→(g a)[j]? = some y→RVp (fun _=>True) w u y)∧Good a
theorem Dec.toV{α : Type}{P:Program}{t:TypeId}{sz:Nat}{f:α→List Value}{G:α→Prop}(h:Dec P t sz f G)(hf:∀a,(f a).length=sz)(ho:∀a,∀u∈f a,u.oneCell'=true):DecV P t sz (fun a=>(f a).map .v) G:=
 ⟨h.1,fun H enc w base spare held fuel cs x hx=>by
   obtain⟨a,rfl,ga⟩:=h.2 H enc w base spare held fuel cs x hx
   refine⟨a,hf a,by simp[hf],fun j u y hu hy=>?_,ga⟩
   rw[List.getElem?_map,hu] at hy
   cases hy
   exact .v u (ho a u (List.mem_of_getElem? hu))⟩
theorem DecV.map{α β : Type}{P:Program}{t:TypeId}{sz:Nat}{g:α→List PV}{G:α→Prop}(h:DecV P t sz g G){g':β→List PV}{G':β→Prop}(hg:∀a,G a→∃b,g a=g' b∧G' b):DecV P t sz g' G':=
 ⟨h.1,fun H enc w base spare held fuel cs x hx=>by
   obtain⟨a,h1,h2,h3,ga⟩:=h.2 H enc w base spare held fuel cs x hx
   obtain⟨b,e,gb⟩:=hg a ga
   exact⟨b,h1,by rw[←e];exact h2,by rw[←e];exact h3,gb⟩⟩
theorem Q5i{α : Type}{P:Program}{t e:TypeId}{sz:Nat}{g:α→List PV}{G:α→Prop}(ht:P.underlying t=some (.slice e))(hc:P.cellsOf t=1)(he:DecV P e sz g G)(hs:0<sz)(hgl:∀a,(g a).length=sz) :
 DecV P t 1 (fun l:List α=>[PV.sl false sz l.length (l.flatMap g)]) (fun l=>l.length≤maxLen∧∀a∈l,G a):=
 ⟨hc,fun H enc w base spare held fuel cs x hx=>by
   rcases DataW.trod_slice ht hx with⟨rfl,_⟩|⟨a,n,c,elems,rest,m,_,rfl,_,_,hl,hm,hel,hi,_,_⟩
   · refine⟨[],rfl,rfl,fun j u y hu hy=>?_,Nat.zero_le _,by simp⟩
     cases j with
     |zero=>
      simp only[List.getElem?_cons_zero,Option.some.injEq] at hu hy
      subst hu hy
      exact .sl false sz none 0 0 [] [] (Nat.le_refl _) (Nat.zero_le _) (fun _=>rfl) (fun h=>by cases h) rfl (by simp) (fun h=>absurd rfl h) fun j u x hu=>by cases hu
     |succ j=>simp at hu
   · have key:∀i,i<n→∃b:α,G b∧∃us:List Value,us.length=sz∧(∀j,j<sz→w.cell? (a.add (i*sz+j))=us[j]?)∧∀(j:Nat) (u:Value) (y:PV),us[j]? = some u→(g b)[j]? = some y→RVp (fun _=>True) w u y:=by
      intro i hin
      have h1:=hi i hin
      rw[List.getElem?_eq_getElem (by omega)] at h1
      obtain⟨us,hcs,htr⟩:=Option.bind_eq_some_iff.1 h1
      rw[he.1] at hcs
      obtain⟨b,hb1,hb2,hb3,hG⟩:=he.2 H enc w base spare held m us _ htr
      obtain⟨_,hcl,hat⟩:=World.cells?_some hcs
      refine⟨b,hG,us,hb1,fun j hj=>?_,hb3⟩
      rw[←Go.Deep.add_add,hat j hj]
     have key2:∃l:List α,l.length=n∧∀i b,l[i]? = some b→G b∧∃us:List Value,us.length=sz∧(∀j,j<sz→w.cell? (a.add (i*sz+j))=us[j]?)∧∀(j:Nat) (u:Value) (y:PV),us[j]? = some u→(g b)[j]? = some y→RVp (fun _=>True) w u y:=
      Q7c (p:=fun i b=>G b∧∃us:List Value,us.length=sz∧(∀j,j<sz→w.cell? (a.add (i*sz+j))=us[j]?)∧∀(j:Nat) (u:Value) (y:PV),us[j]? = some u→(g b)[j]? = some y→RVp (fun _=>True) w u y) n key
     obtain⟨l,hll,hp⟩:=key2
     have hcell:∀j,j<n*sz→∃u,w.cell? (a.add j)=some u∧∀y,(l.flatMap g)[j]? = some y→RVp (fun _=>True) w u y:=fun j hjl=>by
      have hq:j/sz<n:=Nat.div_lt_of_lt_mul (by rw[Nat.mul_comm];exact hjl)
      have hr:j%sz<sz:=Nat.mod_lt _ hs
      have hj:j=j/sz*sz+j%sz:=by rw[Nat.mul_comm];exact(Nat.div_add_mod j sz).symm
      have hk:l[j/sz]? = some (l[j/sz]'(by omega)):=List.getElem?_eq_getElem (by omega)
      obtain⟨_,us,hul,hc1,hrv⟩:=hp _ _ hk
      have h1:=hc1 _ hr
      rw[←hj,List.getElem?_eq_getElem (by omega)] at h1
      refine⟨_,h1,fun y hy=>hrv (j%sz) _ y (List.getElem?_eq_getElem (by omega)) ?_⟩
      have h2:=Q5q hgl hk
      have h3:((l.flatMap g).drop (j/sz*sz)).take sz=g (l[j/sz]'(by omega)):=h2
      rw[←h3,List.getElem?_take,if_pos hr,List.getElem?_drop,←hj]
      exact hy
     have hus:∃us:List Value,us.length=n*sz∧∀j u,us[j]? = some u→w.cell? (a.add j)=some u∧∀y,(l.flatMap g)[j]? = some y→RVp (fun _=>True) w u y:=
      Q7c (p:=fun j u=>w.cell? (a.add j)=some u∧∀y,(l.flatMap g)[j]? = some y→RVp (fun _=>True) w u y) (n*sz) hcell
     obtain⟨us,husl,hu⟩:=hus
     have hfl:(l.flatMap g).length=n*sz:=by rw[Q0p hgl,hll]
     refine⟨l,rfl,rfl,fun j u y hu0 hy=>?_,by omega,fun b hb=>?_⟩
     · cases j with
       |zero=>
        simp only[List.getElem?_cons_zero,Option.some.injEq] at hu0 hy
        subst hu0 hy
        rw[hll]
        refine .sl false sz (some a) n c us _ hl hm (fun h=>by cases h) (fun h=>by cases h) (by rw[husl,hfl]) hfl (fun hne=>?_) fun j u x hj hx=>(hu j u hj).2 x hx
        obtain⟨u0,rest0,hu0⟩:=List.exists_cons_of_ne_nil hne
        have hc0:=(hu 0 u0 (by rw[hu0];rfl)).1
        rw[add_zero'] at hc0
        have hspot:=World.cell?_spot hc0
        obtain⟨ab,ao,asp⟩:=a
        simp only at hspot
        subst hspot
        exact⟨ab,ao,rfl,trivial,fun j u hj=>by have:=(hu j u hj).1;rwa [Q1u] at this⟩
       |succ j=>simp at hu0
     · obtain⟨i,hi'⟩:=List.mem_iff_getElem?.1 hb
       exact(hp i b hi').1⟩
theorem open_V{H:Type}{enc:TypeId×Value→H}{α : Type}{P:Program}{t:TypeId}{g:α→PV}{G:α→Prop}{w:World}{base:Nat}{spare:Nat→Bool}{held:Bool}{v:Value}{d:DataW H}{ps:List MemPlace}(h:DecV P t 1 (fun a=>[g a]) G)(hv:v.cells.toList=[v])(ht:DataW.Trod enc P w base spare held t v d ps)(ι : Nat→Nat×Nat×Nat) :
 ∃a,RV (fun _=>True) ι w v (.c (g a))∧G a:=by
 obtain⟨fuel,ht⟩:=ht
 obtain⟨a,_,_,h3,ga⟩:=h.2 H enc w base spare held fuel _ _ ht
 exact⟨a,.c _ _ (h3 0 v (g a) (by rw[hv];rfl) rfl),ga⟩
theorem X4a{P:Program}{t:TypeId}{k:IntKind}(ht:P.underlying t=some (.int k))(hc:P.cellsOf t=1):DecV P t 1 (fun n:Int=>[PV.v (.int k n)]) (fun n=>(Lit.int k n).wf=true):=
 ((dec_int ht hc).toV (fun _=>rfl) (fun a u hu=>by simp at hu;subst hu;rfl)).map fun a ga=>⟨a,rfl,ga⟩
theorem decV_u64{P:Program}{t:TypeId}(ht:P.underlying t=some (.int .u64))(hc:P.cellsOf t=1):DecV P t 1 (fun n:Int=>[PV.v (.int .u64 n)]) (fun n=>0≤n∧n≤18446744073709551615):=
 (X4a ht hc).map fun a ga=>⟨a,rfl,by have:=wf_u64 ga;omega⟩
theorem decV_w4{P:Program}{t e:TypeId}(ht:P.underlying t=some (.array 4 e))(hc:P.cellsOf t=4*1)(he:P.underlying e=some (.int .u64))(hce:P.cellsOf e=1) :
 DecV P t 4 (fun x:Int×Int×Int×Int=>[PV.v (.int .u64 x.1),.v (.int .u64 x.2.1),.v (.int .u64 x.2.2.1),.v (.int .u64 x.2.2.2)]) (fun x=>(0≤x.1∧x.1≤18446744073709551615)∧(0≤x.2.1∧x.2.1≤18446744073709551615)∧(0≤x.2.2.1∧x.2.2.1≤18446744073709551615)∧(0≤x.2.2.2∧x.2.2.2≤18446744073709551615)):=
 ((dec_map (f':=fun x:Int×Int×Int×Int=>[.int .u64 x.1,.int .u64 x.2.1,.int .u64 x.2.2.1,.int .u64 x.2.2.2]) (G':=fun x=>(0≤x.1∧x.1≤18446744073709551615)∧(0≤x.2.1∧x.2.1≤18446744073709551615)∧(0≤x.2.2.1∧x.2.2.1≤18446744073709551615)∧(0≤x.2.2.2∧x.2.2.2≤18446744073709551615)) (dec_arr (n:=4) ht hc (by omega) (dec_u64 he hce) (fun _=>rfl)) fun l ⟨hl,hg⟩=>by
   match l,hl with
   |[x,y,z,u],_=>
    have h1:=hg x (by simp)
    have h2:=hg y (by simp)
    have h3:=hg z (by simp)
    have h4:=hg u (by simp)
    exact⟨(x,y,z,u),by simp[sts],⟨by simp only;omega,by simp only;omega⟩,⟨by simp only;omega,by simp only;omega⟩,⟨by simp only;omega,by simp only;omega⟩,⟨by simp only;omega,by simp only;omega⟩⟩).toV (fun _=>rfl) (fun a u hu=>by simp at hu;rcases hu with rfl|rfl|rfl|rfl<;>rfl)).map fun a ga=>⟨a,rfl,ga⟩
open Go.RowKit Go.ChangeShapes Go.WideShapes Go.ChangeAt Go.Deep
def DecF{α : Type}(P:Program)(fs:List Field)(o sz:Nat)(g:α→List PV)(Good:α→Prop):Prop:=
 ∀(H:Type) (enc:TypeId×Value→H) (w:World) (base:Nat) (spare:Nat→Bool) (held:Bool) (fuel:Nat) (cs:List Value),o+sz≤cs.length →
  (∀f∈fs,∃x:DataW H×List MemPlace,DataW.trod enc P w base spare held fuel f.type ((cs.drop f.offset).take (P.cellsOf f.type))=some x) →
  ∃a,(g a).length=sz∧(∀(j:Nat) (u:Value) (y:PV),cs[o+j]? = some u→(g a)[j]? = some y→RVp (fun _=>True) w u y)∧Good a
theorem Q8b{α : Type}{P:Program}{f:Field}{o sz:Nat}{g:α→List PV}{G:α→Prop}(h:DecV P f.type sz g G)(ho:f.offset=o):DecF P [f] o sz g G:=by
 intro H enc w base spare held fuel cs hlen hf
 obtain⟨x,hx⟩:=hf f (by simp)
 rw[ho,h.1] at hx
 obtain⟨a,a1,a2,a3,ga⟩:=h.2 H enc w base spare held fuel _ _ hx
 refine⟨a,a2,fun j u y hu hy=>a3 j u y ?_ hy,ga⟩
 have hj:=(List.getElem?_eq_some_iff.1 hy).1
 rw[List.getElem?_take,if_pos (by omega),List.getElem?_drop]
 exact hu
theorem Q2z{α β : Type}{P:Program}{f:Field}{fs:List Field}{o s0 s1:Nat}{g:α→List PV}{g':β→List PV}{G:α→Prop}{G':β→Prop}(h:DecV P f.type s0 g G)(ho:f.offset=o)(hr:DecF P fs (o+s0) s1 g' G') :
 DecF P (f::fs) o (s0+s1) (fun x:α×β=>g x.1++g' x.2) (fun x=>G x.1∧G' x.2):=by
 intro H enc w base spare held fuel cs hlen hf
 obtain⟨a,a2,a3,ga⟩:=Q8b h ho H enc w base spare held fuel cs (by omega) (fun f' hf'=>hf f' (by simp at hf';simp[hf']))
 obtain⟨b,b2,b3,gb⟩:=hr H enc w base spare held fuel cs (by omega) (fun f' hf'=>hf f' (by simp[hf']))
 refine⟨(a,b),by simp[a2,b2],fun j u y hu hy=>?_,ga,gb⟩
 dsimp only at hy
 rw[List.getElem?_append] at hy
 split at hy
 · exact a3 j u y hu hy
 · exact b3 (j-(g a).length) u y (by rw[a2,show o+s0+(j-s0)=o+j by omega];exact hu) hy
theorem Q5r{α : Type}{P:Program}{t:TypeId}{fs:Array Field}{sz:Nat}{g:α→List PV}{G:α→Prop}(ht:P.underlying t=some (.struct fs))(hc:P.cellsOf t=sz)(h:DecF P fs.toList 0 sz g G):DecV P t sz g G:=
 ⟨hc,fun H enc w base spare held fuel cs x hx=>by
   obtain⟨xs,n,_,_,hlen,hxl,hf⟩:=DataW.trod_struct ht hx
   rw[hc] at hlen
   obtain⟨a,a2,a3,ga⟩:=h H enc w base spare held n cs (by omega) (fun f hf'=>by
    obtain⟨k,hk⟩:=List.mem_iff_getElem?.1 hf'
    have hk':fs[k]? = some f:=by rw[←Array.getElem?_toList];exact hk
    have h1:=hf k f hk'
    have hlt:=(Array.getElem?_eq_some_iff.1 hk').1
    rw[List.getElem?_eq_getElem (by omega)] at h1
    exact⟨_,h1⟩)
   exact⟨a,hlen,a2,fun j u y hu hy=>a3 j u y (by rw[Nat.zero_add];exact hu) hy,ga⟩⟩
theorem open_VA{H:Type}{enc:TypeId×Value→H}{α : Type}{P:Program}{t:TypeId}{sz:Nat}{g:α→List PV}{G:α→Prop}{w:World}{base:Nat}{spare:Nat→Bool}{held:Bool}{cs:Array Value}{d:DataW H}{ps:List MemPlace}(h:DecV P t sz g G)(ht:DataW.Trod enc P w base spare held t (.agg cs) d ps)(ι : Nat→Nat×Nat×Nat) :
 ∃a,RV (fun _=>True) ι w (.agg cs) (.agg ((g a).map .c))∧G a:=by
 obtain⟨fuel,ht⟩:=ht
 obtain⟨a,a1,a2,a3,ga⟩:=h.2 H enc w base spare held fuel _ _ ht
 have e:(Value.agg cs).cells.toList=cs.toList:=rfl
 rw[e] at a1 a3
 refine⟨a,?_,ga⟩
 have hc:cs=cs.toList.toArray:=by simp
 rw[hc]
 have key:∀(j:Nat) (u:Value) (y:PV),cs.toList[j]? = some u→(g a)[j]? = some y→RVp (fun _=>True) w u y:=a3
 refine .agg cs.toList _ (by rw[List.length_map,a1,a2]) (fun u hu=>?_) fun j u x hu hx=>?_
 · obtain⟨j,hj⟩:=List.mem_iff_getElem?.1 hu
   have hlt:=(List.getElem?_eq_some_iff.1 hj).1
   exact(key j u _ hj (List.getElem?_eq_getElem (by omega))).one
 · rw[List.getElem?_map,Option.map_eq_some_iff] at hx
   obtain⟨y,hy,rfl⟩:=hx
   exact .c _ _ (key j u y hu hy)
theorem X3f{P:Program}{w:World}{r:Reach}{base:Nat}{t:TypeId}{fs:Array Field}{v:Value}(ht:P.underlying t=some (.struct fs))(h:Value.okWide P w r base t v):∃cs,v = .agg cs:=by
 simp only[Value.okWide,ht] at h
 obtain⟨cs,h1,_⟩:=h
 exact⟨cs,h1⟩
end Go.Proofs.YtgdjkkapgghdbaaGreatDoor
namespace Go.Proofs.YtgdjkkapgghdbaaGreatDoor
open Go.RowKit
theorem word_of{a b c d:Int}(ha:0≤a∧a≤18446744073709551615)(hb:0≤b∧b≤18446744073709551615)(hc:0≤c∧c≤18446744073709551615)(hd:0≤d∧d≤18446744073709551615):∃n:Nat,n<WW∧l0 n=a∧l1 n=b∧l2 n=c∧l3 n=d:=by
 refine⟨a.toNat+18446744073709551616*(b.toNat+18446744073709551616*(c.toNat+18446744073709551616*d.toNat)),?_,?_⟩
 · show _<115792089237316195423570985008687907853269984665640564039457584007913129639936
   omega
 · obtain⟨h0,h1,h2,h3⟩:=Q4t (s0:=a.toNat) (s1:=b.toNat) (s2:=c.toNat) (s3:=d.toNat) rfl (by omega) (by omega) (by omega) (by omega)
   rw[h0,h1,h2,h3]
   exact⟨Int.toNat_of_nonneg ha.1,Int.toNat_of_nonneg hb.1,Int.toNat_of_nonneg hc.1,Int.toNat_of_nonneg hd.1⟩
def wpv(n:Nat):List PV:=[.v (.int .u64 (l0 n)),.v (.int .u64 (l1 n)),.v (.int .u64 (l2 n)),.v (.int .u64 (l3 n))]
theorem X0n:DecV Tryz.prog 35 4 wpv (fun n=>n<WW):=
 (decV_w4 Tryz.underlying35 (by kernel_rfl) Tryz.underlying22 (by kernel_rfl)).map fun x hx=>by
   obtain⟨n,hn,h0,h1,h2,h3⟩:=word_of hx.1 hx.2.1 hx.2.2.1 hx.2.2.2
   exact⟨n,by unfold wpv;rw[h0,h1,h2,h3],hn⟩
theorem Q5j:DecV Tryz.prog 23 1 apv U:=(decV_u64 Tryz.underlying23 (by kernel_rfl)).map fun a ga=>⟨a,rfl,ga⟩
theorem Z2b:DecV Tryz.prog 25 1 (fun l:List Int=>[PV.sl false 1 l.length (l.flatMap apv)]) (fun l=>l.length≤maxLen∧∀a∈l,U a):=
 Q5i Tryz.underlying25 (by kernel_rfl) Q5j (by omega) Q3v
theorem X6s:DecV Tryz.prog 5 1 bpv (fun n=>n<256):=(X4a Tryz.underlying5 (by kernel_rfl)).map fun a ga=>⟨a.toNat,by unfold bpv;rw[Int.toNat_of_nonneg (wf_u8 ga).1],by have:=wf_u8 ga;omega⟩
theorem Z2a:DecV Tryz.prog 56 1 (fun l:List Nat=>[PV.sl false 1 l.length (l.flatMap bpv)]) (fun l=>l.length≤maxLen∧∀a∈l,a<256):=
 Q5i Tryz.underlying56 (by kernel_rfl) X6s (by omega) Q3c
end Go.Proofs.YtgdjkkapgghdbaaGreatDoor
namespace Go.Proofs.YtgdjkkapgghdbaaGreatDoor
open Go.RowKit
set_option maxRecDepth 20000
theorem X6a{P:Program}{w:World}{t e:TypeId}{N fuel:Nat}{k:IntKind}{cs:List Value}{L:List Int}{p:List MemPlace}(ht:P.underlying t=some (.array N e))(he:P.underlying e=some (.int k))(hc:P.cellsOf e=1)(hN:L.length=N)
 (hd:DataW.trod (fun _=>()) P w 0 (fun _=>true) false fuel t cs=some (.agg (L.map fun n=>.lit (.int k n)),p)):∀(j:Nat) (n:Int),L[j]? = some n→cs[j]? = some (Value.int k n):=by
 obtain⟨xs,m,_,ex,_,hl,hel⟩:=DataW.trod_array ht hd
 intro j n hj
 have hjN:j<N:=by rw[←hN];exact(List.getElem?_eq_some_iff.1 hj).1
 have hE:=hel j hjN
 rw[hc,Nat.mul_one,List.getElem?_eq_getElem (by omega)] at hE
 obtain⟨z,e1,e2,_⟩:=DataW.trod_int he hE
 have e3:xs.map (·.1)=L.map fun n=>.lit (.int k n):=(DataW.agg.inj (Prod.mk.inj ex).1).symm
 have e4:(xs.map (·.1))[j]? = (L.map fun n=>(DataW.lit (.int k n):DataW Unit))[j]?:=by rw[e3]
 rw[List.getElem?_map,List.getElem?_map,List.getElem?_eq_getElem (by omega:j<xs.length),hj,e2] at e4
 have hz:z=n:=by
  simp only[Option.map_some,Option.some.injEq,DataW.lit.injEq,Lit.int.injEq,true_and] at e4
  exact e4
 have h0:((cs.drop j).take 1)[0]? = some (.int k z):=by rw[e1];rfl
 rw[←hz]
 simpa using h0
theorem globs_ok{W:World}(h:laidMetH Tryz.prog Rows.rulesStakesRow.laid W):GlobOK W (fun _=>True) (fun _=>(0,0,0)) []:=by
 rw[MakeChecks.laidMetH_plain _ _ _ (by kernel_rfl)] at h
 obtain⟨ps,⟨g,t,cs,fuel,p,q,hg,ht,hv,hd,⟨g',t',cs',fuel',p',q',hg',ht',hv',hd',_,_⟩,_⟩,_,_⟩:=h
 obtain rfl:=Option.some.inj ((show Tryz.prog.globalNamed "sheafer/sponge.turns"=some 1 by kernel_rfl).symm.trans hg)
 obtain rfl:=Option.some.inj ((show(Tryz.prog.globals[1]?).map (·.type)=some 226 by kernel_rfl).symm.trans ht)
 obtain rfl:=Option.some.inj ((show Tryz.prog.globalNamed "sheafer/sponge.numbers"=some 0 by kernel_rfl).symm.trans hg')
 obtain rfl:=Option.some.inj ((show(Tryz.prog.globals[0]?).map (·.type)=some 218 by kernel_rfl).symm.trans ht')
 have k1:=X6a (L:=X1m) Tryz.underlying226 Tryz.underlying3 (by kernel_rfl) rfl hd
 have k2:=X6a (L:=Z1s) Tryz.underlying218 Tryz.underlying22 (by kernel_rfl) rfl hd'
 intro g cs0 hgl
 unfold globV globs at hgl
 simp only[List.find?_cons,List.find?_nil] at hgl
 split at hgl
 · rename_i e
   have e:0=g:=by simpa using e
   subst e
   cases hgl
   refine⟨trivial,fun r hr=>(by cases hr),by decide,by decide,fun j u hu=>?_⟩
   rw[World.var?_cell hg' hv' j]
   rw[List.getElem?_map] at hu
   cases hj:Z1s[j]? with
   |none=>rw[hj] at hu;cases hu
   |some n=>
    rw[hj] at hu
    cases hu
    have:=k2 j n hj
    simpa using this
 · split at hgl
   · rename_i e
     have e:1=g:=by simpa using e
     subst e
     cases hgl
     refine⟨trivial,fun r hr=>(by cases hr),by decide,by decide,fun j u hu=>?_⟩
     rw[World.var?_cell hg hv j]
     rw[List.getElem?_map] at hu
     cases hj:X1m[j]? with
     |none=>rw[hj] at hu;cases hu
     |some n=>
      rw[hj] at hu
      cases hu
      have:=k1 j n hj
      simpa using this
   · cases hgl
theorem decV_bool{P:Program}{t:TypeId}(ht:P.underlying t=some .bool)(hc:P.cellsOf t=1):DecV P t 1 (fun b:Bool=>[PV.v (.bool b)]) (fun _=>True):=
 ⟨hc,fun H enc w base spare held fuel cs x hx=>by
   obtain⟨b,h,_⟩:=DataW.trod_bool ht hx
   subst h
   refine⟨b,rfl,rfl,fun j u y hu hy=>?_,trivial⟩
   cases j with
   |zero=>simp at hu hy;subst hu hy;exact .v _ rfl
   |succ j=>simp at hu⟩
theorem X4b:DecV Tryz.prog 3 1 (fun n:Int=>[PV.v (.int .i64 n)]) (fun n=>(Lit.int IntKind.i64 n).wf=true):=X4a Tryz.underlying3 (by kernel_rfl)
theorem decV_ev:DecV Tryz.prog 58 14 Ev.pv Ev.raw:=
 (Q5r (sz:=1+(1+(1+(1+(1+(4+(4+1))))))) Tryz.underlying58 (by kernel_rfl) (Q2z X4b rfl (Q2z X4b rfl (Q2z Q5j rfl (Q2z Q5j rfl (Q2z X6s rfl (Q2z X0n rfl (Q2z X0n rfl (Q8b Z2a rfl))))))))).map fun x hx=>
   ⟨⟨x.1,x.2.1,x.2.2.1,x.2.2.2.1,x.2.2.2.2.1,x.2.2.2.2.2.1,x.2.2.2.2.2.2.1,x.2.2.2.2.2.2.2⟩,rfl,⟨hx.2.2.2.2.2.1,hx.2.2.2.2.2.2.1,hx.2.2.2.2.2.2.2.1,hx.2.2.2.2.2.2.2.2,hx.2.2.1,hx.2.2.2.1⟩⟩
theorem decV_evs:DecV Tryz.prog 52 1 (fun l:List Ev=>[PV.sl false 14 l.length (l.flatMap Ev.pv)]) (fun l=>l.length≤maxLen∧∀e∈l,e.raw):=
 Q5i Tryz.underlying52 (by kernel_rfl) decV_ev (by omega) X0i
theorem decV_ph:DecV Tryz.prog 54 4 Ph.pv Ph.raw:=
 (Q5r (sz:=1+(1+(1+1))) Tryz.underlying54 (by kernel_rfl) (Q2z X4b rfl (Q2z Q5j rfl (Q2z (decV_bool Tryz.underlying4 (by kernel_rfl)) rfl (Q8b decV_evs rfl))))).map fun x hx=>
   ⟨⟨x.1,x.2.1,x.2.2.1,x.2.2.2⟩,rfl,⟨hx.2.1,hx.2.2.2.1,hx.2.2.2.2⟩⟩
theorem decV_phs:DecV Tryz.prog 24 1 (fun l:List Ph=>[PV.sl false 4 l.length (l.flatMap Ph.pv)]) (fun l=>l.length≤maxLen∧∀p∈l,p.raw):=
 Q5i Tryz.underlying24 (by kernel_rfl) decV_ph (by omega) X1w
def Cs.pv(c:Cs):List PV:=[.v (.int .u64 c.snd),.sl false 4 c.ph.length (c.ph.flatMap Ph.pv),.sl false 1 c.cd.length (c.cd.flatMap apv)]
theorem decV_case:DecV Tryz.prog 27 3 Cs.pv Cs.raw:=
 (Q5r (sz:=1+(1+1)) Tryz.underlying27 (by kernel_rfl) (Q2z Q5j rfl (Q2z decV_phs rfl (Q8b Z2b rfl)))).map fun x hx=>
   ⟨⟨x.1,x.2.1,x.2.2⟩,rfl,⟨hx.1,hx.2.1,hx.2.2.1,hx.2.2.2⟩⟩
end Go.Proofs.YtgdjkkapgghdbaaGreatDoor
namespace Go.Proofs.YtgdjkkapgghdbaaGreatDoor
open Go.RowKit
theorem cutC_all3(c:Cs):((cutC c).ph.flatMap Ph.tr).length≤240:=by
 have h4:=X4d c
 have key:∀l:List Ph,(∀p∈l,p.tr.length≤60)→(l.flatMap Ph.tr).length≤l.length*60:=by
  intro l
  induction l with
  |nil=>intro _;exact Nat.le_refl _
  |cons p l ih=>
   intro h
   have h1:=h p (by simp)
   have h2:=ih fun q hq=>h q (by simp[hq])
   simp only[List.flatMap_cons,List.length_append,List.length_cons]
   omega
 have h:=key (cutC c).ph fun p hp=>by
  obtain⟨q,_,rfl⟩:=List.mem_map.1 hp
  show((q.tr.take 60).map cutE).length≤60
  rw[List.length_map,List.length_take];omega
 omega
theorem for_eq{c:Cs}(ho:c.ok)(hc:Q4b c=true):(touR (c.ph.flatMap Ph.tr)).filter (fun s=>!Q2o c s c.snd)=Q4v c:=by
 unfold Q4v
 rw[if_pos hc]
 have ot:∀x∈c.ph.flatMap (fun p=>canS (Q4l [2,3] p.tr)),x.ok:=fun x hx=>by
  obtain⟨p,hp,h⟩:=List.mem_flatMap.1 hx
  have o:=Q5l (ho.2.1.2 p hp).2.2 [2,3]
  exact o x (((Q5k _ o).2 x).1 h)
 obtain⟨s1,s2,s3,s4⟩:=Q9q _ (Z0t ho)
 refine X0t (fun x hx=>ot x (List.mem_filter.1 hx).1) (s3.sublist List.filter_sublist) fun x=>?_
 unfold Q3r
 rw[List.mem_filter,List.mem_filter,s4]
 have e:x∈selS [2,3] (c.ph.flatMap Ph.tr)↔x∈c.ph.flatMap (fun p=>canS (Q4l [2,3] p.tr)):=by
  unfold selS
  rw[List.mem_map,List.mem_flatMap]
  constructor
  · rintro ⟨e,he,rfl⟩
    obtain⟨g1,g2⟩:=List.mem_filter.1 he
    obtain⟨p,hp,g3⟩:=List.mem_flatMap.1 g1
    refine⟨p,hp,?_⟩
    rw[(Q5k _ (Q5l (ho.2.1.2 p hp).2.2 [2,3])).2]
    unfold Q4l
    rw[if_pos (X4h hc p hp)]
    exact List.mem_map.2 ⟨e,List.mem_filter.2 ⟨g3,g2⟩,rfl⟩
  · rintro ⟨p,hp,h⟩
    rw[(Q5k _ (Q5l (ho.2.1.2 p hp).2.2 [2,3])).2] at h
    unfold Q4l at h
    rw[if_pos (X4h hc p hp)] at h
    obtain⟨e,he,rfl⟩:=List.mem_map.1 h
    obtain⟨g1,g2⟩:=List.mem_filter.1 he
    exact⟨e,List.mem_filter.2 ⟨List.mem_flatMap.2 ⟨p,hp,g1⟩,g2⟩,rfl⟩
 rw[e]
theorem rown_fn(x:Cs)(hx:x.raw)(sl:List Sp)(hsl:sl.length≤maxLen)(os:∀s∈sl,s.ok):Fn Tryz.prog 3 [csA x,spl5 false sl] [] (vb true) []:=by
 have hc:=cutC_ok hx
 have hal:=cutC_all3 x
 have h4:=X4d x
 generalize hX:cutC x=X at hc hal h4
 have fw:=few_fn x hx
 rw[hX] at fw
 obtain⟨s1,s2,s3,s4⟩:=Q9q _ (Z0t hc)
 refine own_fnE x X sl (Nat.lt_succ_of_le hsl) fw (Q4b X) ((touR (X.ph.flatMap Ph.tr)).filter fun s=>!Q2o X s X.snd) (fun s=>Q2o X s X.snd) (X7h X hc) ?_ (fun h=>?_) ?_ (fun s hs=>own_fn X hc s (os s hs)) (fun h s hs=>?_)
 · have f:=X2f X hc
   cases hr:Q4b X with
   |true=>rw[if_pos rfl,for_eq hc hr];exact f
   |false=>
    have e:Q4v X=[]:=by unfold Q4v;rw[hr];rfl
    rw[e] at f
    rw[if_neg (by simp)];exact f
 · refine X5g X (touR (X.ph.flatMap Ph.tr)) (fun s=>Q2o X s X.snd) (X.ph.flatMap Ph.tr) (by omega) (rall_fn X hc.2.1.1 (by omega)) (X7g _ (by omega) (Z0t hc)) fun s hs=>?_
   have b:=rbel_fn X hc (all_tr h (by omega)) (by omega) s (s2 s hs) X.snd hc.1
   rw[bel_eq h] at b
   exact b
 · exact X5a _ (Nat.le_trans (List.length_filter_le _ _) (by omega)) fun s hs=>s2 s (List.mem_filter.1 hs).1
 · have b:=rbel_fn X hc (all_tr h (by omega)) (by omega) s (os s hs) X.snd hc.1
   rw[bel_eq h] at b
   exact b
theorem decV_spot:DecV Tryz.prog 37 5 Sp.pv Sp.ok:=
 (Q5r (sz:=1+4) Tryz.underlying37 (by kernel_rfl) (Q2z Q5j rfl (Q8b X0n rfl))).map fun x hx=>⟨⟨x.1,x.2⟩,rfl,hx⟩
theorem Z1z:DecV Tryz.prog 28 1 (fun l:List Sp=>[PV.sl false 5 l.length (l.flatMap Sp.pv)]) (fun l=>l.length≤maxLen∧∀a∈l,a.ok):=
 Q5i Tryz.underlying28 (by kernel_rfl) decV_spot (by omega) Q4y
theorem law_own{x:Cs}{l:List Sp}{v u:Value}{W:World}(hL:laidMetH Tryz.prog Rows.rulesOwnRow.laid W)(h1:RV (fun _=>True) (fun _=>(0,0,0)) W v (.agg (x.pv.map .c)))(g1:x.raw)(h2:RV (fun _=>True) (fun _=>(0,0,0)) W u (spl5 false l))(g2:l.length≤maxLen∧∀a∈l,a.ok):Calls Tryz.prog 3 #[v,u] W (RetT W true):=by
 refine Fn.law (rown_fn x g1 l g2.1 g2.2) (vs:=[_,_]) rfl (fun j v x hj hx=>?_) (globs_ok hL)
 rcases j with _|_|j
 · cases hj;cases hx;exact h1
 · cases hj;cases hx;exact h2
 · simp at hj
end Go.Proofs.YtgdjkkapgghdbaaGreatDoor
namespace Go.Proofs.YtgdjkkapgghdbaaGreatDoor.rulesOwnDone
open Go.RowKit Go.ChangeShapes Go.WideShapes Go.ChangeAt
theorem own:ownKnob Tryz.prog.godebug=none:=by kernel_rfl
theorem laidOut:laidOutB Tryz.prog=true:=by kernel_rfl
theorem reads:∀t∈Tryz.f3.params.toList,Tryz.prog.readableRec t=true∧t<Tryz.prog.types.size:=by
 rw[Tryz.params3]
 intro t ht
 simp only[List.mem_cons,List.not_mem_nil,or_false] at ht
 rcases ht with rfl|rfl
 · exact⟨by kernel_rfl,of_decide_eq_true (by kernel_rfl)⟩
 · exact⟨by kernel_rfl,of_decide_eq_true (by kernel_rfl)⟩
set_option maxRecDepth 100000 in
theorem lifted(os:Os)(started:os.Started)(H:Type)(enc:TypeId×Value→H) :
 ReturnsInHanded {} Tryz.checked os 3 .any (fun w args=>(Rows.rulesOwnSpec.pre enc Tryz.prog Tryz.f3 Rows.rulesOwnRow.domain false w args∧laidMetH Tryz.prog Rows.rulesOwnRow.laid w)∧sizedMet enc Tryz.prog Tryz.f3 (OpenSpec.ofChange Rows.rulesOwnSpec) false w args)
  (Rows.rulesOwnSpec.post enc Tryz.prog Tryz.f3 false true false false):=by
 refine returnsInHanded_of_change_and (C:=Tryz.checked) (X:=fun w _=>laidMetH Tryz.prog Rows.rulesOwnRow.laid w) (fun _ _ _ hh h=>h.of_heap hh) own started (by kernel_rfl) Tryz.func3
  (ChangeSpec.witness_shaped (enc:=enc) (C:=Tryz.checked) (os:=os) (X:=fun w _=>laidMetH Tryz.prog Rows.rulesOwnRow.laid w) false (World.laidAll Tryz.prog os Rows.rulesOwnRow.laid) #[.agg #[.int .u64 0,.slice none 0 0,.slice none 0 0],.slice none 0 0] 8 (World.laidAll_os _ _ _)
    (World.shaped_of_ZipB (by kernel_rfl) (by kernel_rfl)) (by kernel_rfl) (by kernel_rfl) (by kernel_rfl)
    (by rw[MakeChecks.laidMetH_plain _ _ _ (by kernel_rfl)];exact laidMet_laidAll _ (by kernel_rfl) (by kernel_rfl))) ?_
 intro W base args ds gs before hval0 hW hc _ hL _
 have hval:∀(j:Nat) t v,Tryz.f3.params[j]? = some t→args[j]? = some v→Value.okWide Tryz.prog W .any base t v:=hval0
 refine law_post (P:=Tryz.prog) laidOut rfl Tryz.underlying4 rfl reads (fun ds hds=>by
  match ds,hds with
  |[d1,d2],_=>rfl) hW ?_
 obtain⟨p,q,hA0,hV,rfl,hfz,hnd⟩:=hW
 have hA:DataW.TrodAll enc Tryz.prog W 0 (fun _=>true) true Tryz.f3.params.toList args.toList ds p:=hA0
 rw[Tryz.params3] at hA hval
 obtain⟨v0,vs0,d0,ds0,p0,q0,hargs,rfl,rfl,h0,r0⟩:=trodAll_cons hA
 obtain⟨v1,vs1,d1,ds1,p1,q1,rfl,rfl,rfl,h1,r1⟩:=trodAll_cons r0
 obtain⟨rfl,rfl,rfl⟩:=trodAll_nil r1
 obtain rfl:args = #[v0,v1]:=by cases args;simp_all
 obtain⟨cs0,rfl⟩:=X3f Tryz.underlying27 (hval 0 27 v0 rfl rfl)
 obtain⟨l0,hr0,hg0⟩:=open_VA decV_case h0 (fun _=>(0,0,0))
 obtain⟨a1,n1,c1,rfl⟩:=okWide_slice Tryz.underlying28 (hval 1 28 v1 rfl rfl)
 obtain⟨l1,hr1,hg1⟩:=open_V Z1z rfl h1 (fun _=>(0,0,0))
 exact law_own hL hr0 hg0 hr1 hg1
theorem over:Rows.rulesOwnRow.holds Tryz.pinned (OpenSpec.ofChange Rows.rulesOwnSpec):=
 OpenClaim.holds_of_wide 3 Tryz.f3 rfl rfl rfl rfl rfl rfl rfl ⟨rfl,rfl,rfl,rfl,rfl⟩ rfl rfl rfl rfl rfl (by kernel_rfl) Tryz.func3 (by kernel_rfl)
  (of_decide_eq_true (by kernel_rfl)) (by unfold Func.isWrapper;first|(rw[if_neg (by decide +kernel)];exact⟨rfl,rfl⟩))
  (fun os started H enc _=>lifted os started H enc)
theorem proved:Rows.RulesOwnCardSaid:=
 Claim7.holds_tied_plain_at .later [] [.data,.data] true (true,"a150a5b31adb93ccbb9ef4361850544d6216e7c5fd079ae8296263779298e5e9") false over (fun _ h=>by cases h) (by kernel_rfl) (fun _ h=>by cases h) rulesOwn_row_tie rfl ⟨rfl,rfl⟩ (by kernel_rfl) rfl
  (fun f fn hf hfn=>by
    obtain rfl:f=3:=Option.some.inj ((show Tryz.prog.funcNamed "sheafer/sheaferlaw22.RulesOwn"=some 3 by kernel_rfl).symm.trans hf) |>.symm
    obtain rfl:fn=Tryz.f3:=(Option.some.inj (Tryz.func3.symm.trans hfn)).symm
    exact⟨by kernel_rfl,fun j t ht=>by
     rw[Tryz.params3] at ht
     have hm:t∈[27,28]:=by simpa using Array.mem_of_getElem? ht
     have hall:([27,28].all fun u=>!Tryz.prog.wantsStandIn u)=true:=by kernel_rfl
     exact(show Tryz.prog.wantsStandIn t=false by simpa using List.all_eq_true.1 hall t hm)⟩)
  (by kernel_rfl)
end Go.Proofs.YtgdjkkapgghdbaaGreatDoor.rulesOwnDone
