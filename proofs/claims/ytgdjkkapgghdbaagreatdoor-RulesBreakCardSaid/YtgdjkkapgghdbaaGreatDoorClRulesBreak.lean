/-
  Proved: the tied card of the law RulesBreak: it answers true for every case, and row of places, and its arguments read behind the call as before. Conditions: the package variables that the row lists hold what the program lays into them (tied to its text).
-/
import Derived.Test.YtgdjkkapgghdbaaGreatDoorRmh
import Derived.Test.YtgdjkkapgghdbaaGreatDoorDi
import Derived.Test.YtgdjkkapgghdbaaGreatDoorRows
import Derived.Test.YtgdjkkapgghdbaaGreatDoorAvF
import Derived.ProofKit
import Derived.OpenShut
import Derived.ChangeOld
import Derived.Deep.Slices
import Derived.Test.YtgdjkkapgghdbaaGreatDoorAvO
import Derived.Test.YtgdjkkapgghdbaaGreatDoorYe
import Derived.Test.YtgdjkkapgghdbaaGreatDoorRll
import Derived.Test.YtgdjkkapgghdbaaGreatDoorTrh
import Derived.MakeChecks
import Derived.Test.YtgdjkkapgghdbaaGreatDoorTie
import Derived.Test.YtgdjkkapgghdbaaGreatDoorCards
import Derived.LaidMore
import Derived.Lay
import Derived.SevenTiedAt
import Derived.Stop.Joined
set_option linter.unusedSimpArgs false
set_option linter.unusedVariables false
namespace Go.Proofs.YtgdjkkapgghdbaaGreatDoor
open Go.RowKit
open Nat (reduceBEq)
attribute [-go_sem] IntKind.bits
set_option maxRecDepth 20000
set_option maxHeartbeats 4000000
def X9f(t1 o1 o5 d0 n0 q k:Bool):Int:=if (t1&&(!o1||d0))=true then 3 else if (o5 && !q)=true then 4 else if ((o1 && !t1) && !n0)=true then 5 else if ((!o5 && !t1) && !k)=true then 6 else 0
theorem Z0e(c:Cs)(p:Ph)(hpl:p.tr.length≤1000)(at_:Nat)(e:Ev)(he:e.ok)(hy:p.tr[at_]? = some e)(q k:Bool)(cr:Fn Tryz.prog 96 [csA c,phA p,vi .i64 at_] [] (vb q) [])(cd:Fn Tryz.prog 98 [csA c,vi .u64 e.to] [] (vb k) []) :
 Fn Tryz.prog 66 [csA c,phA p,vi .i64 at_] [] (vi .i64 (X9f (e.to==1) ((e.op:Int)==241) ((e.op:Int)==245) (decide ((e.data.length:Int)>0)) (decide (e.val=0)) q k)) []:=by
 have hlt:at_<p.tr.length:=(List.getElem?_eq_some_iff.1 hy).1
 have k2:=Q8k hy
 have rn:=rnone_fn e.val he.2.1
 obtain⟨t1,h1⟩:∃b,(e.to==1)=b:=⟨_,rfl⟩
 obtain⟨o1,h2⟩:∃b,((e.op:Int)==241)=b:=⟨_,rfl⟩
 obtain⟨o5,h3⟩:∃b,((e.op:Int)==245)=b:=⟨_,rfl⟩
 obtain⟨d0,h4⟩:∃b,decide ((e.data.length:Int)>0)=b:=⟨_,rfl⟩
 have g1:(e.to != 1) = !t1:=by rw[←h1];rfl
 have g2:((e.op:Int) != 241) = !o1:=by rw[←h2];rfl
 have g3:((e.op:Int) != 245) = !o5:=by rw[←h3];rfl
 rw[h1,h2,h3,h4]
 generalize decide (e.val=0)=n0 at rn ⊢
 obtain⟨pr,pw,ps,tr⟩:=p
 obtain⟨s,ph,cdd⟩:=c
 dsimp only at hpl hlt k2 cr
 change Fn _ _ [.agg [vi .u64 s,phs false ph,asl false cdd],_] _ _ _ at cd
 change Fn _ _ [.agg [vi .u64 s,phs false ph,asl false cdd],_,_] _ _ _ at cr
 clear hy he
 unfold X9f
 cases t1 with
 |true=>
  cases o1 with
  |true=>
   have g2:((e.op:Int) != 241)=false:=g2
   have g1:(e.to != 1)=false:=g1
   (refine Q0t Tryz.func66 rfl (by rfl) ?_;simp only[Tryz.ntmps66,List.length_cons,List.length_nil,Nat.reduceAdd,Nat.reduceSub,List.replicate,List.cons_append,List.nil_append])
   (have W:=ndI k2 (ndI h1 (ndI h2 (ndI h3 (ndI h4 (ndI g1 (ndI g2 g3))))));(repeat(any_goals(first|((with_reducible refine Q0b ?_ ?_);rfl;intro K hK;simp(disch:=omega) only[go_sem,W];((repeat(refine ndI (by first|assumption|omega|rfl) ?_));refine hK _ ?_;clear hK K))|(with_reducible first|(refine Q0c ?_;refine hR _ ?_;clear hR R)|((first|refine Q0e ?_|refine Q0f ?_);intro J hJ hJ')|(refine Q0a ?_;intro R hR)|(refine hJ _ ?_;clear hJ hJ' J)|refine Q0h ?_|refine Q0j ?_)|((with_reducible refine hJ' _ _ ?_ ?_);(focus(simp;done));clear hJ hJ' J)|((with_reducible apply Q0p);rfl;rfl;rfl;all_goals(intro hb;first|(cases hb;done)|((try simp only[Bool.not_true,Bool.not_false] at hb);(first|((with_reducible intro K hK);(first|((first|(apply Q0i (cr);rfl;rfl;rfl;rfl;exact Tryz.func96));kernel_rfl;rfl;(focus((simp(disch:=omega) only[go_sem,W]);(try rfl);done));(first|rfl))|skip);simp(disch:=omega) only[go_sem,W];((repeat(refine ndI (by first|assumption|rfl) ?_));refine hK _ ?_;clear hK K))|((fail_if_success (with_reducible intro _));simp(disch:=omega) only[go_sem,W])))))|((with_reducible apply Q0d);rfl;rfl;all_goals(intro hc;first|(cases hc;done)|(try simp only at hc)))))))
   all_goals(refine⟨by simp,⟨_,?_,AV.le_refl _⟩,Q0g (by simp[leH,hget])⟩;simp only[Tryz.results66,resL,ldA,Q0m,go_sem])
   all_goals clear cr cd rn h1 h2 h3 h4 g1 g2 g3 k2
   all_goals simp_all
  |false=>
   have g2:((e.op:Int) != 241)=true:=g2
   (refine Q0t Tryz.func66 rfl (by rfl) ?_;simp only[Tryz.ntmps66,List.length_cons,List.length_nil,Nat.reduceAdd,Nat.reduceSub,List.replicate,List.cons_append,List.nil_append])
   (have W:=ndI k2 (ndI h1 (ndI h2 g2));(repeat(any_goals(first|((with_reducible refine Q0b ?_ ?_);rfl;intro K hK;simp(disch:=omega) only[go_sem,W];((repeat(refine ndI (by first|assumption|omega|rfl) ?_));refine hK _ ?_;clear hK K))|(with_reducible first|(refine Q0c ?_;refine hR _ ?_;clear hR R)|((first|refine Q0e ?_|refine Q0f ?_);intro J hJ hJ')|(refine Q0a ?_;intro R hR)|(refine hJ _ ?_;clear hJ hJ' J)|refine Q0j ?_)|((with_reducible refine hJ' _ _ ?_ ?_);(focus(simp;done));clear hJ hJ' J)|((with_reducible apply Q0p);rfl;rfl;rfl;all_goals(intro hb;first|(cases hb;done)|((try simp only[Bool.not_true,Bool.not_false] at hb);(first|((with_reducible intro K hK);(first|skip);simp(disch:=omega) only[go_sem,W];((repeat(refine ndI (by first|assumption|rfl) ?_));refine hK _ ?_;clear hK K))|((fail_if_success (with_reducible intro _));simp(disch:=omega) only[go_sem,W])))))|((with_reducible apply Q0d);rfl;rfl;all_goals(intro hc;first|(cases hc;done)|(try simp only at hc)))))))
   all_goals(refine⟨by simp,⟨_,?_,AV.le_refl _⟩,Q0g (by simp[leH,hget])⟩;simp only[Tryz.results66,resL,ldA,Q0m,go_sem])
 |false=>
  have g1:(e.to != 1)=true:=g1
  cases o1 with
  |true=>
   (refine Q0t Tryz.func66 rfl (by rfl) ?_;simp only[Tryz.ntmps66,List.length_cons,List.length_nil,Nat.reduceAdd,Nat.reduceSub,List.replicate,List.cons_append,List.nil_append])
   (have W:=ndI k2 (ndI h1 (ndI h2 (ndI h3 (ndI h4 (ndI g1 g3)))));(repeat(any_goals(first|((with_reducible refine Q0b ?_ ?_);rfl;intro K hK;simp(disch:=omega) only[go_sem,W];((repeat(refine ndI (by first|assumption|omega|rfl) ?_));refine hK _ ?_;clear hK K))|(with_reducible first|(refine Q0c ?_;refine hR _ ?_;clear hR R)|((first|refine Q0e ?_|refine Q0f ?_);intro J hJ hJ')|(refine Q0a ?_;intro R hR)|(refine hJ _ ?_;clear hJ hJ' J)|refine Q0h ?_|refine Q0j ?_)|((with_reducible refine hJ' _ _ ?_ ?_);(focus(simp;done));clear hJ hJ' J)|((with_reducible apply Q3h);rfl;rfl;rfl;(try simp(disch:=omega) only[go_sem,W]))|((with_reducible apply Q0p);rfl;rfl;rfl;all_goals(intro hb;first|(cases hb;done)|((try simp only[Bool.not_true,Bool.not_false] at hb);(first|((with_reducible intro K hK);(first|((first|(apply Q0i (cr);rfl;rfl;rfl;rfl;exact Tryz.func96)|(apply Q0i (cd);rfl;rfl;rfl;rfl;exact Tryz.func98)|(apply Q0i (rn);rfl;rfl;rfl;rfl;exact Tryz.func97));kernel_rfl;rfl;(focus((simp(disch:=omega) only[go_sem,W]);(try rfl);done));(first|rfl))|skip);simp(disch:=omega) only[go_sem,W];((repeat(refine ndI (by first|assumption|rfl) ?_));refine hK _ ?_;clear hK K))|((fail_if_success (with_reducible intro _));simp(disch:=omega) only[go_sem,W])))))|((with_reducible apply Q0d);rfl;rfl;all_goals(intro hc;first|(cases hc;done)|(try simp only at hc)))))))
   all_goals(refine⟨by simp,⟨_,?_,AV.le_refl _⟩,Q0g (by simp[leH,hget])⟩;simp only[Tryz.results66,resL,ldA,Q0m,go_sem])
   all_goals clear cr cd rn h1 h2 h3 h4 g1 g2 g3 k2
   all_goals simp_all
  |false=>
   (refine Q0t Tryz.func66 rfl (by rfl) ?_;simp only[Tryz.ntmps66,List.length_cons,List.length_nil,Nat.reduceAdd,Nat.reduceSub,List.replicate,List.cons_append,List.nil_append])
   (have W:=ndI k2 (ndI h1 (ndI h2 (ndI h3 (ndI h4 (ndI g1 g3)))));(repeat(any_goals(first|((with_reducible refine Q0b ?_ ?_);rfl;intro K hK;simp(disch:=omega) only[go_sem,W];((repeat(refine ndI (by first|assumption|omega|rfl) ?_));refine hK _ ?_;clear hK K))|(with_reducible first|(refine Q0c ?_;refine hR _ ?_;clear hR R)|((first|refine Q0e ?_|refine Q0f ?_);intro J hJ hJ')|(refine Q0a ?_;intro R hR)|(refine hJ _ ?_;clear hJ hJ' J)|refine Q0h ?_|refine Q0j ?_)|((with_reducible refine hJ' _ _ ?_ ?_);(focus(simp;done));clear hJ hJ' J)|((with_reducible apply Q3h);rfl;rfl;rfl;(try simp(disch:=omega) only[go_sem,W]))|((with_reducible apply Q0p);rfl;rfl;rfl;all_goals(intro hb;first|(cases hb;done)|((try simp only[Bool.not_true,Bool.not_false] at hb);(first|((with_reducible intro K hK);(first|((first|(apply Q0i (cr);rfl;rfl;rfl;rfl;exact Tryz.func96)|(apply Q0i (cd);rfl;rfl;rfl;rfl;exact Tryz.func98));kernel_rfl;rfl;(focus((simp(disch:=omega) only[go_sem,W]);(try rfl);done));(first|rfl))|skip);simp(disch:=omega) only[go_sem,W];((repeat(refine ndI (by first|assumption|rfl) ?_));refine hK _ ?_;clear hK K))|((fail_if_success (with_reducible intro _));simp(disch:=omega) only[go_sem,W])))))|((with_reducible apply Q0d);rfl;rfl;all_goals(intro hc;first|(cases hc;done)|(try simp only at hc)))))))
   all_goals(refine⟨by simp,⟨_,?_,AV.le_refl _⟩,Q0g (by simp[leH,hget])⟩;simp only[Tryz.results66,resL,ldA,Q0m,go_sem])
   all_goals clear cr cd rn h1 h2 h3 h4 g1 g2 g3 k2
   all_goals simp_all
def ruleR(e:Ev)(stk:Bool)(v:Int)(t:Bool):Int:=
 if (e.kind==5)=true then(if (!stk||(((e.op:Int) != 49)&&((e.op:Int) != 71)))=true then 1 else 0)
 else if (e.kind==6)=true then(if ((((e.op:Int) != 241)&&((e.op:Int) != 244))&&((e.op:Int) != 250))=true then 2 else 0)
 else if (e.kind==4)=true then v
 else if (e.kind==2)=true then(if t=true then 0 else 7)
 else if (e.kind==3)=true then(if t=true then 0 else 7) else 0
theorem rrule_in(c:Cs)(hpl:c.ph.length≤1000)(i j:Nat)(p:Ph)(hp:c.ph[i]? = some p)(hjl:p.tr.length≤1000)(e:Ev)(hy:p.tr[j]? = some e)(v:Int)(t:Bool)(ca:(e.kind==4)=true→Fn Tryz.prog 66 [csA c,phA p,vi .i64 j] [] (vi .i64 v) [])(to:Fn Tryz.prog 67 [csA c,phA p,evA e] [] (vb t) []) :
 Fn Tryz.prog 32 [csA c,vi .i64 i,vi .i64 j] [] (vi .i64 (ruleR e p.stk v t)) []:=by
 have hil:i<c.ph.length:=(List.getElem?_eq_some_iff.1 hp).1
 have hjl':j<p.tr.length:=(List.getElem?_eq_some_iff.1 hy).1
 have k2:=Q4x hp
 have k3:=Q8k hy
 have m1:decide ((i:Int)<0)=false:=decide_eq_false (by omega)
 have m2:decide ((i:Int)≥(c.ph.length:Int))=false:=decide_eq_false (by omega)
 have m3:decide ((j:Int)<0)=false:=decide_eq_false (by omega)
 have m4:decide ((j:Int)≥(p.tr.length:Int))=false:=decide_eq_false (by omega)
 obtain⟨pr,pw,ps,tr⟩:=p
 obtain⟨s,ph,cdd⟩:=c
 dsimp only at *
 change Fn _ _ [.agg [vi .u64 s,phs false ph,asl false cdd],_,_] _ _ _ at to
 clear hp hy
 unfold ruleR
 obtain⟨a1,h1⟩:∃b,(e.kind==5)=b:=⟨_,rfl⟩
 obtain⟨a2,h2⟩:∃b,(e.kind==6)=b:=⟨_,rfl⟩
 obtain⟨a3,h3⟩:∃b,(e.kind==4)=b:=⟨_,rfl⟩
 obtain⟨a4,h4⟩:∃b,(e.kind==2)=b:=⟨_,rfl⟩
 obtain⟨a5,h5⟩:∃b,(e.kind==3)=b:=⟨_,rfl⟩
 obtain⟨o1,g1⟩:∃b,((e.op:Int) != 49)=b:=⟨_,rfl⟩
 obtain⟨o2,g2⟩:∃b,((e.op:Int) != 71)=b:=⟨_,rfl⟩
 obtain⟨o3,g3⟩:∃b,((e.op:Int) != 241)=b:=⟨_,rfl⟩
 obtain⟨o4,g4⟩:∃b,((e.op:Int) != 244)=b:=⟨_,rfl⟩
 obtain⟨o5,g5⟩:∃b,((e.op:Int) != 250)=b:=⟨_,rfl⟩
 rw[h3] at ca
 rw[h1,h2,h3,h4,h5,g1,g2,g3,g4,g5]
 cases a1 with
 |true=>
  (refine Q0t Tryz.func32 rfl (by rfl) ?_;simp only[Tryz.ntmps32,List.length_cons,List.length_nil,Nat.reduceAdd,Nat.reduceSub,List.replicate,List.cons_append,List.nil_append])
  (have W:=ndI k2 (ndI k3 (ndI m1 (ndI m2 (ndI m3 (ndI m4 (ndI h1 (ndI g1 g2)))))));(repeat(any_goals(first|((with_reducible refine Q0b ?_ ?_);rfl;intro K hK;simp(disch:=omega) only[go_sem,W];((repeat(refine ndI (by first|assumption|omega|rfl) ?_));refine hK _ ?_;clear hK K))|(with_reducible first|(refine Q0c ?_;refine hR _ ?_;clear hR R)|((first|refine Q0e ?_|refine Q0f ?_);intro J hJ hJ')|(refine Q0a ?_;intro R hR)|(refine hJ _ ?_;clear hJ hJ' J)|refine Q0h ?_|refine Q0j ?_)|((with_reducible refine hJ' _ _ ?_ ?_);(focus(simp;done));clear hJ hJ' J)|((with_reducible apply Q3h);rfl;rfl;rfl;(try simp(disch:=omega) only[go_sem,W]))|((with_reducible apply Q0p);rfl;rfl;rfl;all_goals(intro hb;first|(cases hb;done)|((try simp only[Bool.not_true,Bool.not_false] at hb);(first|((with_reducible intro K hK);simp(disch:=omega) only[go_sem,W];((repeat(refine ndI (by first|assumption|omega|rfl) ?_));refine hK _ ?_;clear hK K))|((fail_if_success (with_reducible intro _));simp(disch:=omega) only[go_sem,W])))))|((with_reducible apply Q0d);rfl;rfl;all_goals(intro hc;first|(cases hc;done)|(try simp only at hc)))))))
  all_goals(refine⟨by simp,⟨_,?_,AV.le_refl _⟩,Q0g (by simp[leH,hget])⟩;simp only[Tryz.results32,resL,ldA,Q0m,go_sem])
  all_goals clear ca to h1 h2 h3 h4 h5 g1 g2 g3 g4 g5 k2 k3
  all_goals simp_all
 |false=>
 cases a2 with
 |true=>
  (refine Q0t Tryz.func32 rfl (by rfl) ?_;simp only[Tryz.ntmps32,List.length_cons,List.length_nil,Nat.reduceAdd,Nat.reduceSub,List.replicate,List.cons_append,List.nil_append])
  (have W:=ndI k2 (ndI k3 (ndI m1 (ndI m2 (ndI m3 (ndI m4 (ndI h1 (ndI h2 (ndI g3 (ndI g4 g5)))))))));(repeat(any_goals(first|((with_reducible refine Q0b ?_ ?_);rfl;intro K hK;simp(disch:=omega) only[go_sem,W];((repeat(refine ndI (by first|assumption|omega|rfl) ?_));refine hK _ ?_;clear hK K))|(with_reducible first|(refine Q0c ?_;refine hR _ ?_;clear hR R)|((first|refine Q0e ?_|refine Q0f ?_);intro J hJ hJ')|(refine Q0a ?_;intro R hR)|(refine hJ _ ?_;clear hJ hJ' J)|refine Q0h ?_|refine Q0j ?_)|((with_reducible refine hJ' _ _ ?_ ?_);(focus(simp;done));clear hJ hJ' J)|((with_reducible apply Q0p);rfl;rfl;rfl;all_goals(intro hb;first|(cases hb;done)|((try simp only[Bool.not_true,Bool.not_false] at hb);(first|((with_reducible intro K hK);simp(disch:=omega) only[go_sem,W];((repeat(refine ndI (by first|assumption|omega|rfl) ?_));refine hK _ ?_;clear hK K))|((fail_if_success (with_reducible intro _));simp(disch:=omega) only[go_sem,W])))))|((with_reducible apply Q0d);rfl;rfl;all_goals(intro hc;first|(cases hc;done)|(try simp only at hc)))))))
  all_goals(refine⟨by simp,⟨_,?_,AV.le_refl _⟩,Q0g (by simp[leH,hget])⟩;simp only[Tryz.results32,resL,ldA,Q0m,go_sem])
  all_goals clear ca to h1 h2 h3 h4 h5 g1 g2 g3 g4 g5 k2 k3
  all_goals simp_all
 |false=>
 cases a3 with
 |true=>
  have ca:=ca rfl
  change Fn _ _ [.agg [vi .u64 s,phs false ph,asl false cdd],_,_] _ _ _ at ca
  (refine Q0t Tryz.func32 rfl (by rfl) ?_;simp only[Tryz.ntmps32,List.length_cons,List.length_nil,Nat.reduceAdd,Nat.reduceSub,List.replicate,List.cons_append,List.nil_append])
  (have W:=ndI k2 (ndI k3 (ndI m1 (ndI m2 (ndI m3 (ndI m4 (ndI h1 (ndI h2 h3)))))));(repeat(any_goals(first|((with_reducible refine Q0l ?_ ?_ ?_);rfl;rfl;intro K hK;((apply Q0i (ca);rfl;rfl;rfl;rfl;exact Tryz.func66);kernel_rfl;rfl;(focus((simp(disch:=omega) only[go_sem,W]);(try rfl);done));(first|rfl));(simp(disch:=omega) only[go_sem,W];refine hK _ ?_;clear hK K))|((with_reducible refine Q0b ?_ ?_);rfl;intro K hK;simp(disch:=omega) only[go_sem,W];((repeat(refine ndI (by first|assumption|omega|rfl) ?_));refine hK _ ?_;clear hK K))|(with_reducible first|(refine Q0c ?_;refine hR _ ?_;clear hR R)|((first|refine Q0e ?_|refine Q0f ?_);intro J hJ hJ')|(refine Q0a ?_;intro R hR)|(refine hJ _ ?_;clear hJ hJ' J)|refine Q0h ?_|refine Q0j ?_)|((with_reducible refine hJ' _ _ ?_ ?_);(focus(simp;done));clear hJ hJ' J)|((with_reducible apply Q0p);rfl;rfl;rfl;all_goals(intro hb;first|(cases hb;done)|((try simp only[Bool.not_true,Bool.not_false] at hb);(first|((with_reducible intro K hK);simp(disch:=omega) only[go_sem,W];((repeat(refine ndI (by first|assumption|omega|rfl) ?_));refine hK _ ?_;clear hK K))))))|((with_reducible apply Q0d);rfl;rfl;all_goals(intro hc;first|(cases hc;done)|(try simp only at hc)))))))
  all_goals(refine⟨by simp,⟨_,?_,AV.le_refl _⟩,Q0g (by simp[leH,hget])⟩;simp only[Tryz.results32,resL,ldA,Q0m,go_sem])
 |false=>
 clear ca
 cases a4 with
 |true=>
  cases t with
  |true=>
   (refine Q0t Tryz.func32 rfl (by rfl) ?_;simp only[Tryz.ntmps32,List.length_cons,List.length_nil,Nat.reduceAdd,Nat.reduceSub,List.replicate,List.cons_append,List.nil_append])
   (have W:=ndI k2 (ndI k3 (ndI m1 (ndI m2 (ndI m3 (ndI m4 (ndI h1 (ndI h2 (ndI h3 h4))))))));(repeat(any_goals(first|((with_reducible refine Q0l ?_ ?_ ?_);rfl;rfl;intro K hK;((apply Q0i (to);rfl;rfl;rfl;rfl;exact Tryz.func67);kernel_rfl;rfl;(focus((simp(disch:=omega) only[go_sem,W]);(try rfl);done));(first|rfl));(simp(disch:=omega) only[go_sem,W];refine hK _ ?_;clear hK K))|((with_reducible refine Q0b ?_ ?_);rfl;intro K hK;simp(disch:=omega) only[go_sem,W];((repeat(refine ndI (by first|assumption|omega|rfl) ?_));refine hK _ ?_;clear hK K))|(with_reducible first|(refine Q0c ?_;refine hR _ ?_;clear hR R)|((first|refine Q0e ?_|refine Q0f ?_);intro J hJ hJ')|(refine Q0a ?_;intro R hR)|(refine hJ _ ?_;clear hJ hJ' J)|refine Q0h ?_|refine Q0j ?_)|((with_reducible refine hJ' _ _ ?_ ?_);(focus(simp;done));clear hJ hJ' J)|((with_reducible apply Q0p);rfl;rfl;rfl;all_goals(intro hb;first|(cases hb;done)|((try simp only[Bool.not_true,Bool.not_false] at hb);(first|((with_reducible intro K hK);simp(disch:=omega) only[go_sem,W];((repeat(refine ndI (by first|assumption|omega|rfl) ?_));refine hK _ ?_;clear hK K))))))|((with_reducible apply Q0d);rfl;rfl;all_goals(intro hc;first|(cases hc;done)|(try simp only at hc)))))))
   all_goals(refine⟨by simp,⟨_,?_,AV.le_refl _⟩,Q0g (by simp[leH,hget])⟩;simp only[Tryz.results32,resL,ldA,Q0m,go_sem])
  |false=>
   (refine Q0t Tryz.func32 rfl (by rfl) ?_;simp only[Tryz.ntmps32,List.length_cons,List.length_nil,Nat.reduceAdd,Nat.reduceSub,List.replicate,List.cons_append,List.nil_append])
   (have W:=ndI k2 (ndI k3 (ndI m1 (ndI m2 (ndI m3 (ndI m4 (ndI h1 (ndI h2 (ndI h3 h4))))))));(repeat(any_goals(first|((with_reducible refine Q0l ?_ ?_ ?_);rfl;rfl;intro K hK;((apply Q0i (to);rfl;rfl;rfl;rfl;exact Tryz.func67);kernel_rfl;rfl;(focus((simp(disch:=omega) only[go_sem,W]);(try rfl);done));(first|rfl));(simp(disch:=omega) only[go_sem,W];refine hK _ ?_;clear hK K))|((with_reducible refine Q0b ?_ ?_);rfl;intro K hK;simp(disch:=omega) only[go_sem,W];((repeat(refine ndI (by first|assumption|omega|rfl) ?_));refine hK _ ?_;clear hK K))|(with_reducible first|(refine Q0c ?_;refine hR _ ?_;clear hR R)|((first|refine Q0e ?_|refine Q0f ?_);intro J hJ hJ')|(refine Q0a ?_;intro R hR)|(refine hJ _ ?_;clear hJ hJ' J)|refine Q0h ?_|refine Q0j ?_)|((with_reducible refine hJ' _ _ ?_ ?_);(focus(simp;done));clear hJ hJ' J)|((with_reducible apply Q0p);rfl;rfl;rfl;all_goals(intro hb;first|(cases hb;done)|((try simp only[Bool.not_true,Bool.not_false] at hb);(first|((with_reducible intro K hK);simp(disch:=omega) only[go_sem,W];((repeat(refine ndI (by first|assumption|omega|rfl) ?_));refine hK _ ?_;clear hK K))))))|((with_reducible apply Q0d);rfl;rfl;all_goals(intro hc;first|(cases hc;done)|(try simp only at hc)))))))
   all_goals(refine⟨by simp,⟨_,?_,AV.le_refl _⟩,Q0g (by simp[leH,hget])⟩;simp only[Tryz.results32,resL,ldA,Q0m,go_sem])
 |false=>
 cases a5 with
 |true=>
  cases t with
  |true=>
   (refine Q0t Tryz.func32 rfl (by rfl) ?_;simp only[Tryz.ntmps32,List.length_cons,List.length_nil,Nat.reduceAdd,Nat.reduceSub,List.replicate,List.cons_append,List.nil_append])
   (have W:=ndI k2 (ndI k3 (ndI m1 (ndI m2 (ndI m3 (ndI m4 (ndI h1 (ndI h2 (ndI h3 (ndI h4 h5)))))))));(repeat(any_goals(first|((with_reducible refine Q0l ?_ ?_ ?_);rfl;rfl;intro K hK;((apply Q0i (to);rfl;rfl;rfl;rfl;exact Tryz.func67);kernel_rfl;rfl;(focus((simp(disch:=omega) only[go_sem,W]);(try rfl);done));(first|rfl));(simp(disch:=omega) only[go_sem,W];refine hK _ ?_;clear hK K))|((with_reducible refine Q0b ?_ ?_);rfl;intro K hK;simp(disch:=omega) only[go_sem,W];((repeat(refine ndI (by first|assumption|omega|rfl) ?_));refine hK _ ?_;clear hK K))|(with_reducible first|(refine Q0c ?_;refine hR _ ?_;clear hR R)|((first|refine Q0e ?_|refine Q0f ?_);intro J hJ hJ')|(refine Q0a ?_;intro R hR)|(refine hJ _ ?_;clear hJ hJ' J)|refine Q0h ?_|refine Q0j ?_)|((with_reducible refine hJ' _ _ ?_ ?_);(focus(simp;done));clear hJ hJ' J)|((with_reducible apply Q0p);rfl;rfl;rfl;all_goals(intro hb;first|(cases hb;done)|((try simp only[Bool.not_true,Bool.not_false] at hb);(first|((with_reducible intro K hK);simp(disch:=omega) only[go_sem,W];((repeat(refine ndI (by first|assumption|omega|rfl) ?_));refine hK _ ?_;clear hK K))))))|((with_reducible apply Q0d);rfl;rfl;all_goals(intro hc;first|(cases hc;done)|(try simp only at hc)))))))
   all_goals(refine⟨by simp,⟨_,?_,AV.le_refl _⟩,Q0g (by simp[leH,hget])⟩;simp only[Tryz.results32,resL,ldA,Q0m,go_sem])
  |false=>
   (refine Q0t Tryz.func32 rfl (by rfl) ?_;simp only[Tryz.ntmps32,List.length_cons,List.length_nil,Nat.reduceAdd,Nat.reduceSub,List.replicate,List.cons_append,List.nil_append])
   (have W:=ndI k2 (ndI k3 (ndI m1 (ndI m2 (ndI m3 (ndI m4 (ndI h1 (ndI h2 (ndI h3 (ndI h4 h5)))))))));(repeat(any_goals(first|((with_reducible refine Q0l ?_ ?_ ?_);rfl;rfl;intro K hK;((apply Q0i (to);rfl;rfl;rfl;rfl;exact Tryz.func67);kernel_rfl;rfl;(focus((simp(disch:=omega) only[go_sem,W]);(try rfl);done));(first|rfl));(simp(disch:=omega) only[go_sem,W];refine hK _ ?_;clear hK K))|((with_reducible refine Q0b ?_ ?_);rfl;intro K hK;simp(disch:=omega) only[go_sem,W];((repeat(refine ndI (by first|assumption|omega|rfl) ?_));refine hK _ ?_;clear hK K))|(with_reducible first|(refine Q0c ?_;refine hR _ ?_;clear hR R)|((first|refine Q0e ?_|refine Q0f ?_);intro J hJ hJ')|(refine Q0a ?_;intro R hR)|(refine hJ _ ?_;clear hJ hJ' J)|refine Q0h ?_|refine Q0j ?_)|((with_reducible refine hJ' _ _ ?_ ?_);(focus(simp;done));clear hJ hJ' J)|((with_reducible apply Q0p);rfl;rfl;rfl;all_goals(intro hb;first|(cases hb;done)|((try simp only[Bool.not_true,Bool.not_false] at hb);(first|((with_reducible intro K hK);simp(disch:=omega) only[go_sem,W];((repeat(refine ndI (by first|assumption|omega|rfl) ?_));refine hK _ ?_;clear hK K))))))|((with_reducible apply Q0d);rfl;rfl;all_goals(intro hc;first|(cases hc;done)|(try simp only at hc)))))))
   all_goals(refine⟨by simp,⟨_,?_,AV.le_refl _⟩,Q0g (by simp[leH,hget])⟩;simp only[Tryz.results32,resL,ldA,Q0m,go_sem])
 |false=>
  (refine Q0t Tryz.func32 rfl (by rfl) ?_;simp only[Tryz.ntmps32,List.length_cons,List.length_nil,Nat.reduceAdd,Nat.reduceSub,List.replicate,List.cons_append,List.nil_append])
  (have W:=ndI k2 (ndI k3 (ndI m1 (ndI m2 (ndI m3 (ndI m4 (ndI h1 (ndI h2 (ndI h3 (ndI h4 h5)))))))));(repeat(any_goals(first|((with_reducible refine Q0b ?_ ?_);rfl;intro K hK;simp(disch:=omega) only[go_sem,W];((repeat(refine ndI (by first|assumption|omega|rfl) ?_));refine hK _ ?_;clear hK K))|(with_reducible first|(refine Q0c ?_;refine hR _ ?_;clear hR R)|((first|refine Q0e ?_|refine Q0f ?_);intro J hJ hJ')|(refine Q0a ?_;intro R hR)|(refine hJ _ ?_;clear hJ hJ' J)|refine Q0h ?_|refine Q0j ?_)|((with_reducible refine hJ' _ _ ?_ ?_);(focus(simp;done));clear hJ hJ' J)|((with_reducible apply Q0p);rfl;rfl;rfl;all_goals(intro hb;first|(cases hb;done)|((try simp only[Bool.not_true,Bool.not_false] at hb);(first|((with_reducible intro K hK);simp(disch:=omega) only[go_sem,W];((repeat(refine ndI (by first|assumption|omega|rfl) ?_));refine hK _ ?_;clear hK K))))))|((with_reducible apply Q0d);rfl;rfl;all_goals(intro hc;first|(cases hc;done)|(try simp only at hc)))))))
  all_goals(refine⟨by simp,⟨_,?_,AV.le_refl _⟩,Q0g (by simp[leH,hget])⟩;simp only[Tryz.results32,resL,ldA,Q0m,go_sem])
theorem rrule_out(c:Cs)(hpl:c.ph.length≤1000)(i j:Int)(h:i<0∨i≥c.ph.length∨j<0):Fn Tryz.prog 32 [csA c,vi .i64 i,vi .i64 j] [] (vi .i64 0) []:=by
 obtain⟨a1,h1⟩:∃b,decide (i<0)=b:=⟨_,rfl⟩
 obtain⟨a2,h2⟩:∃b,decide (i≥(c.ph.length:Int))=b:=⟨_,rfl⟩
 obtain⟨a3,h3⟩:∃b,decide (j<0)=b:=⟨_,rfl⟩
 have hx:(a1||(a2||a3))=true:=by
  rw[←h1,←h2,←h3]
  rcases h with h|h|h
  · rw[decide_eq_true h];rfl
  · rw[decide_eq_true h];simp
  · rw[decide_eq_true h];simp
 cases a1 with
 |true=>
  (refine Q0t Tryz.func32 rfl (by rfl) ?_;simp only[Tryz.ntmps32,List.length_cons,List.length_nil,Nat.reduceAdd,Nat.reduceSub,List.replicate,List.cons_append,List.nil_append])
  (repeat(any_goals(first|((with_reducible refine Q0b ?_ ?_);rfl;intro K hK;simp(disch:=omega) only[go_sem,h1];((repeat(refine ndI (by first|assumption) ?_));refine hK _ ?_;clear hK K))|(with_reducible first|(refine Q0c ?_;refine hR _ ?_;clear hR R)|((first|refine Q0e ?_);intro J hJ hJ')|(refine Q0a ?_;intro R hR)|(refine hJ _ ?_;clear hJ hJ' J)|refine Q0j ?_)|((with_reducible refine hJ' _ _ ?_ ?_);(focus(simp;done));clear hJ hJ' J)|((with_reducible apply Q0p);rfl;rfl;rfl;all_goals(intro hb;first|(cases hb;done)|((try simp only[Bool.not_true,Bool.not_false] at hb);(first|((fail_if_success (with_reducible intro _));simp(disch:=omega) only[go_sem,h1])))))|((with_reducible apply Q0d);rfl;rfl;all_goals(intro hc;first|(cases hc;done)|(try simp only at hc))))))
  all_goals(refine⟨by simp,⟨_,?_,AV.le_refl _⟩,Q0g (by simp[leH,hget])⟩;simp only[Tryz.results32,resL,ldA,Q0m,go_sem])
 |false=>
 cases a2 with
 |true=>
  (refine Q0t Tryz.func32 rfl (by rfl) ?_;simp only[Tryz.ntmps32,List.length_cons,List.length_nil,Nat.reduceAdd,Nat.reduceSub,List.replicate,List.cons_append,List.nil_append])
  (repeat(any_goals(first|((with_reducible refine Q0b ?_ ?_);rfl;intro K hK;simp(disch:=omega) only[go_sem,h1,h2];((repeat(refine ndI (by first|assumption) ?_));refine hK _ ?_;clear hK K))|(with_reducible first|(refine Q0c ?_;refine hR _ ?_;clear hR R)|((first|refine Q0e ?_);intro J hJ hJ')|(refine Q0a ?_;intro R hR)|(refine hJ _ ?_;clear hJ hJ' J)|refine Q0j ?_)|((with_reducible refine hJ' _ _ ?_ ?_);(focus(simp;done));clear hJ hJ' J)|((with_reducible apply Q0p);rfl;rfl;rfl;all_goals(intro hb;first|(cases hb;done)|((try simp only[Bool.not_true,Bool.not_false] at hb);(first|((with_reducible intro K hK);simp(disch:=omega) only[go_sem,h1,h2];((repeat(refine ndI (by first|assumption) ?_));refine hK _ ?_;clear hK K))|((fail_if_success (with_reducible intro _));simp(disch:=omega) only[go_sem,h1,h2])))))|((with_reducible apply Q0d);rfl;rfl;all_goals(intro hc;first|(cases hc;done)|(try simp only at hc))))))
  all_goals(refine⟨by simp,⟨_,?_,AV.le_refl _⟩,Q0g (by simp[leH,hget])⟩;simp only[Tryz.results32,resL,ldA,Q0m,go_sem])
 |false=>
 cases a3 with
 |true=>
  (refine Q0t Tryz.func32 rfl (by rfl) ?_;simp only[Tryz.ntmps32,List.length_cons,List.length_nil,Nat.reduceAdd,Nat.reduceSub,List.replicate,List.cons_append,List.nil_append])
  (have W:=ndI h1 (ndI h2 h3);(repeat(any_goals(first|((with_reducible refine Q0b ?_ ?_);rfl;intro K hK;simp(disch:=omega) only[go_sem,W];((repeat(refine ndI (by first|assumption) ?_));refine hK _ ?_;clear hK K))|(with_reducible first|(refine Q0c ?_;refine hR _ ?_;clear hR R)|((first|refine Q0e ?_);intro J hJ hJ')|(refine Q0a ?_;intro R hR)|(refine hJ _ ?_;clear hJ hJ' J)|refine Q0j ?_)|((with_reducible refine hJ' _ _ ?_ ?_);(focus(simp;done));clear hJ hJ' J)|((with_reducible apply Q0p);rfl;rfl;rfl;all_goals(intro hb;first|(cases hb;done)|((try simp only[Bool.not_true,Bool.not_false] at hb);(first|((with_reducible intro K hK);simp(disch:=omega) only[go_sem,W];((repeat(refine ndI (by first|assumption) ?_));refine hK _ ?_;clear hK K))|((fail_if_success (with_reducible intro _));simp(disch:=omega) only[go_sem,W])))))|((with_reducible apply Q0d);rfl;rfl;all_goals(intro hc;first|(cases hc;done)|(try simp only at hc)))))))
  all_goals(refine⟨by simp,⟨_,?_,AV.le_refl _⟩,Q0g (by simp[leH,hget])⟩;simp only[Tryz.results32,resL,ldA,Q0m,go_sem])
 |false=>cases hx
theorem rrule_far(c:Cs)(hpl:c.ph.length≤1000)(i:Nat)(p:Ph)(hp:c.ph[i]? = some p)(j:Int)(h0:0≤j)(h:j≥p.tr.length):Fn Tryz.prog 32 [csA c,vi .i64 i,vi .i64 j] [] (vi .i64 0) []:=by
 have hil:i<c.ph.length:=(List.getElem?_eq_some_iff.1 hp).1
 have k2:=Q4x hp
 have m1:decide ((i:Int)<0)=false:=decide_eq_false (by omega)
 have m2:decide ((i:Int)≥(c.ph.length:Int))=false:=decide_eq_false (by omega)
 have m3:decide (j<0)=false:=decide_eq_false (by omega)
 have m4:decide (j≥(p.tr.length:Int))=true:=decide_eq_true h
 clear hp h
 (refine Q0t Tryz.func32 rfl (by rfl) ?_;simp only[Tryz.ntmps32,List.length_cons,List.length_nil,Nat.reduceAdd,Nat.reduceSub,List.replicate,List.cons_append,List.nil_append])
 (have W:=ndI k2 (ndI m1 (ndI m2 (ndI m3 m4)));(repeat(any_goals(first|((with_reducible refine Q0b ?_ ?_);rfl;intro K hK;simp(disch:=omega) only[go_sem,W];((repeat(refine ndI (by first|assumption|rfl) ?_));refine hK _ ?_;clear hK K))|(with_reducible first|(refine Q0c ?_;refine hR _ ?_;clear hR R)|((first|refine Q0e ?_);intro J hJ hJ')|(refine Q0a ?_;intro R hR)|(refine hJ _ ?_;clear hJ hJ' J)|refine Q0j ?_)|((with_reducible refine hJ' _ _ ?_ ?_);(focus(simp;done));clear hJ hJ' J)|((with_reducible apply Q0p);rfl;rfl;rfl;all_goals(intro hb;first|(cases hb;done)|((try simp only[Bool.not_true,Bool.not_false] at hb);(first|((with_reducible intro K hK);simp(disch:=omega) only[go_sem,W];((repeat(refine ndI (by first|assumption|omega|rfl) ?_));refine hK _ ?_;clear hK K))))))|((with_reducible apply Q0d);rfl;rfl;all_goals(intro hc;first|(cases hc;done)|(try simp only at hc)))))))
 all_goals(refine⟨by simp,⟨_,?_,AV.le_refl _⟩,Q0g (by simp[leH,hget])⟩;simp only[Tryz.results32,resL,ldA,Q0m,go_sem])
end Go.Proofs.YtgdjkkapgghdbaaGreatDoor
namespace Go.Proofs.YtgdjkkapgghdbaaGreatDoor
open Go.RowKit
theorem bases_app(W:List Nat)(a b:List Ev):Q2g W (a++b)=Q2g W a++Q2g W b:=by
 unfold Q2g selG
 rw[List.filter_append,List.filterMap_append]
theorem X5r(a:Int)(s:Sp):∀l:List Ph,(∀p∈l,trB p.tr=true)→l≠[]→l.any (assP a s)=(eqwB a s.k||(Q2g (ownL a) (l.flatMap Ph.tr)).any (Q4z s.k))
 |[],_,h=>absurd rfl h
 |[p],hp,_=>by
  have h1:=hp p (by simp)
  unfold assP X5s
  simp[h1]
 |p::q::l,hp,_=>by
  have h1:=hp p (by simp)
  have ih:=X5r a s (q::l) (fun x hx=>hp x (List.mem_cons_of_mem _ hx)) (by simp)
  have e:Q2g (ownL a) ((p::q::l).flatMap Ph.tr)=Q2g (ownL a) p.tr++Q2g (ownL a) ((q::l).flatMap Ph.tr):=by rw[List.flatMap_cons,bases_app]
  rw[e,List.any_append,List.any_cons,ih]
  show(X5s a s.k p.tr||_)=_
  unfold X5s
  rw[h1,Bool.true_and]
  generalize (Q2g (ownL a) ((q::l).flatMap Ph.tr)).any (Q4z s.k)=x
  generalize (Q2g (ownL a) p.tr).any (Q4z s.k)=y
  generalize eqwB a s.k=z
  cases x<;>cases y<;>cases z<;>rfl
theorem case_ne{c:Cs}(hc:Q2z c=true):c.ph≠[]:=fun e=>by
 unfold Q2z at hc
 rw[e] at hc
 simp at hc
theorem bel_eq{c:Cs}(hc:Q2z c=true)(s:Sp)(a:Int):belB c s a=Q3w c s a:=by
 unfold belB Q3w
 rw[X5r a s c.ph (case_tr hc) (case_ne hc)]
theorem X8l(s:Int):∀(l:List Ph) (last:Int) (st:Bool×Bool),phsB s l last=true→1≤last→ofS l st=st
 |[],_,_,_,_=>rfl
 |p::l,last,st,h,h1=>by
  unfold phsB phB at h
  have hr:¬p.role≤last:=fun g=>by rw[decide_eq_true g] at h;simp at h
  have e:(p.role==1)=false:=by rw[beq_eq_false_iff_ne];omega
  unfold ofS
  rw[e,if_neg (by simp)]
  exact X8l s l p.role st (Bool.and_eq_true_iff.1 h).2 (by omega)
theorem of_first{c:Cs}(hc:Q2z c=true){p:Ph}(hp:c.ph[0]? = some p):ofM c=(p.role==1)∧ofF c=(!(p.role==1)||(mkP p).stk):=by
 have h:=(Bool.and_eq_true_iff.1 hc).1
 unfold ofM ofF
 obtain⟨s,ph,cd⟩:=c
 dsimp only at h hp ⊢
 cases ph with
 |nil=>cases hp
 |cons q l=>
  obtain rfl:q=p:=by simpa using hp
  unfold phsB at h
  have h2:=(Bool.and_eq_true_iff.1 h).2
  have hr:¬q.role≤0:=fun g=>by
   have h1:=(Bool.and_eq_true_iff.1 h).1
   unfold phB at h1
   rw[decide_eq_true g] at h1
   simp at h1
  unfold ofS
  rw[X8l s l q.role _ h2 (by omega)]
  unfold mkP
  cases hq:(q.role==1)<;>simp
theorem touch_eq{c:Cs}(hc:Q2z c=true)(f:Bool)(p:Ph)(x:Ev):X7n c f p x=Q6s c f p x:=by
 unfold X7n Q6s
 rw[bel_eq hc,bel_eq hc]
 congr 2
 exact Bool.and_comm _ _
theorem mem1(n a:Nat):decide (n∈[a])=((n:Int)==(a:Int)):=by
 rw[Bool.eq_iff_iff];simp;omega
theorem mem2(n a b:Nat):decide (n∈[a,b])=(((n:Int)==(a:Int))||((n:Int)==(b:Int))):=by
 rw[Bool.eq_iff_iff];simp;omega
theorem mem3(n a b d:Nat):decide (n∈[a,b,d])=(((n:Int)==(a:Int))||(((n:Int)==(b:Int))||((n:Int)==(d:Int)))):=by
 rw[Bool.eq_iff_iff];simp;omega
theorem rule_eq(c:Cs)(p:Ph)(j:Nat)(e:Ev):ruleR e p.stk (X9f (e.to==1) ((e.op:Int)==241) ((e.op:Int)==245) (decide ((e.data.length:Int)>0)) (decide (e.val=0)) (Q7e c p j e) (Q6c c (ofM c) e.to)) (Q6s c (ofF c) p e)=Q5l c p j e:=by
 unfold Q5l
 rw[mem2 e.op 49 71,mem3 e.op 241 244 250,mem1 e.op 241,mem1 e.op 245]
 have n:∀a:Int,((e.op:Int) != a) = !((e.op:Int)==a):=fun _=>rfl
 have m:(e.to != 1) = !(e.to==1):=rfl
 unfold ruleR X9f ruleN
 rw[n 49,n 71,n 241,n 244,n 250,m]
 generalize Q7e c p j e=q
 generalize Q6c c (ofM c) e.to=k
 generalize Q6s c (ofF c) p e=t
 generalize decide (e.val=0)=v
 generalize decide ((e.data.length:Int)>0)=d
 generalize (e.to==1)=t1
 generalize p.stk=sk
 show(if _ then _ else _)=_
 by_cases k5:e.kind=5
 · simp[k5]
 by_cases k6:e.kind=6
 · simp[k6,and_assoc]
 by_cases k4:e.kind=4
 · simp[k4]
 by_cases k2:e.kind=2
 · simp[k2]
   cases t<;>simp
 by_cases k3:e.kind=3
 · simp[k3]
   cases t<;>simp
 simp[k5,k6,k4,k2,k3]
theorem X8c(c:Cs)(hc:c.ok)(hr:Q2z c=true)(hal:(c.ph.flatMap Ph.tr).length≤1000)(i j:Int):Fn Tryz.prog 32 [csA c,vi .i64 i,vi .i64 j] [] (vi .i64 (Q6v c i j)) []:=by
 by_cases ho:i<0∨i≥c.ph.length∨j<0
 · have h:=rrule_out c hc.2.1.1 i j ho
   have e:Q6v c i j=0:=by
    unfold Q6v
    split
    · rename_i g
      rw[List.getElem?_eq_none (by omega)]
    · rfl
   rw[e]
   exact h
 · have hi:0≤i:=by omega
   have hj:0≤j:=by omega
   have hil:i.toNat<c.ph.length:=by omega
   obtain⟨i',rfl⟩:∃n:Nat,i=n:=⟨i.toNat,by omega⟩
   obtain⟨j',rfl⟩:∃n:Nat,j=n:=⟨j.toNat,by omega⟩
   rw[Int.toNat_natCast] at hil
   obtain⟨p,hp⟩:∃p,c.ph[i']? = some p:=⟨_,List.getElem?_eq_getElem hil⟩
   have op:=hc.2.1.2 p (List.mem_of_getElem? hp)
   rcases Nat.lt_or_ge j' p.tr.length with hl|hl
   · obtain⟨e,he⟩:∃e,p.tr[j']? = some e:=⟨_,List.getElem?_eq_getElem hl⟩
     have oe:=op.2.2 e (List.mem_of_getElem? he)
     obtain⟨p0,h0⟩:∃p,c.ph[0]? = some p:=⟨_,List.getElem?_eq_getElem (by omega)⟩
     obtain⟨f1,f2⟩:=of_first hr h0
     have hat:=all_tr hr (by omega)
     have mk:=X4a c p0 h0
     rw[←f1] at mk
     have cd:=Z0c c hc.2.2.1 e.to _ _ mk
     have cr:=X6h c p op.2.1 j' e he
     have ca:=Z0e c p op.2.1 j' e oe he _ _ cr cd
     have tc:=rtouch_fn c hc hat hal p0 h0 p op.1 e oe
     rw[←f2,touch_eq hr] at tc
     have h:=rrule_in c hc.2.1.1 i' j' p hp op.2.1 e he _ _ (fun _=>ca) tc
     rw[rule_eq] at h
     have er:Q6v c i' j'=Q5l c p j' e:=by
      unfold Q6v
      rw[if_pos ⟨hr,hi,hj⟩]
      simp only[Int.toNat_natCast,hp,he]
     rw[er]
     exact h
   · have er:Q6v c i' j'=0:=by
      unfold Q6v
      rw[if_pos ⟨hr,hi,hj⟩]
      simp only[Int.toNat_natCast,hp,List.getElem?_eq_none hl]
     rw[er]
     exact rrule_far c hc.2.1.1 i' p hp j' (by omega) (by omega)
end Go.Proofs.YtgdjkkapgghdbaaGreatDoor
namespace Go.Proofs.YtgdjkkapgghdbaaGreatDoor
open Go.RowKit
open Nat (reduceBEq)
attribute [-go_sem] IntKind.bits
set_option maxRecDepth 20000
set_option maxHeartbeats 4000000
abbrev kO(s:Int)(ph:List Ph)(cd:List Int)(r:Nat)(out:List Bk)(i:Nat):St:=⟨[.any,.ptr 1 0,.c (.v (.slice none 0 0)),.row r bkT 3 out.length,.any,.any,.any,.any,.any,phs false ph,vi .i64 ph.length,vi .i64 i,.any,.any,.any,.any,.any,.any,.any,.any,.any,.any,.any,.any,.any,.any,.any,.any,.any,.any,.any,.any,.any,.any,.any,.any,.any,.any],[(1,[vi .u64 s,phs false ph,asl false cd]),(r,raG Bk.pv out)]⟩
abbrev kI(s:Int)(ph:List Ph)(cd:List Int)(p:Ph)(r:Nat)(out:List Bk)(i j:Nat):St:=⟨[.any,.ptr 1 0,.c (.v (.slice none 0 0)),.row r bkT 3 out.length,vi .i64 i,.ptr 5 0,.any,.any,.any,phs false ph,vi .i64 ph.length,vi .i64 i,.any,.any,.any,.any,.any,.any,vi .i64 p.tr.length,vi .i64 j,.any,.any,.any,.any,.any,.any,.any,.any,.any,.any,.any,.any,.any,.any,.any,.any,.any,.any],[(1,[vi .u64 s,phs false ph,asl false cd]),(5,[vi .i64 p.role,vi .u64 p.who,vb p.stk,evs false p.tr]),(r,raG Bk.pv out)]⟩
theorem kI_rn(s:Int)(ph:List Ph)(cd:List Int)(p:Ph)(out:List Bk)(i j:Nat):(kI s ph cd p 34 out i j).to (kI s ph cd p 500 out i j):=by
 have h:=St.to.rn (σ:=kI s ph cd p 34 out i j) (fun r=>if r=34 then 500 else r) (fun r=>if r=500 then 34 else r) [34,1,5] (by simp[AV.inNL,AV.inN]) (by simp) (by simp[inH,AV.inNL,AV.inN,Q0v]) (by simp) (by simp)
 simpa [AV.renL,AV.ren,renH] using h
theorem X6i(s:Int)(ph:List Ph)(cd:List Int)(R:Ph→Nat→Ev→Int)(hl:ph.length≤100)(hp:∀p∈ph,p.tr.length≤1000)
 (ru:∀(i j:Nat) (p:Ph) (e:Ev),ph[i]? = some p→p.tr[j]? = some e→Fn Tryz.prog 32 [.agg [vi .u64 s,phs false ph,asl false cd],vi .i64 i,vi .i64 j] [] (vi .i64 (R p j e)) []) :
 Fn Tryz.prog 30 [.agg [vi .u64 s,phs false ph,asl false cd]] [] (.row 500 bkT 3 (brkG R ph 0).length) [(500,raG Bk.pv (brkG R ph 0))]:=by
 (refine Q0t Tryz.func30 rfl (by rfl) ?_;simp only[Tryz.ntmps30,List.length_cons,List.length_nil,Nat.reduceAdd,Nat.reduceSub,List.replicate,List.cons_append,List.nil_append])
 (repeat(any_goals(first|((with_reducible refine Q0b ?_ ?_);rfl;intro K hK;simp only[go_sem];((repeat(refine ndI (by first|assumption) ?_));refine hK _ ?_;clear hK K))|(with_reducible first|(refine Q0c ?_;refine hR _ ?_;clear hR R)|((first|refine Q0e ?_|refine Q0f ?_);intro J hJ hJ')|(refine Q0a ?_;intro R hR)|(refine hJ _ ?_;clear hJ hJ' J)))))
 refine Q3r ph.length (fun i=>kO s ph cd 500 (brkG R (ph.take i) 0) i) ?_ ?_
 · refine St.to.trans (St.to.of_le (τ:=⟨[.any,.ptr 1 0,.c (.v (.slice none 0 0)),.c (.v (.slice none 0 0)),.any,.any,.any,.any,.any,phs false ph,vi .i64 ph.length,vi .i64 0,.any,.any,.any,.any,.any,.any,.any,.any,.any,.any,.any,.any,.any,.any,.any,.any,.any,.any,.any,.any,.any,.any,.any,.any,.any,.any],[(1,[vi .u64 s,phs false ph,asl false cd])]⟩) (St.le_of (by simp[leT]) (by simp[leH,hget]))) ?_
   refine St.to.trans (St.to.nilrow 3 500 bkT 3 rfl (by simp) (by simp[St.free,Q1z,AV.refsL,AV.refs]) (by decide)) (St.to.of_le (St.le_of (by simp[leT,brkG]) (by simp[leH,hget,hput,brkG])))
 intro i hi J hJ hJ'
 (try dsimp only at hJ ⊢)
 rcases Nat.lt_or_ge i ph.length with hlt|hge
 · obtain⟨p,hp1⟩:∃y,ph[i]? = some y:=⟨_,List.getElem?_eq_getElem hlt⟩
   have k1:(decide ((i:Int)<(ph.length:Int)))=true:=by simpa using hlt
   have k2:=Q4x hp1
   have k7:(i:Int)+1=((i+1:Nat):Int):=by omega
   have opl:=hp p (List.mem_of_getElem? hp1)
   have hbl:(brkG R (ph.take i) 0).length≤100000:=by
    have h1:=Q9a R (ph.take i) 0 fun q hq=>hp q (List.mem_of_mem_take hq)
    have:(ph.take i).length≤100:=by rw[List.length_take];omega
    omega
   have fin:=fun τ=>hJ τ hlt
   rw[X5o R hp1] at fin
   have ru:=fun j e h=>ru i j p e hp1 h
   clear hJ
   generalize brkG R (ph.take i) 0=out0 at fin hbl ⊢
   dsimp only[kO] at fin ⊢
   have k4:(raG Bk.pv out0).length=out0.length*3:=by rw[List.length_map,Q0s X1m]
   have k9:∀r,AV.refsL r (raG Bk.pv out0)=false:=fun r=>Q0o r _
   (have W:=ndI k1 (ndI k2 @wrI);(repeat(any_goals(first|((with_reducible refine Q0b ?_ ?_);rfl;intro K hK;simp(disch:=omega) only[go_sem,W];((repeat(refine ndI (by first|assumption|omega|rfl) ?_));refine hK _ ?_;clear hK K))|(with_reducible first|(refine Q0c ?_;refine hR _ ?_;clear hR R)|((first|refine Q0e ?_|refine Q0f ?_);intro J hJ hJ')|(refine Q0a ?_;intro R hR)|(refine hJ _ ?_;clear hJ hJ' J)|refine Q0h ?_)|((with_reducible apply Q0d);rfl;rfl;all_goals(intro hc;first|(cases hc;done)|(try simp only at hc)))))))
   refine Q3r p.tr.length (fun j=>kI s ph cd p 500 (out0++brkP (R p) i (p.tr.take j) 0) i j) (St.to.of_le (St.le_of (by simp[leT,brkP]) (by simp[leH,hget,brkP]))) ?_
   clear k4 k9
   intro j hj J hJ hJ'
   (try dsimp only at hJ ⊢)
   rcases Nat.lt_or_ge j p.tr.length with hjl|hjg
   · obtain⟨e,he⟩:∃y,p.tr[j]? = some y:=⟨_,List.getElem?_eq_getElem hjl⟩
     have n1:(decide ((j:Int)<(p.tr.length:Int)))=true:=by simpa using hjl
     have n7:(j:Int)+1=((j+1:Nat):Int):=by omega
     have rl:=ru j e he
     have hb2:(out0++brkP (R p) i (p.tr.take j) 0).length≤101000:=by
      have:=Q8y (R p) i (p.tr.take j) 0
      rw[List.length_take] at this
      rw[List.length_append];omega
     have hJ1:=fun τ=>hJ τ hjl
     rw[X5n (R p) i he] at hJ1
     clear hJ ru fin
     generalize R p j e=v at rl hJ1
     by_cases hv:v>0
     · have n2:decide (v>0)=true:=decide_eq_true hv
       rw[if_pos hv,←List.append_assoc] at hJ1
       generalize out0++brkP (R p) i (p.tr.take j) 0=out at hb2 hJ1 ⊢
       have k4:(raG Bk.pv out).length=out.length*3:=by rw[List.length_map,Q0s X1m]
       have k9:∀r,AV.refsL r (raG Bk.pv out)=false:=fun r=>Q0o r _
       dsimp only[kI]
       (have W:=ndI n1 (ndI n2 (ndI n7 (ndI k4 (ndI k9 (ndI @wrI @Q0o)))));(repeat(any_goals(first|((with_reducible refine Q0l ?_ ?_ ?_);rfl;rfl;intro K hK;((apply Q0i (rl);rfl;rfl;rfl;rfl;exact Tryz.func32);kernel_rfl;rfl;(focus((simp(disch:=omega) only[go_sem,W,Q2m,AV.refsL,AV.refs,List.length_append,List.length_cons,List.length_nil,Bool.or_false]);(try rfl);done));(first|rfl));(simp(disch:=omega) only[go_sem,W,Q2m,AV.refsL,AV.refs,List.length_append,List.length_cons,List.length_nil,Bool.or_false];refine hK _ ?_;clear hK K))|((with_reducible refine Q0b ?_ ?_);rfl;intro K hK;simp(disch:=omega) only[go_sem,W,Q2m,AV.refsL,AV.refs,List.length_append,List.length_cons,List.length_nil,Bool.or_false];((repeat(refine ndI (by first|assumption|omega|rfl) ?_));refine hK _ ?_;clear hK K))|(with_reducible first|(refine Q0c ?_;refine hR _ ?_;clear hR R)|((first|refine Q0e ?_|refine Q0f ?_);intro J hJ hJ')|(refine Q0a ?_;intro R hR)|(refine hJ _ ?_;clear hJ hJ' J)|refine Q0h ?_)|((with_reducible refine hJ' _ _ ?_ ?_);(focus(simp;done));clear hJ hJ' J)|((with_reducible apply Q0d);rfl;rfl;all_goals(intro hc;first|(cases hc;done)|(try simp only at hc)))))))
       all_goals exact hJ1 _ (St.to.trans (St.to.of_le (τ:=kI s ph cd p 34 (out++[⟨i,j,v⟩]) i (j+1)) (St.le_of (by simp[leT]) (by simp[leH,hget,raG,Bk.pv]))) (kI_rn s ph cd p _ _ _))
     · have n2:decide (v>0)=false:=decide_eq_false hv
       rw[if_neg hv] at hJ1
       generalize out0++brkP (R p) i (p.tr.take j) 0=out at hb2 hJ1 ⊢
       dsimp only[kI]
       (have W:=ndI n1 (ndI n2 (ndI n7 @wrI));(repeat(any_goals(first|((with_reducible refine Q0l ?_ ?_ ?_);rfl;rfl;intro K hK;((apply Q0i (rl);rfl;rfl;rfl;rfl;exact Tryz.func32);kernel_rfl;rfl;(focus((simp(disch:=omega) only[go_sem,W]);(try rfl);done));(first|rfl));(simp(disch:=omega) only[go_sem,W];refine hK _ ?_;clear hK K))|((with_reducible refine Q0b ?_ ?_);rfl;intro K hK;simp(disch:=omega) only[go_sem,W];((repeat(refine ndI (by first|assumption|rfl) ?_));refine hK _ ?_;clear hK K))|(with_reducible first|(refine Q0c ?_;refine hR _ ?_;clear hR R)|((first|refine Q0e ?_|refine Q0f ?_);intro J hJ hJ')|(refine Q0a ?_;intro R hR)|(refine hJ _ ?_;clear hJ hJ' J)|refine Q0h ?_)|((with_reducible refine hJ' _ _ ?_ ?_);(focus(simp;done));clear hJ hJ' J)|((with_reducible apply Q0d);rfl;rfl;all_goals(intro hc;first|(cases hc;done)|(try simp only at hc)))))))
       all_goals exact hJ1 _ (St.to.of_le (St.le_of (by simp[leT]) (by simp[leH,hget])))
   · have n1:(decide ((j:Int)<(p.tr.length:Int)))=false:=by simpa using hjg
     rw[List.take_of_length_le hjg]
     clear ru
     generalize out0++brkP (R p) i p.tr 0=out at fin ⊢
     dsimp only[kI]
     (have W:=ndI n1 (ndI k7 @wrI);(repeat(any_goals(first|((with_reducible refine Q0b ?_ ?_);rfl;intro K hK;simp(disch:=omega) only[go_sem,W];((repeat(refine ndI (by first|assumption|rfl) ?_));refine hK _ ?_;clear hK K))|(with_reducible first|(refine Q0c ?_;refine hR _ ?_;clear hR R)|((first|refine Q0e ?_);intro J hJ hJ')|(refine Q0a ?_;intro R hR)|(refine hJ _ ?_;clear hJ hJ' J)|refine Q0q ?_)|((with_reducible refine hJ' _ _ ?_ ?_);(focus(simp;done));clear hJ hJ' J)|((with_reducible apply Q0d);rfl;rfl;all_goals(intro hc;first|(cases hc;done)|(try simp only at hc)))))))
     all_goals exact fin _ (St.to.of_le (St.le_of (by simp[leT]) (by simp[leH,hget])))
 · have k1:(decide ((i:Int)<(ph.length:Int)))=false:=by simpa using hge
   rw[List.take_of_length_le hge]
   clear ru
   dsimp only[kO]
   (repeat(any_goals(first|((with_reducible refine Q0b ?_ ?_);rfl;intro K hK;simp only[go_sem,k1];((repeat(refine ndI (by first|assumption) ?_));refine hK _ ?_;clear hK K))|(with_reducible first|(refine Q0c ?_;refine hR _ ?_;clear hR R)|((first|refine Q0e ?_);intro J hJ hJ')|(refine Q0a ?_;intro R hR)|(refine hJ _ ?_;clear hJ hJ' J)|refine Q0j ?_|refine Q0q ?_)|((with_reducible refine hJ' _ _ ?_ ?_);(focus(simp;done));clear hJ hJ' J)|((with_reducible apply Q0d);rfl;rfl;all_goals(intro hc;first|(cases hc;done)|(try simp only at hc))))))
   all_goals exact⟨by simp,⟨_,rfl,AV.le_refl _⟩,Q0g (by simp[leH,hget])⟩
theorem Z0f(c:Cs)(hc:c.ok)(hr:Q2z c=true)(hl:c.ph.length≤100)(hal:(c.ph.flatMap Ph.tr).length≤1000):Fn Tryz.prog 30 [csA c] [] (bks false (brkC c)) []:=by
 have h:=(X6i c.snd c.ph c.cd (Q5l c) hl (fun p hp=>(hc.2.1.2 p hp).2.1) fun i j p e hp he=>by
  have h:=X8c c hc hr hal i j
  have er:Q6v c i j=Q5l c p j e:=by
   unfold Q6v
   rw[if_pos ⟨hr,by omega,by omega⟩]
   simp only[Int.toNat_natCast,hp,he]
  rw[er] at h
  exact h).frzG
 unfold brkC
 generalize brkG (Q5l c) c.ph 0=l at h ⊢
 simpa [AV.frz,AV.frzL,Q0s X1m] using h
end Go.Proofs.YtgdjkkapgghdbaaGreatDoor
namespace Go.Proofs.YtgdjkkapgghdbaaGreatDoor
open Go.RowKit
open Nat (reduceBEq)
attribute [-go_sem] IntKind.bits
set_option maxRecDepth 20000
set_option maxHeartbeats 4000000
theorem bk_ne(x y:Bk):(!((x.i==y.i)&&((x.j==y.j)&&(x.r==y.r)))) = !decide (x=y):=by
 obtain⟨a,b,c⟩:=x
 obtain⟨d,e,f⟩:=y
 congr 1
 rw[Bool.eq_iff_iff]
 simp
theorem eqBk_fn(e1 e2:Bool)(l m:List Bk)(hl:l.length≤maxLen)(hm:m.length≤maxLen):Fn Tryz.prog 31 [bks e1 l,bks e2 m] [] (vb (decide (l=m))) []:=by
 by_cases hlen:l.length=m.length
 · have k0:((l.length:Int) != (m.length:Int))=false:=by rw[hlen];simp
   have k8:l.length<9223372036854775808:=Nat.lt_succ_of_le hl
   obtain⟨r,hr⟩:∃r,decide (l=m)=r:=⟨_,rfl⟩
   rw[hr]
   (refine Q0t Tryz.func31 rfl (by rfl) ?_;simp only[Tryz.ntmps31,List.length_cons,List.length_nil,Nat.reduceAdd,Nat.reduceSub,List.replicate,List.cons_append,List.nil_append])
   (repeat(any_goals(first|((with_reducible refine Q0b ?_ ?_);rfl;intro K hK;simp only[go_sem,k0];((repeat(refine ndI (by first|assumption) ?_));refine hK _ ?_;clear hK K))|(with_reducible first|(refine Q0c ?_;refine hR _ ?_;clear hR R)|((first|refine Q0e ?_|refine Q0f ?_);intro J hJ hJ')|(refine Q0a ?_;intro R hR)|(refine hJ _ ?_;clear hJ hJ' J)|refine Q0h ?_)|((with_reducible apply Q0d);rfl;rfl;all_goals(intro hc;first|(cases hc;done)|(try simp only at hc))))))
   refine Q1p (α:={i:Nat // i≤l.length∧∀j,j<i→l[j]? = m[j]?}) (fun p=>⟨[bks e1 l,bks e2 m,.any,.any,.any,.any,.any,.any,.any,.any,.any,.any,vi .i64 l.length,vi .i64 p.1,.any,.any,.any,.any,.any,.any,.any,.any,.any,.any,.any,.any],[]⟩) (fun p=>l.length-p.1) ⟨0,Nat.zero_le _,fun j hj=>by omega⟩ (St.le_of (by simp[leT]) (by simp[leH])) ?_
   rintro ⟨i,hi,hno⟩ J hJ hJ'
   dsimp only at hi hJ ⊢
   rcases Nat.lt_or_ge i l.length with hlt|hge
   · have k1:(decide ((i:Int)<(l.length:Int)))=true:=decide_eq_true (by omega)
     have k7:(i:Int)+1=((i+1:Nat):Int):=by omega
     obtain⟨x,hx⟩:∃x,l[i]? = some x:=⟨_,List.getElem?_eq_getElem hlt⟩
     obtain⟨y,hy⟩:∃y,m[i]? = some y:=⟨_,List.getElem?_eq_getElem (by omega)⟩
     have hlm:i<m.length:=by omega
     have k2:=bk_at hx
     have k3:=bk_at hy
     have k4:=bk_ne x y
     by_cases hxy:x=y
     · rw[decide_eq_true hxy,Bool.not_true] at k4
       (have W:=ndI k1 (ndI k2 (ndI k3 (ndI k4 (ndI k7 @wrI))));(repeat(any_goals(first|((with_reducible refine Q0b ?_ ?_);rfl;intro K hK;simp(disch:=omega) only[go_sem,W,Bool.not_true,Bool.not_false];((repeat(refine ndI (by first|assumption|rfl) ?_));refine hK _ ?_;clear hK K))|(with_reducible first|(refine Q0c ?_;refine hR _ ?_;clear hR R)|((first|refine Q0e ?_|refine Q0f ?_);intro J hJ hJ')|(refine Q0a ?_;intro R hR)|(refine hJ _ ?_;clear hJ hJ' J)|refine Q0h ?_)|((with_reducible refine hJ' _ _ ?_ ?_);(focus(simp;done));clear hJ hJ' J)|((with_reducible apply Q0d);rfl;rfl;all_goals(intro hc;first|(cases hc;done)|(try simp only at hc)))|((with_reducible refine Q0z ?_ ?_);kernel_rfl;(with_reducible refine hR _ ?_);clear hR R)|(((with_reducible apply Q0x);rfl;rfl;(simp(disch:=omega) only[rdE,rdOf,go_sem,W,Bool.not_true,Bool.not_false];rfl);(intro τ hA hQ hN;((try simp only[Q1i,Op.operands,Call.operands,go_sem,W,Bool.not_true,Bool.not_false,go_sem,List.mem_cons,List.not_mem_nil,forall_eq_or_imp,forall_eq,List.append_toArray,Option.toArray] at hA);(try simp only[go_sem,W,Bool.not_true,Bool.not_false,List.mem_cons,List.not_mem_nil,forall_eq_or_imp,forall_eq] at hQ hN);(first|(revert hA;intro hA));(first|(revert hQ;intro hQ));(first|(revert hN;intro hN));simp(disch:=omega) only[go_sem,W,Bool.not_true,Bool.not_false,go_sem,hA,hQ,hN];(repeat(refine ndI (by first|assumption|omega|rfl) ?_));(first|apply Q1b))));(simp(disch:=omega) only[St.eff,setO,Q0u,go_sem,W,Bool.not_true,Bool.not_false]))|((with_reducible refine Q0w ?_ ?_ ?_ ?_);kernel_rfl;kernel_rfl;(first|kernel_rfl);intro R hR)))))
       all_goals exact hJ _ ⟨i+1,hlt,fun j hj=>by
        rcases Nat.lt_or_ge j i with h'|h'
        · exact hno j h'
        · obtain rfl:j=i:=by omega
          rw[hx,hy,hxy]⟩ (by simp only;omega) (St.le_of (by simp[leT]) (by simp[leH]))
     · rw[decide_eq_false hxy,Bool.not_false] at k4
       have hrf:r=false:=by
        rw[←hr,decide_eq_false_iff_not]
        intro e;rw[e,hy] at hx;cases hx;exact hxy rfl
       (have W:=ndI k1 (ndI k2 (ndI k3 (ndI k4 (ndI k7 @wrI))));(repeat(any_goals(first|((with_reducible refine Q0b ?_ ?_);rfl;intro K hK;simp(disch:=omega) only[go_sem,W,Bool.not_true,Bool.not_false];((repeat(refine ndI (by first|assumption|rfl) ?_));refine hK _ ?_;clear hK K))|(with_reducible first|(refine Q0c ?_;refine hR _ ?_;clear hR R)|((first|refine Q0e ?_|refine Q0f ?_);intro J hJ hJ')|(refine Q0a ?_;intro R hR)|(refine hJ _ ?_;clear hJ hJ' J)|refine Q0h ?_|refine Q0j ?_)|((with_reducible refine hJ' _ _ ?_ ?_);(focus(simp;done));clear hJ hJ' J)|((with_reducible apply Q0d);rfl;rfl;all_goals(intro hc;first|(cases hc;done)|(try simp only at hc)))|((with_reducible refine Q0z ?_ ?_);kernel_rfl;(with_reducible refine hR _ ?_);clear hR R)|(((with_reducible apply Q0x);rfl;rfl;(simp(disch:=omega) only[rdE,rdOf,go_sem,W,Bool.not_true,Bool.not_false];rfl);(intro τ hA hQ hN;((try simp only[Q1i,Op.operands,Call.operands,go_sem,W,Bool.not_true,Bool.not_false,go_sem,List.mem_cons,List.not_mem_nil,forall_eq_or_imp,forall_eq,List.append_toArray,Option.toArray] at hA);(try simp only[go_sem,W,Bool.not_true,Bool.not_false,List.mem_cons,List.not_mem_nil,forall_eq_or_imp,forall_eq] at hQ hN);(first|(revert hA;intro hA));(first|(revert hQ;intro hQ));(first|(revert hN;intro hN));simp(disch:=omega) only[go_sem,W,Bool.not_true,Bool.not_false,go_sem,hA,hQ,hN];(repeat(refine ndI (by first|assumption|omega|rfl) ?_));(first|apply Q1b))));(simp(disch:=omega) only[St.eff,setO,Q0u,go_sem,W,Bool.not_true,Bool.not_false]))|((with_reducible refine Q0w ?_ ?_ ?_ ?_);kernel_rfl;kernel_rfl;(first|kernel_rfl);intro R hR)))))
       all_goals rw[hrf]
       all_goals(refine⟨by simp,⟨_,?_,AV.le_refl _⟩,Q0g (by simp[leH,hget])⟩;simp only[Tryz.results31,resL,ldA,Q0m,go_sem])
   · have k1:(decide ((i:Int)<(l.length:Int)))=false:=decide_eq_false (by omega)
     have hrt:r=true:=by
      rw[←hr,decide_eq_true_iff]
      refine List.ext_getElem? fun j=>?_
      rcases Nat.lt_or_ge j l.length with h|h
      · exact hno j (by omega)
      · rw[List.getElem?_eq_none h,List.getElem?_eq_none (by omega)]
     (repeat(any_goals(first|((with_reducible refine Q0b ?_ ?_);rfl;intro K hK;simp only[go_sem,k1];((repeat(refine ndI (by first|assumption) ?_));refine hK _ ?_;clear hK K))|(with_reducible first|(refine Q0c ?_;refine hR _ ?_;clear hR R)|((first|refine Q0e ?_);intro J hJ hJ')|(refine Q0a ?_;intro R hR)|(refine hJ _ ?_;clear hJ hJ' J)|refine Q0j ?_|refine Q0q ?_)|((with_reducible refine hJ' _ _ ?_ ?_);(focus(simp;done));clear hJ hJ' J)|((with_reducible apply Q0d);rfl;rfl;all_goals(intro hc;first|(cases hc;done)|(try simp only at hc))))))
     all_goals rw[hrt]
     all_goals(refine⟨by simp,⟨_,?_,AV.le_refl _⟩,Q0g (by simp[leH,hget])⟩;simp only[Tryz.results31,resL,ldA,Q0m,go_sem])
 · have k0:((l.length:Int) != (m.length:Int))=true:=by simp;omega
   have he:decide (l=m)=false:=by rw[decide_eq_false_iff_not];intro e;exact hlen (by rw[e])
   rw[he]
   (refine Q0t Tryz.func31 rfl (by rfl) ?_;simp only[Tryz.ntmps31,List.length_cons,List.length_nil,Nat.reduceAdd,Nat.reduceSub,List.replicate,List.cons_append,List.nil_append])
   (repeat(any_goals(first|((with_reducible refine Q0b ?_ ?_);rfl;intro K hK;simp only[go_sem,k0];((repeat(refine ndI (by first|assumption) ?_));refine hK _ ?_;clear hK K))|(with_reducible first|(refine Q0c ?_;refine hR _ ?_;clear hR R)|((first|refine Q0e ?_);intro J hJ hJ')|(refine Q0a ?_;intro R hR)|(refine hJ _ ?_;clear hJ hJ' J)|refine Q0j ?_)|((with_reducible refine hJ' _ _ ?_ ?_);(focus(simp;done));clear hJ hJ' J)|((with_reducible apply Q0d);rfl;rfl;all_goals(intro hc;first|(cases hc;done)|(try simp only at hc))))))
   all_goals(refine⟨by simp,⟨_,?_,AV.le_refl _⟩,Q0g (by simp[leH,hget])⟩;simp only[Tryz.results31,resL,ldA,Q0m,go_sem])
end Go.Proofs.YtgdjkkapgghdbaaGreatDoor
namespace Go.Proofs.YtgdjkkapgghdbaaGreatDoor
open Go.RowKit
open Nat (reduceBEq)
attribute [-go_sem] IntKind.bits
set_option maxRecDepth 20000
set_option maxHeartbeats 2000000
theorem len64_0:Fn Tryz.prog 131 [vi .u64 0] [] (vi .i64 0) []:=by
 (refine Q0t Tryz.func131 rfl (by rfl) ?_;simp only[Tryz.ntmps131,List.length_cons,List.length_nil,Nat.reduceAdd,Nat.reduceSub,List.replicate,List.cons_append,List.nil_append])
 (repeat(any_goals(first|((with_reducible refine Q0b ?_ ?_);rfl;intro K hK;simp only[go_sem];((repeat(refine ndI (by first|assumption) ?_));refine hK _ ?_;clear hK K))|(with_reducible first|(refine Q0c ?_;refine hR _ ?_;clear hR R)|((first|refine Q0e ?_);intro J hJ hJ')|(refine Q0a ?_;intro R hR)|(refine hJ _ ?_;clear hJ hJ' J)|refine Q0h ?_)|((with_reducible apply Q0d);rfl;rfl;all_goals(intro hc;first|(cases hc;done)|(try simp only at hc))))))
 refine Q2n ?_ ?_
 · rfl
 intro K hK
 refine Q7b (m:=0) (b:=0) rfl rfl rfl rfl rfl Tryz.underlying9 (by decide +kernel) ?_
 simp only[St.put,List.set]
 refine hK _ ?_
 clear hK K
 (repeat(any_goals(first|((with_reducible refine Q0b ?_ ?_);rfl;intro K hK;simp only[go_sem];((repeat(refine ndI (by first|assumption) ?_));refine hK _ ?_;clear hK K))|(with_reducible first|(refine Q0c ?_;refine hR _ ?_;clear hR R)|(refine hJ _ ?_;clear hJ hJ' J)|refine Q0j ?_))))
 all_goals(refine⟨by simp,⟨_,?_,AV.le_refl _⟩,Q0g (by simp[leH,hget])⟩;simp only[Tryz.results131,resL,ldA,Q0m,go_sem])
 all_goals rfl
theorem len_0:Fn Tryz.prog 76 [vi .u64 0] [] (vi .i64 0) []:=by
 have g:=len64_0
 (refine Q0t Tryz.func76 rfl (by rfl) ?_;simp only[Tryz.ntmps76,List.length_cons,List.length_nil,Nat.reduceAdd,Nat.reduceSub,List.replicate,List.cons_append,List.nil_append])
 (repeat(any_goals(first|((with_reducible refine Q0l ?_ ?_ ?_);rfl;rfl;intro K hK;((apply Q0i (g);rfl;rfl;rfl;rfl;exact Tryz.func131);kernel_rfl;rfl;(focus((simp only[go_sem]);(try rfl);done));(first|rfl));(simp only[go_sem];refine hK _ ?_;clear hK K))|((with_reducible refine Q0b ?_ ?_);rfl;intro K hK;simp only[go_sem];((repeat(refine ndI (by first|assumption) ?_));refine hK _ ?_;clear hK K))|(with_reducible first|(refine Q0c ?_;refine hR _ ?_;clear hR R)|((first|refine Q0e ?_);intro J hJ hJ')|(refine Q0a ?_;intro R hR)|(refine hJ _ ?_;clear hJ hJ' J)|refine Q0h ?_|refine Q0j ?_)|((with_reducible apply Q0d);rfl;rfl;all_goals(intro hc;first|(cases hc;done)|(try simp only at hc))))))
 all_goals(refine⟨by simp,⟨_,?_,AV.le_refl _⟩,Q0g (by simp[leH,hget])⟩;simp only[Tryz.results76,resL,ldA,Q0m,go_sem])
theorem len64_1:Fn Tryz.prog 131 [vi .u64 1] [] (vi .i64 1) []:=by
 (refine Q0t Tryz.func131 rfl (by rfl) ?_;simp only[Tryz.ntmps131,List.length_cons,List.length_nil,Nat.reduceAdd,Nat.reduceSub,List.replicate,List.cons_append,List.nil_append])
 (repeat(any_goals(first|((with_reducible refine Q0b ?_ ?_);rfl;intro K hK;simp only[go_sem];((repeat(refine ndI (by first|assumption) ?_));refine hK _ ?_;clear hK K))|(with_reducible first|(refine Q0c ?_;refine hR _ ?_;clear hR R)|((first|refine Q0e ?_);intro J hJ hJ')|(refine Q0a ?_;intro R hR)|(refine hJ _ ?_;clear hJ hJ' J)|refine Q0h ?_)|((with_reducible apply Q0d);rfl;rfl;all_goals(intro hc;first|(cases hc;done)|(try simp only at hc))))))
 refine Q2n ?_ ?_
 · rfl
 intro K hK
 refine Q7b (m:=1) (b:=1) rfl rfl rfl rfl rfl Tryz.underlying9 (by decide +kernel) ?_
 simp only[St.put,List.set]
 refine hK _ ?_
 clear hK K
 (repeat(any_goals(first|((with_reducible refine Q0b ?_ ?_);rfl;intro K hK;simp only[go_sem];((repeat(refine ndI (by first|assumption) ?_));refine hK _ ?_;clear hK K))|(with_reducible first|(refine Q0c ?_;refine hR _ ?_;clear hR R)|(refine hJ _ ?_;clear hJ hJ' J)|refine Q0j ?_))))
 all_goals(refine⟨by simp,⟨_,?_,AV.le_refl _⟩,Q0g (by simp[leH,hget])⟩;simp only[Tryz.results131,resL,ldA,Q0m,go_sem])
 all_goals rfl
theorem len_1:Fn Tryz.prog 76 [vi .u64 1] [] (vi .i64 1) []:=by
 have g:=len64_1
 (refine Q0t Tryz.func76 rfl (by rfl) ?_;simp only[Tryz.ntmps76,List.length_cons,List.length_nil,Nat.reduceAdd,Nat.reduceSub,List.replicate,List.cons_append,List.nil_append])
 (repeat(any_goals(first|((with_reducible refine Q0l ?_ ?_ ?_);rfl;rfl;intro K hK;((apply Q0i (g);rfl;rfl;rfl;rfl;exact Tryz.func131);kernel_rfl;rfl;(focus((simp only[go_sem]);(try rfl);done));(first|rfl));(simp only[go_sem];refine hK _ ?_;clear hK K))|((with_reducible refine Q0b ?_ ?_);rfl;intro K hK;simp only[go_sem];((repeat(refine ndI (by first|assumption) ?_));refine hK _ ?_;clear hK K))|(with_reducible first|(refine Q0c ?_;refine hR _ ?_;clear hR R)|((first|refine Q0e ?_);intro J hJ hJ')|(refine Q0a ?_;intro R hR)|(refine hJ _ ?_;clear hJ hJ' J)|refine Q0h ?_|refine Q0j ?_)|((with_reducible apply Q0d);rfl;rfl;all_goals(intro hc;first|(cases hc;done)|(try simp only at hc))))))
 all_goals(refine⟨by simp,⟨_,?_,AV.le_refl _⟩,Q0g (by simp[leH,hget])⟩;simp only[Tryz.results76,resL,ldA,Q0m,go_sem])
theorem ins_r0(l:List Sp):Fn Tryz.prog 122 [.row 1000 37 5 0,vi .i64 0,vi .i64 0,.fn 48 []] [(1000,raS l)] (.tup []) [(1000,raS l)]:=by
 (refine Q0t Tryz.func122 rfl (by rfl) ?_;simp only[Tryz.ntmps122,List.length_cons,List.length_nil,Nat.reduceAdd,Nat.reduceSub,List.replicate,List.cons_append,List.nil_append])
 (repeat(any_goals(first|((with_reducible refine Q0b ?_ ?_);rfl;intro K hK;simp only[go_sem];((repeat(refine ndI (by first|assumption) ?_));refine hK _ ?_;clear hK K))|(with_reducible first|(refine Q0c ?_;refine hR _ ?_;clear hR R)|((first|refine Q0e ?_|refine Q0f ?_);intro J hJ hJ')|(refine Q0a ?_;intro R hR)|(refine hJ _ ?_;clear hJ hJ' J)|refine Q0q ?_)|((with_reducible refine hJ' _ _ ?_ ?_);(focus(simp;done));clear hJ hJ' J)|((with_reducible apply Q0d);rfl;rfl;all_goals(intro hc;first|(cases hc;done)|(try simp only at hc)))|(with_reducible refine Q3d 2 ?_)|((with_reducible refine Q3v ?_);intro J hJ hJ'))))
 all_goals(refine⟨by simp,⟨_,?_,AV.le_refl _⟩,Q0g (by simp[leH,hget])⟩;simp only[Tryz.results122,resL,ldA,Q0m,go_sem])
theorem pdq_r0(l:List Sp):Fn Tryz.prog 75 [.row 1000 37 5 0,vi .i64 0,vi .i64 0,vi .i64 0,.fn 48 []] [(1000,raS l)] (.tup []) [(1000,raS l)]:=by
 have g:=ins_r0 l
 (refine Q0t Tryz.func75 rfl (by rfl) ?_;simp only[Tryz.ntmps75,List.length_cons,List.length_nil,Nat.reduceAdd,Nat.reduceSub,List.replicate,List.cons_append,List.nil_append])
 (repeat(any_goals(first|((with_reducible refine Q0l ?_ ?_ ?_);rfl;rfl;intro K hK;(apply Q1c (g) (fun r=>r);rfl;rfl;rfl;rfl;exact Tryz.func122;kernel_rfl;rfl;rfl;(intro r hr q hq h;simp only[List.map_cons,List.map_nil,List.cons_append,List.nil_append,List.mem_cons,List.not_mem_nil,or_false] at hr hq;(try dsimp only at h);first|omega);(simp only[Q1d,Q1x,AV.ren,AV.renL,Q0r,List.mem_cons,List.not_mem_nil,forall_eq_or_imp,forall_eq,Q1r,List.contains_cons,List.contains_nil,AV.refsL,AV.refs,Q0o,AV.inN,AV.inNL,inH,Q0v,go_sem]));(simp only[Q0u,Q1m,renH,AV.ren,AV.renL,Q0r,go_sem];refine hK _ ?_;clear hK K))|((with_reducible refine Q0b ?_ ?_);rfl;intro K hK;simp only[go_sem];((repeat(refine ndI (by first|assumption) ?_));refine hK _ ?_;clear hK K))|(with_reducible first|(refine Q0c ?_;refine hR _ ?_;clear hR R)|((first|refine Q0e ?_|refine Q0f ?_);intro J hJ hJ')|(refine Q0a ?_;intro R hR)|(refine hJ _ ?_;clear hJ hJ' J)|refine Q0j ?_)|((with_reducible refine hJ' _ _ ?_ ?_);(focus(simp;done));clear hJ hJ' J)|((with_reducible apply Q0d);rfl;rfl;all_goals(intro hc;first|(cases hc;done)|(try simp only at hc)))|(with_reducible refine Q3d 2 ?_)|((with_reducible refine Q3v ?_);intro J hJ hJ'))))
 all_goals(refine⟨by simp,⟨_,?_,AV.le_refl _⟩,Q0g (by simp[leH,hget])⟩;simp only[Tryz.results75,resL,ldA,Q0m,go_sem])
theorem srt_r0(l:List Sp):Fn Tryz.prog 47 [.row 1000 37 5 0,.fn 48 []] [(1000,raS l)] (.tup []) [(1000,raS l)]:=by
 have g:=pdq_r0 l
 have g2:=len_0
 have e0:((0:Nat):Int)=0:=rfl
 have e1:IntKind.u64.wrap 0=0:=rfl
 (refine Q0t Tryz.func47 rfl (by rfl) ?_;simp only[Tryz.ntmps47,List.length_cons,List.length_nil,Nat.reduceAdd,Nat.reduceSub,List.replicate,List.cons_append,List.nil_append])
 (repeat(any_goals(first|((with_reducible refine Q0l ?_ ?_ ?_);rfl;rfl;intro K hK;(first|((apply Q0i (g2);rfl;rfl;rfl;rfl;exact Tryz.func76);kernel_rfl;rfl;(focus((simp only[go_sem,e0,e1]);(try rfl);done));(first|rfl))|(apply Q1c (g) (fun r=>r);rfl;rfl;rfl;rfl;exact Tryz.func75;kernel_rfl;rfl;rfl;(intro r hr q hq h;simp only[List.map_cons,List.map_nil,List.cons_append,List.nil_append,List.mem_cons,List.not_mem_nil,or_false] at hr hq;(try dsimp only at h);first|omega);(simp only[Q1d,Q1x,AV.ren,AV.renL,Q0r,List.mem_cons,List.not_mem_nil,forall_eq_or_imp,forall_eq,Q1r,List.contains_cons,List.contains_nil,AV.refsL,AV.refs,Q0o,AV.inN,AV.inNL,inH,Q0v,go_sem,e0,e1])));(simp only[Q0u,Q1m,renH,AV.ren,AV.renL,Q0r,go_sem,e0,e1];refine hK _ ?_;clear hK K))|((with_reducible refine Q0b ?_ ?_);rfl;intro K hK;simp only[go_sem,e0,e1];((repeat(refine ndI (by first|assumption) ?_));refine hK _ ?_;clear hK K))|(with_reducible first|(refine Q0c ?_;refine hR _ ?_;clear hR R)|((first|refine Q0e ?_);intro J hJ hJ')|(refine Q0a ?_;intro R hR)|(refine hJ _ ?_;clear hJ hJ' J)))))
 all_goals(refine⟨by simp,⟨_,?_,AV.le_refl _⟩,Q0g (by simp[leH,hget])⟩;simp only[Tryz.results47,resL,ldA,Q0m,go_sem])
theorem cpt_r0(l:List Sp):Fn Tryz.prog 49 [.row 1000 37 5 0] [(1000,raS l)] (.row 1000 37 5 0) [(1000,raS l)]:=by
 (refine Q0t Tryz.func49 rfl (by rfl) ?_;simp only[Tryz.ntmps49,List.length_cons,List.length_nil,Nat.reduceAdd,Nat.reduceSub,List.replicate,List.cons_append,List.nil_append])
 (repeat(any_goals(first|((with_reducible refine Q0b ?_ ?_);rfl;intro K hK;simp only[go_sem];((repeat(refine ndI (by first|assumption) ?_));refine hK _ ?_;clear hK K))|(with_reducible first|(refine Q0c ?_;refine hR _ ?_;clear hR R)|((first|refine Q0e ?_);intro J hJ hJ')|(refine Q0a ?_;intro R hR)|(refine hJ _ ?_;clear hJ hJ' J)|refine Q0j ?_)|((with_reducible refine hJ' _ _ ?_ ?_);(focus(simp;done));clear hJ hJ' J)|((with_reducible apply Q0d);rfl;rfl;all_goals(intro hc;first|(cases hc;done)|(try simp only at hc))))))
 all_goals(refine⟨by simp,⟨_,?_,AV.le_refl _⟩,Q0g (by simp[leH,hget])⟩;simp only[Tryz.results49,resL,ldA,Q0m,go_sem])
theorem ins_r1(l:List Sp):Fn Tryz.prog 122 [.row 1000 37 5 1,vi .i64 0,vi .i64 1,.fn 48 []] [(1000,raS l)] (.tup []) [(1000,raS l)]:=by
 (refine Q0t Tryz.func122 rfl (by rfl) ?_;simp only[Tryz.ntmps122,List.length_cons,List.length_nil,Nat.reduceAdd,Nat.reduceSub,List.replicate,List.cons_append,List.nil_append])
 (repeat(any_goals(first|((with_reducible refine Q0b ?_ ?_);rfl;intro K hK;simp only[go_sem];((repeat(refine ndI (by first|assumption) ?_));refine hK _ ?_;clear hK K))|(with_reducible first|(refine Q0c ?_;refine hR _ ?_;clear hR R)|((first|refine Q0e ?_|refine Q0f ?_);intro J hJ hJ')|(refine Q0a ?_;intro R hR)|(refine hJ _ ?_;clear hJ hJ' J)|refine Q0q ?_)|((with_reducible refine hJ' _ _ ?_ ?_);(focus(simp;done));clear hJ hJ' J)|((with_reducible apply Q0d);rfl;rfl;all_goals(intro hc;first|(cases hc;done)|(try simp only at hc)))|(with_reducible refine Q3d 2 ?_)|((with_reducible refine Q3v ?_);intro J hJ hJ'))))
 all_goals(refine⟨by simp,⟨_,?_,AV.le_refl _⟩,Q0g (by simp[leH,hget])⟩;simp only[Tryz.results122,resL,ldA,Q0m,go_sem])
theorem pdq_r1(l:List Sp):Fn Tryz.prog 75 [.row 1000 37 5 1,vi .i64 0,vi .i64 1,vi .i64 1,.fn 48 []] [(1000,raS l)] (.tup []) [(1000,raS l)]:=by
 have g:=ins_r1 l
 (refine Q0t Tryz.func75 rfl (by rfl) ?_;simp only[Tryz.ntmps75,List.length_cons,List.length_nil,Nat.reduceAdd,Nat.reduceSub,List.replicate,List.cons_append,List.nil_append])
 (repeat(any_goals(first|((with_reducible refine Q0l ?_ ?_ ?_);rfl;rfl;intro K hK;(apply Q1c (g) (fun r=>r);rfl;rfl;rfl;rfl;exact Tryz.func122;kernel_rfl;rfl;rfl;(intro r hr q hq h;simp only[List.map_cons,List.map_nil,List.cons_append,List.nil_append,List.mem_cons,List.not_mem_nil,or_false] at hr hq;(try dsimp only at h);first|omega);(simp only[Q1d,Q1x,AV.ren,AV.renL,Q0r,List.mem_cons,List.not_mem_nil,forall_eq_or_imp,forall_eq,Q1r,List.contains_cons,List.contains_nil,AV.refsL,AV.refs,Q0o,AV.inN,AV.inNL,inH,Q0v,go_sem]));(simp only[Q0u,Q1m,renH,AV.ren,AV.renL,Q0r,go_sem];refine hK _ ?_;clear hK K))|((with_reducible refine Q0b ?_ ?_);rfl;intro K hK;simp only[go_sem];((repeat(refine ndI (by first|assumption) ?_));refine hK _ ?_;clear hK K))|(with_reducible first|(refine Q0c ?_;refine hR _ ?_;clear hR R)|((first|refine Q0e ?_|refine Q0f ?_);intro J hJ hJ')|(refine Q0a ?_;intro R hR)|(refine hJ _ ?_;clear hJ hJ' J)|refine Q0j ?_)|((with_reducible refine hJ' _ _ ?_ ?_);(focus(simp;done));clear hJ hJ' J)|((with_reducible apply Q0d);rfl;rfl;all_goals(intro hc;first|(cases hc;done)|(try simp only at hc)))|(with_reducible refine Q3d 2 ?_)|((with_reducible refine Q3v ?_);intro J hJ hJ'))))
 all_goals(refine⟨by simp,⟨_,?_,AV.le_refl _⟩,Q0g (by simp[leH,hget])⟩;simp only[Tryz.results75,resL,ldA,Q0m,go_sem])
theorem srt_r1(l:List Sp):Fn Tryz.prog 47 [.row 1000 37 5 1,.fn 48 []] [(1000,raS l)] (.tup []) [(1000,raS l)]:=by
 have g:=pdq_r1 l
 have g2:=len_1
 have e0:((1:Nat):Int)=1:=rfl
 have e1:IntKind.u64.wrap 1=1:=rfl
 (refine Q0t Tryz.func47 rfl (by rfl) ?_;simp only[Tryz.ntmps47,List.length_cons,List.length_nil,Nat.reduceAdd,Nat.reduceSub,List.replicate,List.cons_append,List.nil_append])
 (repeat(any_goals(first|((with_reducible refine Q0l ?_ ?_ ?_);rfl;rfl;intro K hK;(first|((apply Q0i (g2);rfl;rfl;rfl;rfl;exact Tryz.func76);kernel_rfl;rfl;(focus((simp only[go_sem,e0,e1]);(try rfl);done));(first|rfl))|(apply Q1c (g) (fun r=>r);rfl;rfl;rfl;rfl;exact Tryz.func75;kernel_rfl;rfl;rfl;(intro r hr q hq h;simp only[List.map_cons,List.map_nil,List.cons_append,List.nil_append,List.mem_cons,List.not_mem_nil,or_false] at hr hq;(try dsimp only at h);first|omega);(simp only[Q1d,Q1x,AV.ren,AV.renL,Q0r,List.mem_cons,List.not_mem_nil,forall_eq_or_imp,forall_eq,Q1r,List.contains_cons,List.contains_nil,AV.refsL,AV.refs,Q0o,AV.inN,AV.inNL,inH,Q0v,go_sem,e0,e1])));(simp only[Q0u,Q1m,renH,AV.ren,AV.renL,Q0r,go_sem,e0,e1];refine hK _ ?_;clear hK K))|((with_reducible refine Q0b ?_ ?_);rfl;intro K hK;simp only[go_sem,e0,e1];((repeat(refine ndI (by first|assumption) ?_));refine hK _ ?_;clear hK K))|(with_reducible first|(refine Q0c ?_;refine hR _ ?_;clear hR R)|((first|refine Q0e ?_);intro J hJ hJ')|(refine Q0a ?_;intro R hR)|(refine hJ _ ?_;clear hJ hJ' J)))))
 all_goals(refine⟨by simp,⟨_,?_,AV.le_refl _⟩,Q0g (by simp[leH,hget])⟩;simp only[Tryz.results47,resL,ldA,Q0m,go_sem])
theorem cpt_r1(l:List Sp):Fn Tryz.prog 49 [.row 1000 37 5 1] [(1000,raS l)] (.row 1000 37 5 1) [(1000,raS l)]:=by
 (refine Q0t Tryz.func49 rfl (by rfl) ?_;simp only[Tryz.ntmps49,List.length_cons,List.length_nil,Nat.reduceAdd,Nat.reduceSub,List.replicate,List.cons_append,List.nil_append])
 (repeat(any_goals(first|((with_reducible refine Q0b ?_ ?_);rfl;intro K hK;simp only[go_sem];((repeat(refine ndI (by first|assumption) ?_));refine hK _ ?_;clear hK K))|(with_reducible first|(refine Q0c ?_;refine hR _ ?_;clear hR R)|((first|refine Q0e ?_);intro J hJ hJ')|(refine Q0a ?_;intro R hR)|(refine hJ _ ?_;clear hJ hJ' J)|refine Q0j ?_)|((with_reducible refine hJ' _ _ ?_ ?_);(focus(simp;done));clear hJ hJ' J)|((with_reducible apply Q0d);rfl;rfl;all_goals(intro hc;first|(cases hc;done)|(try simp only at hc))))))
 all_goals(refine⟨by simp,⟨_,?_,AV.le_refl _⟩,Q0g (by simp[leH,hget])⟩;simp only[Tryz.results49,resL,ldA,Q0m,go_sem])
theorem ins_c1(l:List Sp)(k:Nat)(ex:Bool):Fn Tryz.prog 122 [.cut 1000 37 5 0 1 k ex,vi .i64 0,vi .i64 1,.fn 48 []] [(1000,raS l)] (.tup []) [(1000,raS l)]:=by
 (refine Q0t Tryz.func122 rfl (by rfl) ?_;simp only[Tryz.ntmps122,List.length_cons,List.length_nil,Nat.reduceAdd,Nat.reduceSub,List.replicate,List.cons_append,List.nil_append])
 (repeat(any_goals(first|((with_reducible refine Q0b ?_ ?_);rfl;intro K hK;simp only[go_sem];((repeat(refine ndI (by first|assumption) ?_));refine hK _ ?_;clear hK K))|(with_reducible first|(refine Q0c ?_;refine hR _ ?_;clear hR R)|((first|refine Q0e ?_|refine Q0f ?_);intro J hJ hJ')|(refine Q0a ?_;intro R hR)|(refine hJ _ ?_;clear hJ hJ' J)|refine Q0q ?_)|((with_reducible refine hJ' _ _ ?_ ?_);(focus(simp;done));clear hJ hJ' J)|((with_reducible apply Q0d);rfl;rfl;all_goals(intro hc;first|(cases hc;done)|(try simp only at hc)))|(with_reducible refine Q3d 2 ?_)|((with_reducible refine Q3v ?_);intro J hJ hJ'))))
 all_goals(refine⟨by simp,⟨_,?_,AV.le_refl _⟩,Q0g (by simp[leH,hget])⟩;simp only[Tryz.results122,resL,ldA,Q0m,go_sem])
theorem pdq_c1(l:List Sp)(k:Nat)(ex:Bool):Fn Tryz.prog 75 [.cut 1000 37 5 0 1 k ex,vi .i64 0,vi .i64 1,vi .i64 1,.fn 48 []] [(1000,raS l)] (.tup []) [(1000,raS l)]:=by
 have g:=ins_c1 l k ex
 (refine Q0t Tryz.func75 rfl (by rfl) ?_;simp only[Tryz.ntmps75,List.length_cons,List.length_nil,Nat.reduceAdd,Nat.reduceSub,List.replicate,List.cons_append,List.nil_append])
 (repeat(any_goals(first|((with_reducible refine Q0l ?_ ?_ ?_);rfl;rfl;intro K hK;(apply Q1c (g) (fun r=>r);rfl;rfl;rfl;rfl;exact Tryz.func122;kernel_rfl;rfl;rfl;(intro r hr q hq h;simp only[List.map_cons,List.map_nil,List.cons_append,List.nil_append,List.mem_cons,List.not_mem_nil,or_false] at hr hq;(try dsimp only at h);first|omega);(simp only[Q1d,Q1x,AV.ren,AV.renL,Q0r,List.mem_cons,List.not_mem_nil,forall_eq_or_imp,forall_eq,Q1r,List.contains_cons,List.contains_nil,AV.refsL,AV.refs,Q0o,AV.inN,AV.inNL,inH,Q0v,go_sem]));(simp only[Q0u,Q1m,renH,AV.ren,AV.renL,Q0r,go_sem];refine hK _ ?_;clear hK K))|((with_reducible refine Q0b ?_ ?_);rfl;intro K hK;simp only[go_sem];((repeat(refine ndI (by first|assumption) ?_));refine hK _ ?_;clear hK K))|(with_reducible first|(refine Q0c ?_;refine hR _ ?_;clear hR R)|((first|refine Q0e ?_|refine Q0f ?_);intro J hJ hJ')|(refine Q0a ?_;intro R hR)|(refine hJ _ ?_;clear hJ hJ' J)|refine Q0j ?_)|((with_reducible refine hJ' _ _ ?_ ?_);(focus(simp;done));clear hJ hJ' J)|((with_reducible apply Q0d);rfl;rfl;all_goals(intro hc;first|(cases hc;done)|(try simp only at hc)))|(with_reducible refine Q3d 2 ?_)|((with_reducible refine Q3v ?_);intro J hJ hJ'))))
 all_goals(refine⟨by simp,⟨_,?_,AV.le_refl _⟩,Q0g (by simp[leH,hget])⟩;simp only[Tryz.results75,resL,ldA,Q0m,go_sem])
theorem srt_c1(l:List Sp)(k:Nat)(ex:Bool):Fn Tryz.prog 47 [.cut 1000 37 5 0 1 k ex,.fn 48 []] [(1000,raS l)] (.tup []) [(1000,raS l)]:=by
 have g:=pdq_c1 l k ex
 have g2:=len_1
 have e0:((1:Nat):Int)=1:=rfl
 have e1:IntKind.u64.wrap 1=1:=rfl
 (refine Q0t Tryz.func47 rfl (by rfl) ?_;simp only[Tryz.ntmps47,List.length_cons,List.length_nil,Nat.reduceAdd,Nat.reduceSub,List.replicate,List.cons_append,List.nil_append])
 (repeat(any_goals(first|((with_reducible refine Q0l ?_ ?_ ?_);rfl;rfl;intro K hK;(first|((apply Q0i (g2);rfl;rfl;rfl;rfl;exact Tryz.func76);kernel_rfl;rfl;(focus((simp only[go_sem,e0,e1]);(try rfl);done));(first|rfl))|(apply Q1c (g) (fun r=>r);rfl;rfl;rfl;rfl;exact Tryz.func75;kernel_rfl;rfl;rfl;(intro r hr q hq h;simp only[List.map_cons,List.map_nil,List.cons_append,List.nil_append,List.mem_cons,List.not_mem_nil,or_false] at hr hq;(try dsimp only at h);first|omega);(simp only[Q1d,Q1x,AV.ren,AV.renL,Q0r,List.mem_cons,List.not_mem_nil,forall_eq_or_imp,forall_eq,Q1r,List.contains_cons,List.contains_nil,AV.refsL,AV.refs,Q0o,AV.inN,AV.inNL,inH,Q0v,go_sem,e0,e1])));(simp only[Q0u,Q1m,renH,AV.ren,AV.renL,Q0r,go_sem,e0,e1];refine hK _ ?_;clear hK K))|((with_reducible refine Q0b ?_ ?_);rfl;intro K hK;simp only[go_sem,e0,e1];((repeat(refine ndI (by first|assumption) ?_));refine hK _ ?_;clear hK K))|(with_reducible first|(refine Q0c ?_;refine hR _ ?_;clear hR R)|((first|refine Q0e ?_);intro J hJ hJ')|(refine Q0a ?_;intro R hR)|(refine hJ _ ?_;clear hJ hJ' J)))))
 all_goals(refine⟨by simp,⟨_,?_,AV.le_refl _⟩,Q0g (by simp[leH,hget])⟩;simp only[Tryz.results47,resL,ldA,Q0m,go_sem])
theorem cpt_c1(l:List Sp)(k:Nat)(ex:Bool):Fn Tryz.prog 49 [.cut 1000 37 5 0 1 k ex] [(1000,raS l)] (.cut 1000 37 5 0 1 k ex) [(1000,raS l)]:=by
 (refine Q0t Tryz.func49 rfl (by rfl) ?_;simp only[Tryz.ntmps49,List.length_cons,List.length_nil,Nat.reduceAdd,Nat.reduceSub,List.replicate,List.cons_append,List.nil_append])
 (repeat(any_goals(first|((with_reducible refine Q0b ?_ ?_);rfl;intro K hK;simp only[go_sem];((repeat(refine ndI (by first|assumption) ?_));refine hK _ ?_;clear hK K))|(with_reducible first|(refine Q0c ?_;refine hR _ ?_;clear hR R)|((first|refine Q0e ?_);intro J hJ hJ')|(refine Q0a ?_;intro R hR)|(refine hJ _ ?_;clear hJ hJ' J)|refine Q0j ?_)|((with_reducible refine hJ' _ _ ?_ ?_);(focus(simp;done));clear hJ hJ' J)|((with_reducible apply Q0d);rfl;rfl;all_goals(intro hc;first|(cases hc;done)|(try simp only at hc))))))
 all_goals(refine⟨by simp,⟨_,?_,AV.le_refl _⟩,Q0g (by simp[leH,hget])⟩;simp only[Tryz.results49,resL,ldA,Q0m,go_sem])
theorem del_c1(k:Nat)(ex:Bool)(h1:1≤k)(hk:k≤maxLen)(s:Sp)(ks:List PV)(hp:Fn Tryz.prog 45 [spA s,.ptr 1001 0] [(1001,[.ep ks])] (vb false) [(1001,[.ep ks])]) :
 Fn Tryz.prog 44 [.cut 1000 37 5 0 1 k ex,.fn 45 [.ptr 1001 0]] [(1000,raS [s]),(1001,[.ep ks])] (.cut 1000 37 5 0 1 k ex) [(1000,raS [s])]:=by
 have ix:Fn Tryz.prog 72 [.cut 1000 37 5 0 1 k ex,.fn 45 [.ptr 1001 0]] [(1000,raS [s]),(1001,[.ep ks])] (vi .i64 (-1)) [(1000,raS [s]),(1001,[.ep ks])]:=idxSc_fn k ex [s] h1 hk (fun _=>false) ks (by show 1≤1000000;decide) Tryz.func45 (by kernel_rfl) rfl (fun x hx=>by
  rw[List.mem_singleton] at hx
  subst hx
  exact hp)
 clear hp
 generalize [s]=l at ix ⊢
 (refine Q0t Tryz.func44 rfl (by rfl) ?_;simp only[Tryz.ntmps44,List.length_cons,List.length_nil,Nat.reduceAdd,Nat.reduceSub,List.replicate,List.cons_append,List.nil_append])
 (repeat(any_goals(first|((with_reducible refine Q0l ?_ ?_ ?_);rfl;rfl;intro K hK;(apply Q1c (ix) (fun r=>r);rfl;rfl;rfl;rfl;exact Tryz.func72;kernel_rfl;rfl;rfl;(intro r hr q hq h;simp only[List.map_cons,List.map_nil,List.cons_append,List.nil_append,List.mem_cons,List.not_mem_nil,or_false] at hr hq;(try dsimp only at h);first|omega);(simp only[Q1d,Q1x,AV.ren,AV.renL,Q0r,List.mem_cons,List.not_mem_nil,forall_eq_or_imp,forall_eq,Q1r,List.contains_cons,List.contains_nil,AV.refsL,AV.refs,Q0o,AV.inN,AV.inNL,inH,Q0v,go_sem]));(simp only[Q0u,Q1m,renH,AV.ren,AV.renL,Q0r,go_sem];refine hK _ ?_;clear hK K))|((with_reducible refine Q0b ?_ ?_);rfl;intro K hK;simp only[go_sem];((repeat(refine ndI (by first|assumption) ?_));refine hK _ ?_;clear hK K))|(with_reducible first|(refine Q0c ?_;refine hR _ ?_;clear hR R)|((first|refine Q0e ?_);intro J hJ hJ')|(refine Q0a ?_;intro R hR)|(refine hJ _ ?_;clear hJ hJ' J)|refine Q0j ?_)|((with_reducible refine hJ' _ _ ?_ ?_);(focus(simp;done));clear hJ hJ' J)|((with_reducible apply Q0d);rfl;rfl;all_goals(intro hc;first|(cases hc;done)|(try simp only at hc))))))
 all_goals(refine⟨by simp,⟨_,?_,AV.le_refl _⟩,Q0g (by simp[leH,hget])⟩;simp only[Tryz.results44,resL,ldA,Q0m,go_sem])
theorem X6y:Fn Tryz.prog 13 [csA (Q2b true)] [] (spl5 false [⟨30,5⟩]) []:=by
 have hc:=Q8s true
 have t0:Fn Tryz.prog 28 [evs false []] [] (spl5 false []) []:=Q9d false [] [] (X3s false true [] (by decide) (fun e h=>by cases h) [2,3] (by decide) [] [] (srt_r0 []) (cpt_r0 []))
 have t1:Fn Tryz.prog 28 [evs false [X0z]] [] (spl5 false [⟨30,5⟩]) []:=Q9d false [X0z] [⟨30,5⟩] (X3s false true [X0z] (by decide) (fun e h=>by
  rw[List.mem_singleton] at h
  subst h
  exact(hc.2.1.2 ⟨3,30,true,[X0z]⟩ (by simp[Q2b])).2.2 X0z (by simp)) [2,3] (by decide) [⟨30,5⟩] [⟨30,5⟩] (srt_r1 [⟨30,5⟩]) (cpt_r1 [⟨30,5⟩]))
 have os:Sp.ok ⟨30,5⟩:=⟨⟨by show(0:Int)≤30;decide,by show(30:Int)≤_;decide⟩,(by decide:5<WW)⟩
 have fq:=for1_fn (Q2b true) hc (ofM (Q2b true)) (ofF (Q2b true)) ⟨30,5⟩ os
 have e:Q3w (Q2b true) ⟨30,5⟩ (Q2b true).snd=false:=rfl
 rw[e] at fq
 refine X6x (Q2b true) [.sl false 1 (Q2b true).cd.length ((Q2b true).cd.flatMap apv),.v (.bool (ofM (Q2b true))),.v (.bool (ofF (Q2b true)))] (fun p=>Q6t [2,3] p.tr) (by decide) (fun p hp=>?_) (fun p hp s hs=>?_) (fun p hp=>?_) (Q5z (Q2b true) hc (Q4f true)) [⟨30,5⟩] [⟨30,5⟩] [⟨30,5⟩] (by decide) (fun k ex h1 h2=>del_c1 k ex h1 h2 _ _ fq) (fun k ex=>srt_c1 _ k ex) (fun k ex _ _=>cpt_c1 _ k ex)
 · have h2:=X3r [2,3] p.tr
   have h3:=(hc.2.1.2 p hp).2.1
   omega
 · exact toldS_ok (hc.2.1.2 p hp).2.2 [2,3] s hs
 · rcases List.mem_cons.1 hp with rfl|hp
   · exact t0
   · rcases List.mem_cons.1 hp with rfl|hp
     · exact t1
     · cases hp
theorem wakesB_fn:Fn Tryz.prog 8 [] [] (vb true) []:=
 wakes_fnE (X2o (Q2b false) (Q8s false)) (X2o (Q2b true) (Q8s true)) _ X6y rfl
end Go.Proofs.YtgdjkkapgghdbaaGreatDoor
namespace Go.Proofs.YtgdjkkapgghdbaaGreatDoor
open Go.RowKit
open Nat (reduceBEq)
attribute [-go_sem] IntKind.bits
set_option maxRecDepth 20000
set_option maxHeartbeats 4000000
def plv(p:Int×Int):List PV:=[.v (.int .i64 p.1),.v (.int .i64 p.2)]
theorem plv_len(p:Int×Int):(plv p).length=2:=rfl
abbrev pls(ex:Bool)(l:List (Int×Int)):AV:=.c (.sl ex 2 l.length (l.flatMap plv))
theorem pl_at{l:List (Int×Int)}{i:Nat}{p:Int×Int}(h:l[i]? = some p):((l.flatMap plv).drop (i*2)).take 2=[.v (.int .i64 p.1),.v (.int .i64 p.2)]:=Q4m (f:=plv) plv_len h
theorem eqBk_nil:Fn Tryz.prog 31 [bks false [],nilA] [] (vb true) []:=by
 have h:=eqBk_fn false false [] [] (Nat.zero_le _) (Nat.zero_le _)
 rw[decide_eq_true rfl] at h
 exact h.args ⟨AV.le_refl _,AV.le_nil false 3,trivial⟩
abbrev brS(X:Cs)(pl:List (Int×Int))(b:Bool)(i:Nat):St:=⟨[.any,.any,.any,.any,vb false,.ptr 5 0,.ptr 6 0,vb b,.any,.any,.any,.any,.any,.any,.any,.any,.any,.any,.any,.any,.any,.any,.any,.any,.any,.any,.any,.any,.any,.any,.any,.any,.any,.any,.any,.any,.any,.any,.any,.any,.any,.any,.any,.any,.any,.any,.any,.any,.any,.any,.any,.any,.any,.any,.any,.any,.any,.any,.any,pls false pl,vi .i64 pl.length,vi .i64 (i:Int),.any,.any,.any,.any,.any,.any,.any,.any,.any,.any,.any,.any,.any,.any,.any,.any,.any,.any,.any,.any,.any,.any],[(5,[vi .u64 X.snd,phs false X.ph,asl false X.cd]),(6,[vi .u64 X.snd,phs false X.ph,asl false X.cd])]⟩
def fstB(B:List Bk):Bk:=match B with|y::_=>y|[]=>⟨0,0,0⟩
def fstE(B:List Bk):Int:=match B with|_::_=>321|[]=>0
theorem break_fnE(x X:Cs)(pl:List (Int×Int))(hpl:pl.length<9223372036854775808)(fw:Fn Tryz.prog 9 [csA x] [] (csA X) [])(b:Bool)(B:List Bk)(RP:Int→Int→Int)
 (rt:Fn Tryz.prog 10 [csA X] [] (vb b) [])
 (wb:b=true→Fn Tryz.prog 30 [csA X] [] (bks false B) [])
 (cb:Fn Tryz.prog 22 [csA X] [] (bks false (if b then B else[])) [])
 (ho:Fn Tryz.prog 27 [csA X] [] (bkE (if b then fstB B else⟨0,0,0⟩) (if b then fstE B else 320)) [])
 (eb:Fn Tryz.prog 31 [bks false B,bks false B] [] (vb true) [])
 (sm:Fn Tryz.prog 21 [csA X,csA X] [] (vb true) [])
 (r1:∀i j,Fn Tryz.prog 33 [csA X,vi .i64 i,vi .i64 j] [] (vi .i64 (if b then RP i j else 0)) [])
 (r2:b=true→∀i j,Fn Tryz.prog 32 [csA X,vi .i64 i,vi .i64 j] [] (vi .i64 (RP i j)) []) :
 Fn Tryz.prog 6 [csA x,pls false pl] [] (vb true) []:=by
 obtain⟨xs,xp,xc⟩:=x
 have wk:=wakesB_fn
 cases b with
 |false=>
  rw[if_neg (by simp)] at cb
  simp only[Bool.false_eq_true,if_false] at ho r1
  have eb:=eqBk_nil
  clear wb r2
  (refine Q0t Tryz.func6 rfl (by rfl) ?_;simp only[Tryz.ntmps6,List.length_cons,List.length_nil,Nat.reduceAdd,Nat.reduceSub,List.replicate,List.cons_append,List.nil_append])
  (repeat(any_goals(first|((with_reducible refine Q0l ?_ ?_ ?_);rfl;rfl;intro K hK;((first|(apply Q0i (wk);rfl;rfl;rfl;rfl;exact Tryz.func8)|(apply Q0i (rt);rfl;rfl;rfl;rfl;exact Tryz.func10)|(apply Q0i (ho);rfl;rfl;rfl;rfl;exact Tryz.func27));kernel_rfl;rfl;(focus((simp only[go_sem]);(try rfl);done));(first|rfl));(simp only[go_sem];refine hK _ ?_;clear hK K))|((with_reducible refine Q0b ?_ ?_);rfl;intro K hK;simp only[go_sem];((repeat(refine ndI (by first|assumption) ?_));refine hK _ ?_;clear hK K))|(with_reducible first|(refine Q0c ?_;refine hR _ ?_;clear hR R)|((first|refine Q0e ?_|refine Q0f ?_);intro J hJ hJ')|(refine Q0a ?_;intro R hR)|(refine hJ _ ?_;clear hJ hJ' J)|refine Q0h ?_)|((with_reducible apply Q0p);rfl;rfl;rfl;all_goals(intro hb;first|(cases hb;done)|((try simp only[Bool.not_true,Bool.not_false] at hb);(first|((with_reducible intro K hK);(first|((first|(apply Q0i (cb);rfl;rfl;rfl;rfl;exact Tryz.func22)|(apply Q0i (eb);rfl;rfl;rfl;rfl;exact Tryz.func31)|(apply Q0i (sm);rfl;rfl;rfl;rfl;exact Tryz.func21));kernel_rfl;rfl;(focus((simp only[go_sem]);(try rfl);done));(first|rfl))|skip);simp only[go_sem];((repeat(refine ndI (by first|assumption) ?_));refine hK _ ?_;clear hK K))))))|((with_reducible apply Q0d);rfl;rfl;all_goals(intro hc;first|(cases hc;done)|(try simp only at hc)))|((with_reducible refine Q0z ?_ ?_);kernel_rfl;(with_reducible refine hR _ ?_);clear hR R)|((first|((with_reducible apply Q1h);rfl;rfl;((first|(apply Q0y (fw);rfl;rfl;rfl;rfl;exact Tryz.func9));kernel_rfl;rfl;(focus((simp only[go_sem]);(try rfl);done));(first|rfl)))|((with_reducible apply Q0x);rfl;rfl;(simp only[rdE,rdOf,go_sem];rfl);(intro τ hA hQ hN;((try simp only[Q1i,Op.operands,Call.operands,go_sem,List.mem_cons,List.not_mem_nil,forall_eq_or_imp,forall_eq,List.append_toArray,Option.toArray] at hA);(try simp only[go_sem,List.mem_cons,List.not_mem_nil,forall_eq_or_imp,forall_eq] at hQ hN);(first|(revert hA;intro hA));(first|(revert hQ;intro hQ));(first|(revert hN;intro hN));simp only[go_sem,hA,hQ,hN];(repeat(refine ndI (by first|assumption) ?_));(first|apply Q1b|apply Q4a))))|((first|((with_reducible apply X2w);rfl;rfl;rfl));(intro τ hA hQ hN;((try simp only[Q1i,Op.operands,Call.operands,go_sem,List.mem_cons,List.not_mem_nil,forall_eq_or_imp,forall_eq,List.append_toArray,Option.toArray] at hA);(try simp only[go_sem,List.mem_cons,List.not_mem_nil,forall_eq_or_imp,forall_eq] at hQ);(first|(revert hA;intro hA));(first|(revert hQ;intro hQ));simp only[go_sem,hA,hQ,hN];(repeat(refine ndI (by first|assumption) ?_));exact X8x _ _ _ _))));(simp only[St.eff,setO,Q0u,go_sem]))|((with_reducible refine Q0w ?_ ?_ ?_ ?_);kernel_rfl;kernel_rfl;(first|kernel_rfl);intro R hR))))
  refine Q1t pl.length (fun i=>brS X pl false i) (St.le_of (by simp[leT]) (by simp[leH,hget])) ?_
  clear wk fw rt ho cb eb sm
  intro i hi J hJ hJ'
  (try dsimp only at hJ ⊢)
  rcases Nat.lt_or_ge i pl.length with hlt|hge
  · obtain⟨p,hp⟩:∃x,pl[i]? = some x:=⟨_,List.getElem?_eq_getElem hlt⟩
    have k1:(decide ((i:Int)<(pl.length:Int)))=true:=decide_eq_true (by omega)
    have k2:=pl_at hp
    have k7:(i:Int)+1=((i+1:Nat):Int):=by omega
    by_cases h20:i=20
    · have k3:((i:Int)==20)=true:=by subst h20;rfl
      (have W:=ndI k1 (ndI k2 k3);(repeat(any_goals(first|((with_reducible refine Q0b ?_ ?_);rfl;intro K hK;simp(disch:=omega) only[go_sem,W];((repeat(refine ndI (by first|assumption|omega|rfl) ?_));refine hK _ ?_;clear hK K))|(with_reducible first|(refine Q0c ?_;refine hR _ ?_;clear hR R)|((first|refine Q0e ?_|refine Q0f ?_);intro J hJ hJ')|(refine Q0a ?_;intro R hR)|(refine hJ _ ?_;clear hJ hJ' J)|refine Q0h ?_|refine Q0j ?_|refine Q0q ?_)|((with_reducible refine hJ' _ _ ?_ ?_);(focus(simp;done));clear hJ hJ' J)|((with_reducible apply Q0d);rfl;rfl;all_goals(intro hc;first|(cases hc;done)|(try simp only at hc)))))))
      all_goals(refine⟨by simp,⟨_,?_,AV.le_refl _⟩,Q0g (by simp[leH,hget])⟩;simp only[Tryz.results6,resL,ldA,Q0m,go_sem])
    · have k3:((i:Int)==20)=false:=by simp;omega
      have r1:=r1 p.1 p.2
      (have W:=ndI k1 (ndI k2 (ndI k3 (ndI k7 @wrI)));(repeat(any_goals(first|((with_reducible refine Q0l ?_ ?_ ?_);rfl;rfl;intro K hK;((apply Q0i (r1);rfl;rfl;rfl;rfl;exact Tryz.func33);kernel_rfl;rfl;(focus((simp(disch:=omega) only[go_sem,W]);(try rfl);done));(first|rfl));(simp(disch:=omega) only[go_sem,W];refine hK _ ?_;clear hK K))|((with_reducible refine Q0b ?_ ?_);rfl;intro K hK;simp(disch:=omega) only[go_sem,W];((repeat(refine ndI (by first|assumption|omega|rfl) ?_));refine hK _ ?_;clear hK K))|(with_reducible first|(refine Q0c ?_;refine hR _ ?_;clear hR R)|((first|refine Q0e ?_|refine Q0f ?_);intro J hJ hJ')|(refine Q0a ?_;intro R hR)|(refine hJ _ ?_;clear hJ hJ' J)|refine Q0h ?_)|((with_reducible refine hJ' _ _ ?_ ?_);(focus(simp;done));clear hJ hJ' J)|((with_reducible apply Q0d);rfl;rfl;all_goals(intro hc;first|(cases hc;done)|(try simp only at hc)))))))
      all_goals exact hJ _ hlt (St.le_of (by simp[leT]) (by simp[leH,hget]))
  · have k1:(decide ((i:Int)<(pl.length:Int)))=false:=decide_eq_false (by omega)
    (repeat(any_goals(first|((with_reducible refine Q0b ?_ ?_);rfl;intro K hK;simp only[go_sem,k1];((repeat(refine ndI (by first|assumption) ?_));refine hK _ ?_;clear hK K))|(with_reducible first|(refine Q0c ?_;refine hR _ ?_;clear hR R)|((first|refine Q0e ?_);intro J hJ hJ')|(refine Q0a ?_;intro R hR)|(refine hJ _ ?_;clear hJ hJ' J)|refine Q0j ?_|refine Q0q ?_)|((with_reducible refine hJ' _ _ ?_ ?_);(focus(simp;done));clear hJ hJ' J)|((with_reducible apply Q0d);rfl;rfl;all_goals(intro hc;first|(cases hc;done)|(try simp only at hc))))))
    all_goals(refine⟨by simp,⟨_,?_,AV.le_refl _⟩,Q0g (by simp[leH,hget])⟩;simp only[Tryz.results6,resL,ldA,Q0m,go_sem])
 |true=>
  rw[if_pos rfl] at cb
  replace wb:=wb rfl
  replace r2:=r2 rfl
  simp only[if_true] at ho r1
  cases B with
  |nil=>
   simp only[fstB,fstE] at ho
   (refine Q0t Tryz.func6 rfl (by rfl) ?_;simp only[Tryz.ntmps6,List.length_cons,List.length_nil,Nat.reduceAdd,Nat.reduceSub,List.replicate,List.cons_append,List.nil_append])
   (repeat(any_goals(first|((with_reducible refine Q0l ?_ ?_ ?_);rfl;rfl;intro K hK;((first|(apply Q0i (wk);rfl;rfl;rfl;rfl;exact Tryz.func8)|(apply Q0i (rt);rfl;rfl;rfl;rfl;exact Tryz.func10)|(apply Q0i (wb);rfl;rfl;rfl;rfl;exact Tryz.func30)|(apply Q0i (ho);rfl;rfl;rfl;rfl;exact Tryz.func27));kernel_rfl;rfl;(focus((simp only[go_sem]);(try rfl);done));(first|rfl));(simp only[go_sem];refine hK _ ?_;clear hK K))|((with_reducible refine Q0b ?_ ?_);rfl;intro K hK;simp only[go_sem];((repeat(refine ndI (by first|assumption) ?_));refine hK _ ?_;clear hK K))|(with_reducible first|(refine Q0c ?_;refine hR _ ?_;clear hR R)|((first|refine Q0e ?_|refine Q0f ?_);intro J hJ hJ')|(refine Q0a ?_;intro R hR)|(refine hJ _ ?_;clear hJ hJ' J)|refine Q0h ?_)|((with_reducible apply Q0p);rfl;rfl;rfl;all_goals(intro hb;first|(cases hb;done)|((try simp only[Bool.not_true,Bool.not_false] at hb);(first|((with_reducible intro K hK);(first|((first|(apply Q0i (cb);rfl;rfl;rfl;rfl;exact Tryz.func22)|(apply Q0i (eb);rfl;rfl;rfl;rfl;exact Tryz.func31)|(apply Q0i (sm);rfl;rfl;rfl;rfl;exact Tryz.func21));kernel_rfl;rfl;(focus((simp only[go_sem]);(try rfl);done));(first|rfl))|skip);simp only[go_sem];((repeat(refine ndI (by first|assumption) ?_));refine hK _ ?_;clear hK K))))))|((with_reducible apply Q0d);rfl;rfl;all_goals(intro hc;first|(cases hc;done)|(try simp only at hc)))|((with_reducible refine Q0z ?_ ?_);kernel_rfl;(with_reducible refine hR _ ?_);clear hR R)|((first|((with_reducible apply Q1h);rfl;rfl;((first|(apply Q0y (fw);rfl;rfl;rfl;rfl;exact Tryz.func9));kernel_rfl;rfl;(focus((simp only[go_sem]);(try rfl);done));(first|rfl)))|((with_reducible apply Q0x);rfl;rfl;(simp only[rdE,rdOf,go_sem];rfl);(intro τ hA hQ hN;((try simp only[Q1i,Op.operands,Call.operands,go_sem,List.mem_cons,List.not_mem_nil,forall_eq_or_imp,forall_eq,List.append_toArray,Option.toArray] at hA);(try simp only[go_sem,List.mem_cons,List.not_mem_nil,forall_eq_or_imp,forall_eq] at hQ hN);(first|(revert hA;intro hA));(first|(revert hQ;intro hQ));(first|(revert hN;intro hN));simp only[go_sem,hA,hQ,hN];(repeat(refine ndI (by first|assumption) ?_));(first|apply Q1b|apply Q4a))))|((first|((with_reducible apply X2w);rfl;rfl;rfl));(intro τ hA hQ hN;((try simp only[Q1i,Op.operands,Call.operands,go_sem,List.mem_cons,List.not_mem_nil,forall_eq_or_imp,forall_eq,List.append_toArray,Option.toArray] at hA);(try simp only[go_sem,List.mem_cons,List.not_mem_nil,forall_eq_or_imp,forall_eq] at hQ);(first|(revert hA;intro hA));(first|(revert hQ;intro hQ));simp only[go_sem,hA,hQ,hN];(repeat(refine ndI (by first|assumption) ?_));exact X8x _ _ _ _))));(simp only[St.eff,setO,Q0u,go_sem]))|((with_reducible refine Q0w ?_ ?_ ?_ ?_);kernel_rfl;kernel_rfl;(first|kernel_rfl);intro R hR))))
   refine Q1t pl.length (fun i=>brS X pl true i) (St.le_of (by simp[leT]) (by simp[leH,hget])) ?_
   clear wk fw rt ho cb eb sm wb
   intro i hi J hJ hJ'
   (try dsimp only at hJ ⊢)
   rcases Nat.lt_or_ge i pl.length with hlt|hge
   · obtain⟨p,hp⟩:∃x,pl[i]? = some x:=⟨_,List.getElem?_eq_getElem hlt⟩
     have k1:(decide ((i:Int)<(pl.length:Int)))=true:=decide_eq_true (by omega)
     have k2:=pl_at hp
     have k7:(i:Int)+1=((i+1:Nat):Int):=by omega
     by_cases h20:i=20
     · have k3:((i:Int)==20)=true:=by subst h20;rfl
       (have W:=ndI k1 (ndI k2 k3);(repeat(any_goals(first|((with_reducible refine Q0b ?_ ?_);rfl;intro K hK;simp(disch:=omega) only[go_sem,W];((repeat(refine ndI (by first|assumption|omega|rfl) ?_));refine hK _ ?_;clear hK K))|(with_reducible first|(refine Q0c ?_;refine hR _ ?_;clear hR R)|((first|refine Q0e ?_|refine Q0f ?_);intro J hJ hJ')|(refine Q0a ?_;intro R hR)|(refine hJ _ ?_;clear hJ hJ' J)|refine Q0h ?_|refine Q0j ?_|refine Q0q ?_)|((with_reducible refine hJ' _ _ ?_ ?_);(focus(simp;done));clear hJ hJ' J)|((with_reducible apply Q0d);rfl;rfl;all_goals(intro hc;first|(cases hc;done)|(try simp only at hc)))))))
       all_goals(refine⟨by simp,⟨_,?_,AV.le_refl _⟩,Q0g (by simp[leH,hget])⟩;simp only[Tryz.results6,resL,ldA,Q0m,go_sem])
     · have k3:((i:Int)==20)=false:=by simp;omega
       have r1:=r1 p.1 p.2
       have r2:=r2 p.1 p.2
       generalize RP p.1 p.2=v at r1 r2
       have k4:(v != v)=false:=by simp
       (have W:=ndI k1 (ndI k2 (ndI k3 (ndI k4 (ndI k7 @wrI))));(repeat(any_goals(first|((with_reducible refine Q0l ?_ ?_ ?_);rfl;rfl;intro K hK;((first|(apply Q0i (r1);rfl;rfl;rfl;rfl;exact Tryz.func33)|(apply Q0i (r2);rfl;rfl;rfl;rfl;exact Tryz.func32));kernel_rfl;rfl;(focus((simp(disch:=omega) only[go_sem,W]);(try rfl);done));(first|rfl));(simp(disch:=omega) only[go_sem,W];refine hK _ ?_;clear hK K))|((with_reducible refine Q0b ?_ ?_);rfl;intro K hK;simp(disch:=omega) only[go_sem,W];((repeat(refine ndI (by first|assumption|omega|rfl) ?_));refine hK _ ?_;clear hK K))|(with_reducible first|(refine Q0c ?_;refine hR _ ?_;clear hR R)|((first|refine Q0e ?_|refine Q0f ?_);intro J hJ hJ')|(refine Q0a ?_;intro R hR)|(refine hJ _ ?_;clear hJ hJ' J)|refine Q0h ?_)|((with_reducible refine hJ' _ _ ?_ ?_);(focus(simp;done));clear hJ hJ' J)|((with_reducible apply Q0d);rfl;rfl;all_goals(intro hc;first|(cases hc;done)|(try simp only at hc)))))))
       all_goals exact hJ _ hlt (St.le_of (by simp[leT]) (by simp[leH,hget]))
   · have k1:(decide ((i:Int)<(pl.length:Int)))=false:=decide_eq_false (by omega)
     (repeat(any_goals(first|((with_reducible refine Q0b ?_ ?_);rfl;intro K hK;simp only[go_sem,k1];((repeat(refine ndI (by first|assumption) ?_));refine hK _ ?_;clear hK K))|(with_reducible first|(refine Q0c ?_;refine hR _ ?_;clear hR R)|((first|refine Q0e ?_);intro J hJ hJ')|(refine Q0a ?_;intro R hR)|(refine hJ _ ?_;clear hJ hJ' J)|refine Q0j ?_|refine Q0q ?_)|((with_reducible refine hJ' _ _ ?_ ?_);(focus(simp;done));clear hJ hJ' J)|((with_reducible apply Q0d);rfl;rfl;all_goals(intro hc;first|(cases hc;done)|(try simp only at hc))))))
     all_goals(refine⟨by simp,⟨_,?_,AV.le_refl _⟩,Q0g (by simp[leH,hget])⟩;simp only[Tryz.results6,resL,ldA,Q0m,go_sem])
  |cons y B=>
   simp only[fstB,fstE] at ho
   have g1:decide (((y::B).length:Int)>0)=true:=decide_eq_true (by simp)
   have g2:((y::B).flatMap Bk.pv).take 3=[.v (.int .i64 y.i),.v (.int .i64 y.j),.v (.int .i64 y.r)]:=rfl
   have g3:(!((y.i==y.i)&&((y.j==y.j)&&(y.r==y.r))))=false:=by simp
   have g4:0<(y::B).length:=by simp
   have gi:(y.i==y.i)=true:=by simp
   have gj:(y.j==y.j)=true:=by simp
   have gr:(y.r==y.r)=true:=by simp
   generalize hC:y::B=C at *
   (refine Q0t Tryz.func6 rfl (by rfl) ?_;simp only[Tryz.ntmps6,List.length_cons,List.length_nil,Nat.reduceAdd,Nat.reduceSub,List.replicate,List.cons_append,List.nil_append])
   (have W:=ndI g1 (ndI g2 g3);(repeat(any_goals(first|((with_reducible refine Q0l ?_ ?_ ?_);rfl;rfl;intro K hK;((first|(apply Q0i (wk);rfl;rfl;rfl;rfl;exact Tryz.func8)|(apply Q0i (rt);rfl;rfl;rfl;rfl;exact Tryz.func10)|(apply Q0i (wb);rfl;rfl;rfl;rfl;exact Tryz.func30)|(apply Q0i (ho);rfl;rfl;rfl;rfl;exact Tryz.func27));kernel_rfl;rfl;(focus((simp(disch:=omega) only[go_sem,W,gi,gj,gr]);(try rfl);done));(first|rfl));(simp(disch:=omega) only[go_sem,W,gi,gj,gr];refine hK _ ?_;clear hK K))|((with_reducible refine Q0b ?_ ?_);rfl;intro K hK;simp(disch:=omega) only[go_sem,W,gi,gj,gr];((repeat(refine ndI (by first|assumption|omega|rfl) ?_));refine hK _ ?_;clear hK K))|(with_reducible first|(refine Q0c ?_;refine hR _ ?_;clear hR R)|((first|refine Q0e ?_|refine Q0f ?_);intro J hJ hJ')|(refine Q0a ?_;intro R hR)|(refine hJ _ ?_;clear hJ hJ' J)|refine Q0h ?_)|((with_reducible apply Q0p);rfl;rfl;rfl;all_goals(intro hb;first|(cases hb;done)|((try simp only[Bool.not_true,Bool.not_false] at hb);(first|((with_reducible intro K hK);(first|((first|(apply Q0i (cb);rfl;rfl;rfl;rfl;exact Tryz.func22)|(apply Q0i (eb);rfl;rfl;rfl;rfl;exact Tryz.func31)|(apply Q0i (sm);rfl;rfl;rfl;rfl;exact Tryz.func21));kernel_rfl;rfl;(focus((simp(disch:=omega) only[go_sem,W,gi,gj,gr]);(try rfl);done));(first|rfl))|skip);simp(disch:=omega) only[go_sem,W,gi,gj,gr];((repeat(refine ndI (by first|assumption|rfl) ?_));refine hK _ ?_;clear hK K))))))|((with_reducible apply Q0d);rfl;rfl;all_goals(intro hc;first|(cases hc;done)|(try simp only at hc)))|((with_reducible refine Q0z ?_ ?_);kernel_rfl;(with_reducible refine hR _ ?_);clear hR R)|((first|((with_reducible apply Q1h);rfl;rfl;((first|(apply Q0y (fw);rfl;rfl;rfl;rfl;exact Tryz.func9));kernel_rfl;rfl;(focus((simp(disch:=omega) only[go_sem,W,gi,gj,gr]);(try rfl);done));(first|rfl)))|((with_reducible apply Q0x);rfl;rfl;(simp(disch:=omega) only[rdE,rdOf,go_sem,W,gi,gj,gr];rfl);(intro τ hA hQ hN;((try simp only[Q1i,Op.operands,Call.operands,go_sem,W,gi,gj,gr,go_sem,List.mem_cons,List.not_mem_nil,forall_eq_or_imp,forall_eq,List.append_toArray,Option.toArray] at hA);(try simp only[go_sem,W,gi,gj,gr,List.mem_cons,List.not_mem_nil,forall_eq_or_imp,forall_eq] at hQ hN);(first|(revert hA;intro hA));(first|(revert hQ;intro hQ));(first|(revert hN;intro hN));simp(disch:=omega) only[go_sem,W,gi,gj,gr,go_sem,hA,hQ,hN];(repeat(refine ndI (by first|assumption|rfl) ?_));(first|apply Q1b|apply Q4a))))|((first|((with_reducible apply X2w);rfl;rfl;rfl));(intro τ hA hQ hN;((try simp(disch:=omega) only[Q1i,Op.operands,Call.operands,go_sem,W,gi,gj,gr,go_sem,List.mem_cons,List.not_mem_nil,forall_eq_or_imp,forall_eq,List.append_toArray,Option.toArray] at hA);(try simp(disch:=omega) only[go_sem,W,gi,gj,gr,List.mem_cons,List.not_mem_nil,forall_eq_or_imp,forall_eq] at hQ);(first|(revert hA;intro hA));(first|(revert hQ;intro hQ));simp(disch:=omega) only[go_sem,W,gi,gj,gr,go_sem,hA,hQ,hN];(repeat(refine ndI (by first|assumption|rfl) ?_));exact X8x _ _ _ _))));(simp(disch:=omega) only[St.eff,setO,Q0u,go_sem,W,gi,gj,gr]))|((with_reducible refine Q0w ?_ ?_ ?_ ?_);kernel_rfl;kernel_rfl;(first|kernel_rfl);intro R hR)))))
   refine Q1t pl.length (fun i=>brS X pl true i) (St.le_of (by simp[leT]) (by simp[leH,hget])) ?_
   clear wk fw rt ho cb eb sm wb
   intro i hi J hJ hJ'
   (try dsimp only at hJ ⊢)
   rcases Nat.lt_or_ge i pl.length with hlt|hge
   · obtain⟨p,hp⟩:∃x,pl[i]? = some x:=⟨_,List.getElem?_eq_getElem hlt⟩
     have k1:(decide ((i:Int)<(pl.length:Int)))=true:=decide_eq_true (by omega)
     have k2:=pl_at hp
     have k7:(i:Int)+1=((i+1:Nat):Int):=by omega
     by_cases h20:i=20
     · have k3:((i:Int)==20)=true:=by subst h20;rfl
       (have W:=ndI k1 (ndI k2 k3);(repeat(any_goals(first|((with_reducible refine Q0b ?_ ?_);rfl;intro K hK;simp(disch:=omega) only[go_sem,W];((repeat(refine ndI (by first|assumption|omega|rfl) ?_));refine hK _ ?_;clear hK K))|(with_reducible first|(refine Q0c ?_;refine hR _ ?_;clear hR R)|((first|refine Q0e ?_|refine Q0f ?_);intro J hJ hJ')|(refine Q0a ?_;intro R hR)|(refine hJ _ ?_;clear hJ hJ' J)|refine Q0h ?_|refine Q0j ?_|refine Q0q ?_)|((with_reducible refine hJ' _ _ ?_ ?_);(focus(simp;done));clear hJ hJ' J)|((with_reducible apply Q0d);rfl;rfl;all_goals(intro hc;first|(cases hc;done)|(try simp only at hc)))))))
       all_goals(refine⟨by simp,⟨_,?_,AV.le_refl _⟩,Q0g (by simp[leH,hget])⟩;simp only[Tryz.results6,resL,ldA,Q0m,go_sem])
     · have k3:((i:Int)==20)=false:=by simp;omega
       have r1:=r1 p.1 p.2
       have r2:=r2 p.1 p.2
       generalize RP p.1 p.2=v at r1 r2
       have k4:(v != v)=false:=by simp
       (have W:=ndI k1 (ndI k2 (ndI k3 (ndI k4 (ndI k7 @wrI))));(repeat(any_goals(first|((with_reducible refine Q0l ?_ ?_ ?_);rfl;rfl;intro K hK;((first|(apply Q0i (r1);rfl;rfl;rfl;rfl;exact Tryz.func33)|(apply Q0i (r2);rfl;rfl;rfl;rfl;exact Tryz.func32));kernel_rfl;rfl;(focus((simp(disch:=omega) only[go_sem,W]);(try rfl);done));(first|rfl));(simp(disch:=omega) only[go_sem,W];refine hK _ ?_;clear hK K))|((with_reducible refine Q0b ?_ ?_);rfl;intro K hK;simp(disch:=omega) only[go_sem,W];((repeat(refine ndI (by first|assumption|omega|rfl) ?_));refine hK _ ?_;clear hK K))|(with_reducible first|(refine Q0c ?_;refine hR _ ?_;clear hR R)|((first|refine Q0e ?_|refine Q0f ?_);intro J hJ hJ')|(refine Q0a ?_;intro R hR)|(refine hJ _ ?_;clear hJ hJ' J)|refine Q0h ?_)|((with_reducible refine hJ' _ _ ?_ ?_);(focus(simp;done));clear hJ hJ' J)|((with_reducible apply Q0d);rfl;rfl;all_goals(intro hc;first|(cases hc;done)|(try simp only at hc)))))))
       all_goals exact hJ _ hlt (St.le_of (by simp[leT]) (by simp[leH,hget]))
   · have k1:(decide ((i:Int)<(pl.length:Int)))=false:=decide_eq_false (by omega)
     (repeat(any_goals(first|((with_reducible refine Q0b ?_ ?_);rfl;intro K hK;simp only[go_sem,k1];((repeat(refine ndI (by first|assumption) ?_));refine hK _ ?_;clear hK K))|(with_reducible first|(refine Q0c ?_;refine hR _ ?_;clear hR R)|((first|refine Q0e ?_);intro J hJ hJ')|(refine Q0a ?_;intro R hR)|(refine hJ _ ?_;clear hJ hJ' J)|refine Q0j ?_|refine Q0q ?_)|((with_reducible refine hJ' _ _ ?_ ?_);(focus(simp;done));clear hJ hJ' J)|((with_reducible apply Q0d);rfl;rfl;all_goals(intro hc;first|(cases hc;done)|(try simp only at hc))))))
     all_goals(refine⟨by simp,⟨_,?_,AV.le_refl _⟩,Q0g (by simp[leH,hget])⟩;simp only[Tryz.results6,resL,ldA,Q0m,go_sem])
end Go.Proofs.YtgdjkkapgghdbaaGreatDoor
namespace Go.Proofs.YtgdjkkapgghdbaaGreatDoor
open Go.RowKit Go.ChangeShapes Go.WideShapes Go.ChangeAt Go.Deep
section
variable {H:Type} {enc:TypeId×Value→H} {P:Program}
def Dec{α : Type}(P:Program)(t:TypeId)(sz:Nat)(f:α→List Value)(Good:α→Prop):Prop:=
 P.cellsOf t=sz∧∀(H:Type) (enc:TypeId×Value→H) (w:World) (base:Nat) (spare:Nat→Bool) (held:Bool) (fuel:Nat) (cs:List Value) (x:DataW H×List MemPlace),
  DataW.trod enc P w base spare held fuel t cs=some x→∃a,cs=f a∧Good a
theorem X7d{t:TypeId}{k:IntKind}(ht:P.underlying t=some (.int k))(hc:P.cellsOf t=1):Dec P t 1 (fun n:Int=>[.int k n]) (fun n=>(Lit.int k n).wf=true):=
 ⟨hc,fun H enc w base spare held fuel cs x h=>by
   obtain⟨n,rfl,_,hw⟩:=DataW.trod_int ht h
   exact⟨n,rfl,hw⟩⟩
theorem X7c{α β : Type}{t:TypeId}{sz:Nat}{f:α→List Value}{G:α→Prop}(h:Dec P t sz f G){f':β→List Value}{G':β→Prop}(hg:∀a,G a→∃b,f a=f' b∧G' b):Dec P t sz f' G':=
 ⟨h.1,fun H enc w base spare held fuel cs x hx=>by
   obtain⟨a,e,g⟩:=h.2 H enc w base spare held fuel cs x hx
   obtain⟨b,e',g'⟩:=hg a g
   exact⟨b,e.trans e',g'⟩⟩
theorem wf_u64{n:Int}(h:(Lit.int .u64 n).wf=true):0≤n∧n<18446744073709551616:=by
 simp[Lit.wf,IntKind.min,IntKind.max,IntKind.signed,IntKind.bits] at h;omega
theorem wf_u8{n:Int}(h:(Lit.int .u8 n).wf=true):0≤n∧n<256:=by
 simp[Lit.wf,IntKind.min,IntKind.max,IntKind.signed,IntKind.bits] at h;omega
theorem dec_u64{t:TypeId}(ht:P.underlying t=some (.int .u64))(hc:P.cellsOf t=1):Dec P t 1 (fun n:Nat=>[.int .u64 (n:Int)]) (fun n=>n<18446744073709551616):=
 X7c (X7d ht hc) fun n h=>⟨n.toNat,by have:=wf_u64 h;rw[Int.toNat_of_nonneg (by omega)],by have:=wf_u64 h;omega⟩
theorem Q6n{α : Type}{p:Nat→α→Prop}(n:Nat)(h:∀i,i<n→∃b,p i b):∃l:List α,l.length=n∧∀i b,l[i]? = some b→p i b:=by
 induction n with
 |zero=>exact⟨[],rfl,by simp⟩
 |succ k ih=>
  obtain⟨l,hl,hp⟩:=ih fun i hi=>h i (by omega)
  obtain⟨b,hb⟩:=h k (by omega)
  refine⟨l++[b],by simp[hl],fun i b' hib=>?_⟩
  rw[List.getElem?_append] at hib
  split at hib
  · exact hp i b' hib
  · have hi0:i=k:=by
     have:=(List.getElem?_eq_some_iff.1 hib).1
     simp at this;omega
    subst hi0
    rw[hl,Nat.sub_self] at hib
    simp at hib
    subst hib
    exact hb
theorem dec_arr{α : Type}{t e:TypeId}{n sz:Nat}{f:α→List Value}{G:α→Prop}(ht:P.underlying t=some (.array n e))(hc:P.cellsOf t=n*sz)(hs:0<sz)
 (he:Dec P e sz f G) (hf:∀a,(f a).length=sz):Dec P t (n*sz) (sts f) (fun l=>l.length=n∧∀a∈l,G a):=
 ⟨hc,fun H enc w base spare held fuel cs x hx=>by
   obtain⟨xs,m,_,_,hlen,hxl,hi⟩:=DataW.trod_array ht hx
   rw[hc] at hlen
   obtain⟨l,hl,hp⟩:=Q6n (p:=fun i b=>G b∧(cs.drop (i*sz)).take sz=f b) n fun i hin=>by
    have h1:=hi i hin
    rw[he.1,List.getElem?_eq_getElem (by omega)] at h1
    obtain⟨b,hb,hg⟩:=he.2 H enc w base spare held m _ _ h1
    exact⟨b,hg,hb⟩
   refine⟨l,?_,hl,fun a ha=>?_⟩
   · apply List.ext_getElem?
     intro j
     by_cases hj:j<n*sz
     · have hq:j/sz<n:=Nat.div_lt_of_lt_mul (by rw[Nat.mul_comm];exact hj)
       have hr:j%sz<sz:=Nat.mod_lt _ hs
       have hje:j=j/sz*sz+j%sz:=by rw[Nat.mul_comm];exact(Nat.div_add_mod j sz).symm
       have hk:l[j/sz]? = some (l[j/sz]'(by omega)):=List.getElem?_eq_getElem (by omega)
       have h1:=sts_get hf hk hr
       rw[←hje] at h1
       rw[h1,←(hp _ _ hk).2,List.getElem?_take,if_pos hr,List.getElem?_drop,←hje]
     · rw[List.getElem?_eq_none (by omega),List.getElem?_eq_none (by rw[X9p f sz hf,hl];omega)]
   · obtain⟨i,hi'⟩:=List.mem_iff_getElem?.1 ha
     exact(hp i a hi').1⟩
theorem Q6r(hl:laidOutB P=true){W W':World}(hb:Below W.heap.size W W'):∀{ts:List TypeId} {vs:List Value} {ds:List (DataW H)} {ps:List MemPlace},
 (∀t∈ts,P.readableRec t=true∧t<P.types.size)→DataW.TrodAll enc P W 0 (fun _=>true) true ts vs ds ps→DataW.TrodAll enc P W' 0 (fun b=>decide (b<W.heap.size)) true ts vs ds ps
 |[],[],[],_,_,h=>h
 |t::ts,v::vs,d::ds,ps,hr,h=>by
  obtain⟨p,q,⟨m,hm⟩,hq,rfl⟩:=h
  have h1:=hr t (List.mem_cons_self ..)
  exact⟨p,q,Below.trod hl h1.1 h1.2 ⟨m,hm⟩ hb (fun x hx=>DataW.trod_lt m _ _ _ hm x hx),Q6r hl hb (fun t ht=>hr t (List.mem_cons_of_mem _ ht)) hq,rfl⟩
 |[],_::_,_,_,_,h=>h.elim
 |[],[],_::_,_,_,h=>h.elim
 |_::_,[],_,_,_,h=>h.elim
 |_::_,_::_,[],_,_,h=>h.elim
theorem Q8b:∀{w:World} {base:Nat} {spare:Nat→Bool} {held:Bool} {ts:List TypeId} {vs:List Value} {ds:List (DataW H)} {ps:List MemPlace},DataW.TrodAll enc P w base spare held ts vs ds ps→ds.length=ts.length
 |_,_,_,_,[],[],[],_,_=>rfl
 |_,_,_,_,t::ts,v::vs,d::ds,_,h=>by
  obtain⟨p,q,_,hq,_⟩:=h
  simp[Q8b hq]
 |_,_,_,_,[],_::_,_,_,h=>h.elim
 |_,_,_,_,[],[],_::_,_,h=>h.elim
 |_,_,_,_,_::_,[],_,_,h=>h.elim
 |_,_,_,_,_::_,_::_,[],_,h=>h.elim
theorem law_post{W:World}{args:Array Value}{ds gs:List (DataW H)}{before:List MemPlace}{fn:Func}{s:ChangeSpec}{f:Nat}{tb:TypeId}(hl:laidOutB P=true)(hvars:s.vars=[])(htb:P.underlying tb=some .bool)(hrt:fn.resultTypes = #[tb])
 (hr:∀t∈fn.params.toList,P.readableRec t=true∧t<P.types.size) (hfn:∀ds:List (DataW H),ds.length=fn.params.toList.length→s.fn H ds={results:=[.lit (.bool true)],args:=ds})
 (hW:DataW.Whole enc P fn.params.toList s.vars false W args.toList ds gs before) (hc:Calls P f args W (RetT W true)) :
 Calls P f args W fun e W'=>∃v,e = .returned v∧s.post enc P fn false true false false W args v W':=by
 refine hc.mono fun e W' h=>?_
 obtain⟨he,bel⟩:=h
 subst he
 have hW':=hW
 obtain⟨p,q,hA,hV,rfl,hfz,hnd⟩:=hW
 rw[hvars] at hV
 obtain⟨rfl,rfl⟩:=trodVars_none hV
 have hfd:=hfn ds (Q8b hA)
 refine⟨_,rfl,ds,[],p++[],[],p,[],hW',?_,?_,?_,bel.frame _,fun h=>by cases h⟩
 · rw[hrt,List.append_nil,hfd]
   exact trodAll_mk1 (shut_bool htb _)
 · rw[List.append_nil,hfd]
   exact Q6r hl bel hr hA
 · rw[hvars,List.append_nil,hfd]
   rfl
end
end Go.Proofs.YtgdjkkapgghdbaaGreatDoor
namespace Go.Proofs.YtgdjkkapgghdbaaGreatDoor
open Go.RowKit Go.ChangeShapes Go.WideShapes Go.ChangeAt Go.Deep
def DecV{α : Type}(P:Program)(t:TypeId)(sz:Nat)(g:α→List PV)(Good:α→Prop):Prop:=
 P.cellsOf t=sz∧∀(H:Type) (enc:TypeId×Value→H) (w:World) (base:Nat) (spare:Nat→Bool) (held:Bool) (fuel:Nat) (cs:List Value) (x:DataW H×List MemPlace),
  DataW.trod enc P w base spare held fuel t cs=some x→∃a,cs.length=sz∧(g a).length=sz∧(∀(j:Nat) (u:Value) (y:PV),cs[j]? = some u→(g a)[j]? = some y→RVp (fun _=>True) w u y)∧Good a
theorem Dec.toV{α : Type}{P:Program}{t:TypeId}{sz:Nat}{f:α→List Value}{G:α→Prop}(h:Dec P t sz f G)(hf:∀a,(f a).length=sz)(ho:∀a,∀u∈f a,u.oneCell'=true):DecV P t sz (fun a=>(f a).map .v) G:=
 ⟨h.1,fun H enc w base spare held fuel cs x hx=>by
   obtain⟨a,rfl,ga⟩:=h.2 H enc w base spare held fuel cs x hx
   refine⟨a,hf a,by simp[hf],fun j u y hu hy=>?_,ga⟩
   rw[List.getElem?_map,hu] at hy
   cases hy
   exact .v u (ho a u (List.mem_of_getElem? hu))⟩
theorem DecV.map{α β : Type}{P:Program}{t:TypeId}{sz:Nat}{g:α→List PV}{G:α→Prop}(h:DecV P t sz g G){g':β→List PV}{G':β→Prop}(hg:∀a,G a→∃b,g a=g' b∧G' b):DecV P t sz g' G':=
 ⟨h.1,fun H enc w base spare held fuel cs x hx=>by
   obtain⟨a,h1,h2,h3,ga⟩:=h.2 H enc w base spare held fuel cs x hx
   obtain⟨b,e,gb⟩:=hg a ga
   exact⟨b,h1,by rw[←e];exact h2,by rw[←e];exact h3,gb⟩⟩
theorem Q5a{α : Type}{P:Program}{t e:TypeId}{sz:Nat}{g:α→List PV}{G:α→Prop}(ht:P.underlying t=some (.slice e))(hc:P.cellsOf t=1)(he:DecV P e sz g G)(hs:0<sz)(hgl:∀a,(g a).length=sz) :
 DecV P t 1 (fun l:List α=>[PV.sl false sz l.length (l.flatMap g)]) (fun l=>l.length≤maxLen∧∀a∈l,G a):=
 ⟨hc,fun H enc w base spare held fuel cs x hx=>by
   rcases DataW.trod_slice ht hx with⟨rfl,_⟩|⟨a,n,c,elems,rest,m,_,rfl,_,_,hl,hm,hel,hi,_,_⟩
   · refine⟨[],rfl,rfl,fun j u y hu hy=>?_,Nat.zero_le _,by simp⟩
     cases j with
     |zero=>
      simp only[List.getElem?_cons_zero,Option.some.injEq] at hu hy
      subst hu hy
      exact .sl false sz none 0 0 [] [] (Nat.le_refl _) (Nat.zero_le _) (fun _=>rfl) (fun h=>by cases h) rfl (by simp) (fun h=>absurd rfl h) fun j u x hu=>by cases hu
     |succ j=>simp at hu
   · have key:∀i,i<n→∃b:α,G b∧∃us:List Value,us.length=sz∧(∀j,j<sz→w.cell? (a.add (i*sz+j))=us[j]?)∧∀(j:Nat) (u:Value) (y:PV),us[j]? = some u→(g b)[j]? = some y→RVp (fun _=>True) w u y:=by
      intro i hin
      have h1:=hi i hin
      rw[List.getElem?_eq_getElem (by omega)] at h1
      obtain⟨us,hcs,htr⟩:=Option.bind_eq_some_iff.1 h1
      rw[he.1] at hcs
      obtain⟨b,hb1,hb2,hb3,hG⟩:=he.2 H enc w base spare held m us _ htr
      obtain⟨_,hcl,hat⟩:=World.cells?_some hcs
      refine⟨b,hG,us,hb1,fun j hj=>?_,hb3⟩
      rw[←Go.Deep.add_add,hat j hj]
     have key2:∃l:List α,l.length=n∧∀i b,l[i]? = some b→G b∧∃us:List Value,us.length=sz∧(∀j,j<sz→w.cell? (a.add (i*sz+j))=us[j]?)∧∀(j:Nat) (u:Value) (y:PV),us[j]? = some u→(g b)[j]? = some y→RVp (fun _=>True) w u y:=
      Q6n (p:=fun i b=>G b∧∃us:List Value,us.length=sz∧(∀j,j<sz→w.cell? (a.add (i*sz+j))=us[j]?)∧∀(j:Nat) (u:Value) (y:PV),us[j]? = some u→(g b)[j]? = some y→RVp (fun _=>True) w u y) n key
     obtain⟨l,hll,hp⟩:=key2
     have hcell:∀j,j<n*sz→∃u,w.cell? (a.add j)=some u∧∀y,(l.flatMap g)[j]? = some y→RVp (fun _=>True) w u y:=fun j hjl=>by
      have hq:j/sz<n:=Nat.div_lt_of_lt_mul (by rw[Nat.mul_comm];exact hjl)
      have hr:j%sz<sz:=Nat.mod_lt _ hs
      have hj:j=j/sz*sz+j%sz:=by rw[Nat.mul_comm];exact(Nat.div_add_mod j sz).symm
      have hk:l[j/sz]? = some (l[j/sz]'(by omega)):=List.getElem?_eq_getElem (by omega)
      obtain⟨_,us,hul,hc1,hrv⟩:=hp _ _ hk
      have h1:=hc1 _ hr
      rw[←hj,List.getElem?_eq_getElem (by omega)] at h1
      refine⟨_,h1,fun y hy=>hrv (j%sz) _ y (List.getElem?_eq_getElem (by omega)) ?_⟩
      have h2:=Q4m hgl hk
      have h3:((l.flatMap g).drop (j/sz*sz)).take sz=g (l[j/sz]'(by omega)):=h2
      rw[←h3,List.getElem?_take,if_pos hr,List.getElem?_drop,←hj]
      exact hy
     have hus:∃us:List Value,us.length=n*sz∧∀j u,us[j]? = some u→w.cell? (a.add j)=some u∧∀y,(l.flatMap g)[j]? = some y→RVp (fun _=>True) w u y:=
      Q6n (p:=fun j u=>w.cell? (a.add j)=some u∧∀y,(l.flatMap g)[j]? = some y→RVp (fun _=>True) w u y) (n*sz) hcell
     obtain⟨us,husl,hu⟩:=hus
     have hfl:(l.flatMap g).length=n*sz:=by rw[Q0s hgl,hll]
     refine⟨l,rfl,rfl,fun j u y hu0 hy=>?_,by omega,fun b hb=>?_⟩
     · cases j with
       |zero=>
        simp only[List.getElem?_cons_zero,Option.some.injEq] at hu0 hy
        subst hu0 hy
        rw[hll]
        refine .sl false sz (some a) n c us _ hl hm (fun h=>by cases h) (fun h=>by cases h) (by rw[husl,hfl]) hfl (fun hne=>?_) fun j u x hj hx=>(hu j u hj).2 x hx
        obtain⟨u0,rest0,hu0⟩:=List.exists_cons_of_ne_nil hne
        have hc0:=(hu 0 u0 (by rw[hu0];rfl)).1
        rw[add_zero'] at hc0
        have hspot:=World.cell?_spot hc0
        obtain⟨ab,ao,asp⟩:=a
        simp only at hspot
        subst hspot
        exact⟨ab,ao,rfl,trivial,fun j u hj=>by have:=(hu j u hj).1;rwa [Q1u] at this⟩
       |succ j=>simp at hu0
     · obtain⟨i,hi'⟩:=List.mem_iff_getElem?.1 hb
       exact(hp i b hi').1⟩
theorem open_V{H:Type}{enc:TypeId×Value→H}{α : Type}{P:Program}{t:TypeId}{g:α→PV}{G:α→Prop}{w:World}{base:Nat}{spare:Nat→Bool}{held:Bool}{v:Value}{d:DataW H}{ps:List MemPlace}(h:DecV P t 1 (fun a=>[g a]) G)(hv:v.cells.toList=[v])(ht:DataW.Trod enc P w base spare held t v d ps)(ι : Nat→Nat×Nat×Nat) :
 ∃a,RV (fun _=>True) ι w v (.c (g a))∧G a:=by
 obtain⟨fuel,ht⟩:=ht
 obtain⟨a,_,_,h3,ga⟩:=h.2 H enc w base spare held fuel _ _ ht
 exact⟨a,.c _ _ (h3 0 v (g a) (by rw[hv];rfl) rfl),ga⟩
theorem X3a{P:Program}{t:TypeId}{k:IntKind}(ht:P.underlying t=some (.int k))(hc:P.cellsOf t=1):DecV P t 1 (fun n:Int=>[PV.v (.int k n)]) (fun n=>(Lit.int k n).wf=true):=
 ((X7d ht hc).toV (fun _=>rfl) (fun a u hu=>by simp at hu;subst hu;rfl)).map fun a ga=>⟨a,rfl,ga⟩
theorem decV_u64{P:Program}{t:TypeId}(ht:P.underlying t=some (.int .u64))(hc:P.cellsOf t=1):DecV P t 1 (fun n:Int=>[PV.v (.int .u64 n)]) (fun n=>0≤n∧n≤18446744073709551615):=
 (X3a ht hc).map fun a ga=>⟨a,rfl,by have:=wf_u64 ga;omega⟩
theorem decV_w4{P:Program}{t e:TypeId}(ht:P.underlying t=some (.array 4 e))(hc:P.cellsOf t=4*1)(he:P.underlying e=some (.int .u64))(hce:P.cellsOf e=1) :
 DecV P t 4 (fun x:Int×Int×Int×Int=>[PV.v (.int .u64 x.1),.v (.int .u64 x.2.1),.v (.int .u64 x.2.2.1),.v (.int .u64 x.2.2.2)]) (fun x=>(0≤x.1∧x.1≤18446744073709551615)∧(0≤x.2.1∧x.2.1≤18446744073709551615)∧(0≤x.2.2.1∧x.2.2.1≤18446744073709551615)∧(0≤x.2.2.2∧x.2.2.2≤18446744073709551615)):=
 ((X7c (f':=fun x:Int×Int×Int×Int=>[.int .u64 x.1,.int .u64 x.2.1,.int .u64 x.2.2.1,.int .u64 x.2.2.2]) (G':=fun x=>(0≤x.1∧x.1≤18446744073709551615)∧(0≤x.2.1∧x.2.1≤18446744073709551615)∧(0≤x.2.2.1∧x.2.2.1≤18446744073709551615)∧(0≤x.2.2.2∧x.2.2.2≤18446744073709551615)) (dec_arr (n:=4) ht hc (by omega) (dec_u64 he hce) (fun _=>rfl)) fun l ⟨hl,hg⟩=>by
   match l,hl with
   |[x,y,z,u],_=>
    have h1:=hg x (by simp)
    have h2:=hg y (by simp)
    have h3:=hg z (by simp)
    have h4:=hg u (by simp)
    exact⟨(x,y,z,u),by simp[sts],⟨by simp only;omega,by simp only;omega⟩,⟨by simp only;omega,by simp only;omega⟩,⟨by simp only;omega,by simp only;omega⟩,⟨by simp only;omega,by simp only;omega⟩⟩).toV (fun _=>rfl) (fun a u hu=>by simp at hu;rcases hu with rfl|rfl|rfl|rfl<;>rfl)).map fun a ga=>⟨a,rfl,ga⟩
open Go.RowKit Go.ChangeShapes Go.WideShapes Go.ChangeAt Go.Deep
def DecF{α : Type}(P:Program)(fs:List Field)(o sz:Nat)(g:α→List PV)(Good:α→Prop):Prop:=
 ∀(H:Type) (enc:TypeId×Value→H) (w:World) (base:Nat) (spare:Nat→Bool) (held:Bool) (fuel:Nat) (cs:List Value),o+sz≤cs.length →
  (∀f∈fs,∃x:DataW H×List MemPlace,DataW.trod enc P w base spare held fuel f.type ((cs.drop f.offset).take (P.cellsOf f.type))=some x) →
  ∃a,(g a).length=sz∧(∀(j:Nat) (u:Value) (y:PV),cs[o+j]? = some u→(g a)[j]? = some y→RVp (fun _=>True) w u y)∧Good a
theorem Q8x{α : Type}{P:Program}{f:Field}{o sz:Nat}{g:α→List PV}{G:α→Prop}(h:DecV P f.type sz g G)(ho:f.offset=o):DecF P [f] o sz g G:=by
 intro H enc w base spare held fuel cs hlen hf
 obtain⟨x,hx⟩:=hf f (by simp)
 rw[ho,h.1] at hx
 obtain⟨a,a1,a2,a3,ga⟩:=h.2 H enc w base spare held fuel _ _ hx
 refine⟨a,a2,fun j u y hu hy=>a3 j u y ?_ hy,ga⟩
 have hj:=(List.getElem?_eq_some_iff.1 hy).1
 rw[List.getElem?_take,if_pos (by omega),List.getElem?_drop]
 exact hu
theorem Q2v{α β : Type}{P:Program}{f:Field}{fs:List Field}{o s0 s1:Nat}{g:α→List PV}{g':β→List PV}{G:α→Prop}{G':β→Prop}(h:DecV P f.type s0 g G)(ho:f.offset=o)(hr:DecF P fs (o+s0) s1 g' G') :
 DecF P (f::fs) o (s0+s1) (fun x:α×β=>g x.1++g' x.2) (fun x=>G x.1∧G' x.2):=by
 intro H enc w base spare held fuel cs hlen hf
 obtain⟨a,a2,a3,ga⟩:=Q8x h ho H enc w base spare held fuel cs (by omega) (fun f' hf'=>hf f' (by simp at hf';simp[hf']))
 obtain⟨b,b2,b3,gb⟩:=hr H enc w base spare held fuel cs (by omega) (fun f' hf'=>hf f' (by simp[hf']))
 refine⟨(a,b),by simp[a2,b2],fun j u y hu hy=>?_,ga,gb⟩
 dsimp only at hy
 rw[List.getElem?_append] at hy
 split at hy
 · exact a3 j u y hu hy
 · exact b3 (j-(g a).length) u y (by rw[a2,show o+s0+(j-s0)=o+j by omega];exact hu) hy
theorem Q6m{α : Type}{P:Program}{t:TypeId}{fs:Array Field}{sz:Nat}{g:α→List PV}{G:α→Prop}(ht:P.underlying t=some (.struct fs))(hc:P.cellsOf t=sz)(h:DecF P fs.toList 0 sz g G):DecV P t sz g G:=
 ⟨hc,fun H enc w base spare held fuel cs x hx=>by
   obtain⟨xs,n,_,_,hlen,hxl,hf⟩:=DataW.trod_struct ht hx
   rw[hc] at hlen
   obtain⟨a,a2,a3,ga⟩:=h H enc w base spare held n cs (by omega) (fun f hf'=>by
    obtain⟨k,hk⟩:=List.mem_iff_getElem?.1 hf'
    have hk':fs[k]? = some f:=by rw[←Array.getElem?_toList];exact hk
    have h1:=hf k f hk'
    have hlt:=(Array.getElem?_eq_some_iff.1 hk').1
    rw[List.getElem?_eq_getElem (by omega)] at h1
    exact⟨_,h1⟩)
   exact⟨a,hlen,a2,fun j u y hu hy=>a3 j u y (by rw[Nat.zero_add];exact hu) hy,ga⟩⟩
theorem open_VA{H:Type}{enc:TypeId×Value→H}{α : Type}{P:Program}{t:TypeId}{sz:Nat}{g:α→List PV}{G:α→Prop}{w:World}{base:Nat}{spare:Nat→Bool}{held:Bool}{cs:Array Value}{d:DataW H}{ps:List MemPlace}(h:DecV P t sz g G)(ht:DataW.Trod enc P w base spare held t (.agg cs) d ps)(ι : Nat→Nat×Nat×Nat) :
 ∃a,RV (fun _=>True) ι w (.agg cs) (.agg ((g a).map .c))∧G a:=by
 obtain⟨fuel,ht⟩:=ht
 obtain⟨a,a1,a2,a3,ga⟩:=h.2 H enc w base spare held fuel _ _ ht
 have e:(Value.agg cs).cells.toList=cs.toList:=rfl
 rw[e] at a1 a3
 refine⟨a,?_,ga⟩
 have hc:cs=cs.toList.toArray:=by simp
 rw[hc]
 have key:∀(j:Nat) (u:Value) (y:PV),cs.toList[j]? = some u→(g a)[j]? = some y→RVp (fun _=>True) w u y:=a3
 refine .agg cs.toList _ (by rw[List.length_map,a1,a2]) (fun u hu=>?_) fun j u x hu hx=>?_
 · obtain⟨j,hj⟩:=List.mem_iff_getElem?.1 hu
   have hlt:=(List.getElem?_eq_some_iff.1 hj).1
   exact(key j u _ hj (List.getElem?_eq_getElem (by omega))).one
 · rw[List.getElem?_map,Option.map_eq_some_iff] at hx
   obtain⟨y,hy,rfl⟩:=hx
   exact .c _ _ (key j u y hu hy)
theorem X2h{P:Program}{w:World}{r:Reach}{base:Nat}{t:TypeId}{fs:Array Field}{v:Value}(ht:P.underlying t=some (.struct fs))(h:Value.okWide P w r base t v):∃cs,v = .agg cs:=by
 simp only[Value.okWide,ht] at h
 obtain⟨cs,h1,_⟩:=h
 exact⟨cs,h1⟩
end Go.Proofs.YtgdjkkapgghdbaaGreatDoor
namespace Go.Proofs.YtgdjkkapgghdbaaGreatDoor
open Go.RowKit
theorem word_of{a b c d:Int}(ha:0≤a∧a≤18446744073709551615)(hb:0≤b∧b≤18446744073709551615)(hc:0≤c∧c≤18446744073709551615)(hd:0≤d∧d≤18446744073709551615):∃n:Nat,n<WW∧l0 n=a∧l1 n=b∧l2 n=c∧l3 n=d:=by
 refine⟨a.toNat+18446744073709551616*(b.toNat+18446744073709551616*(c.toNat+18446744073709551616*d.toNat)),?_,?_⟩
 · show _<115792089237316195423570985008687907853269984665640564039457584007913129639936
   omega
 · obtain⟨h0,h1,h2,h3⟩:=Q4p (s0:=a.toNat) (s1:=b.toNat) (s2:=c.toNat) (s3:=d.toNat) rfl (by omega) (by omega) (by omega) (by omega)
   rw[h0,h1,h2,h3]
   exact⟨Int.toNat_of_nonneg ha.1,Int.toNat_of_nonneg hb.1,Int.toNat_of_nonneg hc.1,Int.toNat_of_nonneg hd.1⟩
def wpv(n:Nat):List PV:=[.v (.int .u64 (l0 n)),.v (.int .u64 (l1 n)),.v (.int .u64 (l2 n)),.v (.int .u64 (l3 n))]
theorem X5g:DecV Tryz.prog 35 4 wpv (fun n=>n<WW):=
 (decV_w4 Tryz.underlying35 (by kernel_rfl) Tryz.underlying22 (by kernel_rfl)).map fun x hx=>by
   obtain⟨n,hn,h0,h1,h2,h3⟩:=word_of hx.1 hx.2.1 hx.2.2.1 hx.2.2.2
   exact⟨n,by unfold wpv;rw[h0,h1,h2,h3],hn⟩
theorem Q5u:DecV Tryz.prog 23 1 apv U:=(decV_u64 Tryz.underlying23 (by kernel_rfl)).map fun a ga=>⟨a,rfl,ga⟩
theorem Z0p:DecV Tryz.prog 25 1 (fun l:List Int=>[PV.sl false 1 l.length (l.flatMap apv)]) (fun l=>l.length≤maxLen∧∀a∈l,U a):=
 Q5a Tryz.underlying25 (by kernel_rfl) Q5u (by omega) Q3s
theorem X5h:DecV Tryz.prog 5 1 bpv (fun n=>n<256):=(X3a Tryz.underlying5 (by kernel_rfl)).map fun a ga=>⟨a.toNat,by unfold bpv;rw[Int.toNat_of_nonneg (wf_u8 ga).1],by have:=wf_u8 ga;omega⟩
theorem Z0o:DecV Tryz.prog 56 1 (fun l:List Nat=>[PV.sl false 1 l.length (l.flatMap bpv)]) (fun l=>l.length≤maxLen∧∀a∈l,a<256):=
 Q5a Tryz.underlying56 (by kernel_rfl) X5h (by omega) Q2x
end Go.Proofs.YtgdjkkapgghdbaaGreatDoor
namespace Go.Proofs.YtgdjkkapgghdbaaGreatDoor
open Go.RowKit
set_option maxRecDepth 20000
theorem X4v{P:Program}{w:World}{t e:TypeId}{N fuel:Nat}{k:IntKind}{cs:List Value}{L:List Int}{p:List MemPlace}(ht:P.underlying t=some (.array N e))(he:P.underlying e=some (.int k))(hc:P.cellsOf e=1)(hN:L.length=N)
 (hd:DataW.trod (fun _=>()) P w 0 (fun _=>true) false fuel t cs=some (.agg (L.map fun n=>.lit (.int k n)),p)):∀(j:Nat) (n:Int),L[j]? = some n→cs[j]? = some (Value.int k n):=by
 obtain⟨xs,m,_,ex,_,hl,hel⟩:=DataW.trod_array ht hd
 intro j n hj
 have hjN:j<N:=by rw[←hN];exact(List.getElem?_eq_some_iff.1 hj).1
 have hE:=hel j hjN
 rw[hc,Nat.mul_one,List.getElem?_eq_getElem (by omega)] at hE
 obtain⟨z,e1,e2,_⟩:=DataW.trod_int he hE
 have e3:xs.map (·.1)=L.map fun n=>.lit (.int k n):=(DataW.agg.inj (Prod.mk.inj ex).1).symm
 have e4:(xs.map (·.1))[j]? = (L.map fun n=>(DataW.lit (.int k n):DataW Unit))[j]?:=by rw[e3]
 rw[List.getElem?_map,List.getElem?_map,List.getElem?_eq_getElem (by omega:j<xs.length),hj,e2] at e4
 have hz:z=n:=by
  simp only[Option.map_some,Option.some.injEq,DataW.lit.injEq,Lit.int.injEq,true_and] at e4
  exact e4
 have h0:((cs.drop j).take 1)[0]? = some (.int k z):=by rw[e1];rfl
 rw[←hz]
 simpa using h0
theorem globs_ok{W:World}(h:laidMetH Tryz.prog Rows.rulesStakesRow.laid W):GlobOK W (fun _=>True) (fun _=>(0,0,0)) []:=by
 rw[MakeChecks.laidMetH_plain _ _ _ (by kernel_rfl)] at h
 obtain⟨ps,⟨g,t,cs,fuel,p,q,hg,ht,hv,hd,⟨g',t',cs',fuel',p',q',hg',ht',hv',hd',_,_⟩,_⟩,_,_⟩:=h
 obtain rfl:=Option.some.inj ((show Tryz.prog.globalNamed "sheafer/sponge.turns"=some 1 by kernel_rfl).symm.trans hg)
 obtain rfl:=Option.some.inj ((show(Tryz.prog.globals[1]?).map (·.type)=some 226 by kernel_rfl).symm.trans ht)
 obtain rfl:=Option.some.inj ((show Tryz.prog.globalNamed "sheafer/sponge.numbers"=some 0 by kernel_rfl).symm.trans hg')
 obtain rfl:=Option.some.inj ((show(Tryz.prog.globals[0]?).map (·.type)=some 218 by kernel_rfl).symm.trans ht')
 have k1:=X4v (L:=X0q) Tryz.underlying226 Tryz.underlying3 (by kernel_rfl) rfl hd
 have k2:=X4v (L:=Z0i) Tryz.underlying218 Tryz.underlying22 (by kernel_rfl) rfl hd'
 intro g cs0 hgl
 unfold globV globs at hgl
 simp only[List.find?_cons,List.find?_nil] at hgl
 split at hgl
 · rename_i e
   have e:0=g:=by simpa using e
   subst e
   cases hgl
   refine⟨trivial,fun r hr=>(by cases hr),by decide,by decide,fun j u hu=>?_⟩
   rw[World.var?_cell hg' hv' j]
   rw[List.getElem?_map] at hu
   cases hj:Z0i[j]? with
   |none=>rw[hj] at hu;cases hu
   |some n=>
    rw[hj] at hu
    cases hu
    have:=k2 j n hj
    simpa using this
 · split at hgl
   · rename_i e
     have e:1=g:=by simpa using e
     subst e
     cases hgl
     refine⟨trivial,fun r hr=>(by cases hr),by decide,by decide,fun j u hu=>?_⟩
     rw[World.var?_cell hg hv j]
     rw[List.getElem?_map] at hu
     cases hj:X0q[j]? with
     |none=>rw[hj] at hu;cases hu
     |some n=>
      rw[hj] at hu
      cases hu
      have:=k1 j n hj
      simpa using this
   · cases hgl
theorem decV_bool{P:Program}{t:TypeId}(ht:P.underlying t=some .bool)(hc:P.cellsOf t=1):DecV P t 1 (fun b:Bool=>[PV.v (.bool b)]) (fun _=>True):=
 ⟨hc,fun H enc w base spare held fuel cs x hx=>by
   obtain⟨b,h,_⟩:=DataW.trod_bool ht hx
   subst h
   refine⟨b,rfl,rfl,fun j u y hu hy=>?_,trivial⟩
   cases j with
   |zero=>simp at hu hy;subst hu hy;exact .v _ rfl
   |succ j=>simp at hu⟩
theorem X3b:DecV Tryz.prog 3 1 (fun n:Int=>[PV.v (.int .i64 n)]) (fun n=>(Lit.int IntKind.i64 n).wf=true):=X3a Tryz.underlying3 (by kernel_rfl)
theorem decV_ev:DecV Tryz.prog 58 14 Ev.pv Ev.raw:=
 (Q6m (sz:=1+(1+(1+(1+(1+(4+(4+1))))))) Tryz.underlying58 (by kernel_rfl) (Q2v X3b rfl (Q2v X3b rfl (Q2v Q5u rfl (Q2v Q5u rfl (Q2v X5h rfl (Q2v X5g rfl (Q2v X5g rfl (Q8x Z0o rfl))))))))).map fun x hx=>
   ⟨⟨x.1,x.2.1,x.2.2.1,x.2.2.2.1,x.2.2.2.2.1,x.2.2.2.2.2.1,x.2.2.2.2.2.2.1,x.2.2.2.2.2.2.2⟩,rfl,⟨hx.2.2.2.2.2.1,hx.2.2.2.2.2.2.1,hx.2.2.2.2.2.2.2.1,hx.2.2.2.2.2.2.2.2,hx.2.2.1,hx.2.2.2.1⟩⟩
theorem decV_evs:DecV Tryz.prog 52 1 (fun l:List Ev=>[PV.sl false 14 l.length (l.flatMap Ev.pv)]) (fun l=>l.length≤maxLen∧∀e∈l,e.raw):=
 Q5a Tryz.underlying52 (by kernel_rfl) decV_ev (by omega) Q9v
theorem decV_ph:DecV Tryz.prog 54 4 Ph.pv Ph.raw:=
 (Q6m (sz:=1+(1+(1+1))) Tryz.underlying54 (by kernel_rfl) (Q2v X3b rfl (Q2v Q5u rfl (Q2v (decV_bool Tryz.underlying4 (by kernel_rfl)) rfl (Q8x decV_evs rfl))))).map fun x hx=>
   ⟨⟨x.1,x.2.1,x.2.2.1,x.2.2.2⟩,rfl,⟨hx.2.1,hx.2.2.2.1,hx.2.2.2.2⟩⟩
theorem decV_phs:DecV Tryz.prog 24 1 (fun l:List Ph=>[PV.sl false 4 l.length (l.flatMap Ph.pv)]) (fun l=>l.length≤maxLen∧∀p∈l,p.raw):=
 Q5a Tryz.underlying24 (by kernel_rfl) decV_ph (by omega) X1a
def Cs.pv(c:Cs):List PV:=[.v (.int .u64 c.snd),.sl false 4 c.ph.length (c.ph.flatMap Ph.pv),.sl false 1 c.cd.length (c.cd.flatMap apv)]
theorem decV_case:DecV Tryz.prog 27 3 Cs.pv Cs.raw:=
 (Q6m (sz:=1+(1+1)) Tryz.underlying27 (by kernel_rfl) (Q2v Q5u rfl (Q2v decV_phs rfl (Q8x Z0p rfl)))).map fun x hx=>
   ⟨⟨x.1,x.2.1,x.2.2⟩,rfl,⟨hx.1,hx.2.1,hx.2.2.1,hx.2.2.2⟩⟩
end Go.Proofs.YtgdjkkapgghdbaaGreatDoor
namespace Go.Proofs.YtgdjkkapgghdbaaGreatDoor
open Go.RowKit
theorem cutC_all2(c:Cs):((cutC c).ph.flatMap Ph.tr).length≤240:=by
 have h4:=X3d c
 have key:∀l:List Ph,(∀p∈l,p.tr.length≤60)→(l.flatMap Ph.tr).length≤l.length*60:=by
  intro l
  induction l with
  |nil=>intro _;exact Nat.le_refl _
  |cons p l ih=>
   intro h
   have h1:=h p (by simp)
   have h2:=ih fun q hq=>h q (by simp[hq])
   simp only[List.flatMap_cons,List.length_append,List.length_cons]
   omega
 have h:=key (cutC c).ph fun p hp=>by
  obtain⟨q,_,rfl⟩:=List.mem_map.1 hp
  show((q.tr.take 60).map cutE).length≤60
  rw[List.length_map,List.length_take];omega
 omega
theorem rbreak_fn(x:Cs)(hx:x.raw)(pl:List (Int×Int))(hpl:pl.length≤maxLen):Fn Tryz.prog 6 [csA x,pls false pl] [] (vb true) []:=by
 have hc:=cutC_ok hx
 have hal:=cutC_all2 x
 have h4:=X3d x
 generalize hX:cutC x=X at hc hal h4
 have fw:=few_fn x hx
 rw[hX] at fw
 have bl:(brkC X).length≤maxLen:=by
  have h:=Q9a (Q5l X) X.ph 0 fun p hp=>(hc.2.1.2 p hp).2.1
  unfold brkC
  have:maxLen=9223372036854775807:=rfl
  omega
 have sm:=X9s X X hc hc
 rw[decide_eq_true rfl] at sm
 have eb:=eqBk_fn false false (brkC X) (brkC X) bl bl
 rw[decide_eq_true rfl] at eb
 have ho:=X2o X hc
 refine break_fnE x X pl (Nat.lt_succ_of_le hpl) fw (Q2z X) (brkC X) (Q6v X) (X5z X hc) (fun h=>Z0f X hc h (by omega) (by omega)) ?_ ?_ eb sm (fun i j=>?_) (fun h i j=>X8c X hc h (by omega) i j)
 · exact broken_fn X hc
 · have e1:Q5s X=if Q2z X=true then fstB (brkC X) else⟨0,0,0⟩:=by
    unfold Q5s Q6p fstB
    cases Q2z X<;>rfl
   have e2:Q5r X=if Q2z X=true then fstE (brkC X) else 320:=by
    unfold Q5r fstE
    rfl
   rw[e1,e2] at ho
   exact ho
 · have h:=Rule_fn X hc i j
   cases hr:Q2z X with
   |false=>
    have e:Q6v X i j=0:=by unfold Q6v;rw[hr];simp
    rw[e] at h
    simpa using h
   |true=>simpa using h
theorem Z0n:DecV Tryz.prog 70 2 plv (fun _=>True):=
 ((X7c (f':=fun x:Int×Int=>[.int .i64 x.1,.int .i64 x.2]) (G':=fun _=>True) (dec_arr (n:=2) Tryz.underlying70 (by kernel_rfl) (by omega) (X7d Tryz.underlying3 (by kernel_rfl)) (fun _=>rfl)) fun l ⟨hl,hg⟩=>by
   match l,hl with
   |[x,y],_=>exact⟨(x,y),by simp[sts],trivial⟩).toV (fun _=>rfl) (fun a u hu=>by simp at hu;rcases hu with rfl|rfl<;>rfl)).map fun a ga=>⟨a,rfl,trivial⟩
theorem X7e:DecV Tryz.prog 68 1 (fun l:List (Int×Int)=>[PV.sl false 2 l.length (l.flatMap plv)]) (fun l=>l.length≤maxLen∧∀p∈l,True):=
 Q5a Tryz.underlying68 (by kernel_rfl) Z0n (by omega) plv_len
theorem law_break{x:Cs}{l:List (Int×Int)}{v u:Value}{W:World}(hL:laidMetH Tryz.prog Rows.rulesBreakRow.laid W)(h1:RV (fun _=>True) (fun _=>(0,0,0)) W v (.agg (x.pv.map .c)))(g1:x.raw)(h2:RV (fun _=>True) (fun _=>(0,0,0)) W u (pls false l))(g2:l.length≤maxLen∧∀p∈l,True):Calls Tryz.prog 6 #[v,u] W (RetT W true):=by
 refine Fn.law (rbreak_fn x g1 l g2.1) (vs:=[_,_]) rfl (fun j v x hj hx=>?_) (globs_ok hL)
 rcases j with _|_|j
 · cases hj;cases hx;exact h1
 · cases hj;cases hx;exact h2
 · simp at hj
end Go.Proofs.YtgdjkkapgghdbaaGreatDoor
namespace Go.Proofs.YtgdjkkapgghdbaaGreatDoor.rulesBreakDone
open Go.RowKit Go.ChangeShapes Go.WideShapes Go.ChangeAt
theorem own:ownKnob Tryz.prog.godebug=none:=by kernel_rfl
theorem laidOut:laidOutB Tryz.prog=true:=by kernel_rfl
theorem reads:∀t∈Tryz.f6.params.toList,Tryz.prog.readableRec t=true∧t<Tryz.prog.types.size:=by
 rw[Tryz.params6]
 intro t ht
 simp only[List.mem_cons,List.not_mem_nil,or_false] at ht
 rcases ht with rfl|rfl
 · exact⟨by kernel_rfl,of_decide_eq_true (by kernel_rfl)⟩
 · exact⟨by kernel_rfl,of_decide_eq_true (by kernel_rfl)⟩
set_option maxRecDepth 100000 in
theorem lifted(os:Os)(started:os.Started)(H:Type)(enc:TypeId×Value→H) :
 ReturnsInHanded {} Tryz.checked os 6 .any (fun w args=>(Rows.rulesBreakSpec.pre enc Tryz.prog Tryz.f6 Rows.rulesBreakRow.domain false w args∧laidMetH Tryz.prog Rows.rulesBreakRow.laid w)∧sizedMet enc Tryz.prog Tryz.f6 (OpenSpec.ofChange Rows.rulesBreakSpec) false w args)
  (Rows.rulesBreakSpec.post enc Tryz.prog Tryz.f6 false true false false):=by
 refine returnsInHanded_of_change_and (C:=Tryz.checked) (X:=fun w _=>laidMetH Tryz.prog Rows.rulesBreakRow.laid w) (fun _ _ _ hh h=>h.of_heap hh) own started (by kernel_rfl) Tryz.func6
  (ChangeSpec.witness_shaped (enc:=enc) (C:=Tryz.checked) (os:=os) (X:=fun w _=>laidMetH Tryz.prog Rows.rulesBreakRow.laid w) false (World.laidAll Tryz.prog os Rows.rulesBreakRow.laid) #[.agg #[.int .u64 0,.slice none 0 0,.slice none 0 0],.slice none 0 0] 8 (World.laidAll_os _ _ _)
    (World.shaped_of_ZipB (by kernel_rfl) (by kernel_rfl)) (by kernel_rfl) (by kernel_rfl) (by kernel_rfl)
    (by rw[MakeChecks.laidMetH_plain _ _ _ (by kernel_rfl)];exact laidMet_laidAll _ (by kernel_rfl) (by kernel_rfl))) ?_
 intro W base args ds gs before hval0 hW hc _ hL _
 have hval:∀(j:Nat) t v,Tryz.f6.params[j]? = some t→args[j]? = some v→Value.okWide Tryz.prog W .any base t v:=hval0
 refine law_post (P:=Tryz.prog) laidOut rfl Tryz.underlying4 rfl reads (fun ds hds=>by
  match ds,hds with
  |[d1,d2],_=>rfl) hW ?_
 obtain⟨p,q,hA0,hV,rfl,hfz,hnd⟩:=hW
 have hA:DataW.TrodAll enc Tryz.prog W 0 (fun _=>true) true Tryz.f6.params.toList args.toList ds p:=hA0
 rw[Tryz.params6] at hA hval
 obtain⟨v0,vs0,d0,ds0,p0,q0,hargs,rfl,rfl,h0,r0⟩:=trodAll_cons hA
 obtain⟨v1,vs1,d1,ds1,p1,q1,rfl,rfl,rfl,h1,r1⟩:=trodAll_cons r0
 obtain⟨rfl,rfl,rfl⟩:=trodAll_nil r1
 obtain rfl:args = #[v0,v1]:=by cases args;simp_all
 obtain⟨cs0,rfl⟩:=X2h Tryz.underlying27 (hval 0 27 v0 rfl rfl)
 obtain⟨l0,hr0,hg0⟩:=open_VA decV_case h0 (fun _=>(0,0,0))
 obtain⟨a1,n1,c1,rfl⟩:=okWide_slice Tryz.underlying68 (hval 1 68 v1 rfl rfl)
 obtain⟨l1,hr1,hg1⟩:=open_V X7e rfl h1 (fun _=>(0,0,0))
 exact law_break hL hr0 hg0 hr1 hg1
theorem over:Rows.rulesBreakRow.holds Tryz.pinned (OpenSpec.ofChange Rows.rulesBreakSpec):=
 OpenClaim.holds_of_wide 6 Tryz.f6 rfl rfl rfl rfl rfl rfl rfl ⟨rfl,rfl,rfl,rfl,rfl⟩ rfl rfl rfl rfl rfl (by kernel_rfl) Tryz.func6 (by kernel_rfl)
  (of_decide_eq_true (by kernel_rfl)) (by unfold Func.isWrapper;first|(rw[if_neg (by decide +kernel)];exact⟨rfl,rfl⟩))
  (fun os started H enc _=>lifted os started H enc)
theorem proved:Rows.RulesBreakCardSaid:=
 Claim7.holds_tied_plain_at .later [] [.data,.data] true (true,"a150a5b31adb93ccbb9ef4361850544d6216e7c5fd079ae8296263779298e5e9") false over (fun _ h=>by cases h) (by kernel_rfl) (fun _ h=>by cases h) rulesBreak_row_tie rfl ⟨rfl,rfl⟩ (by kernel_rfl) rfl
  (fun f fn hf hfn=>by
    obtain rfl:f=6:=Option.some.inj ((show Tryz.prog.funcNamed "sheafer/sheaferlaw22.RulesBreak"=some 6 by kernel_rfl).symm.trans hf) |>.symm
    obtain rfl:fn=Tryz.f6:=(Option.some.inj (Tryz.func6.symm.trans hfn)).symm
    exact⟨by kernel_rfl,fun j t ht=>by
     rw[Tryz.params6] at ht
     have hm:t∈[27,68]:=by simpa using Array.mem_of_getElem? ht
     have hall:([27,68].all fun u=>!Tryz.prog.wantsStandIn u)=true:=by kernel_rfl
     exact(show Tryz.prog.wantsStandIn t=false by simpa using List.all_eq_true.1 hall t hm)⟩)
  (by kernel_rfl)
end Go.Proofs.YtgdjkkapgghdbaaGreatDoor.rulesBreakDone
