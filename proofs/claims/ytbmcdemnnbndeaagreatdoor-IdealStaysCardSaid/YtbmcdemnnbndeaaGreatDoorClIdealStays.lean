/-
  Proved: the tied card of the law IdealStays: it answers true for every world, message, and time, and its arguments read behind the call as before. Conditions: the package variable that the row lists holds what the program lays into it (tied to its text).
-/
import Derived.Test.YtbmcdemnnbndeaaGreatDoorXc
import Derived.Test.YtbmcdemnnbndeaaGreatDoorAvCe
import Derived.Test.YtbmcdemnnbndeaaGreatDoorRows
import Derived.OpenShut
import Derived.MakeChecks
import Derived.Test.YtbmcdemnnbndeaaGreatDoorTie
import Derived.Test.YtbmcdemnnbndeaaGreatDoorCards
import Derived.ProofKit
import Derived.LaidMore
import Derived.Lay
import Derived.SevenTiedAt
import Derived.Stop.Joined
set_option linter.unusedSimpArgs false
set_option linter.unusedVariables false
namespace Go.Proofs.YtbmcdemnnbndeaaGreatDoor
open Go.RowKit
open Nat (reduceBEq)
set_option maxRecDepth 20000
set_option maxHeartbeats 4000000
abbrev NatR(w:Wl)(m:Ms)(now:Int)(s2:List Ac)(lm:List lg.Hd)(G:Prop):Prop:=
 Fn Tryz.prog 47 [wlA w,msA m,vi .u64 now] [] (.tup [wlA w,vb false]) []∨(G∧Fn Tryz.prog 47 [wlA w,msA m,vi .u64 now] [] (.tup [wlA ⟨s2,lm,w.N⟩,vb true]) [])
theorem nat_k5(w:Wl)(m:Ms)(now:Int)(s1 s2:List Ac)(lm:List lg.Hd)(e1 e2 e3:Int)(aq:Fn Tryz.prog 73 [bsl false m.inp] [] (.tup [vi .i64 5,vb true]) [])(m1:Fn Tryz.prog 9 [stA false w.S,vi .u64 m.fr,vi .u64 1,wN m.v] [] (.tup [stA false s1,vi .i64 e1]) [])(le:Fn Tryz.prog 74 [lg.lg false w.L,vi .u64 m.fr,wN m.v] [] (.tup [lg.lg false lm,vi .i64 e2]) [])(m2:Fn Tryz.prog 9 [stA false s1,vi .u64 1,vi .u64 m.fr,wN 0] [] (.tup [stA false s2,vi .i64 e3]) []) :
 NatR w m now s2 lm (e1=0∧e2=0∧e3=0):=by
 obtain⟨S,L,N⟩:=w
 obtain⟨fr,to,v,inp,gas,st⟩:=m
 dsimp only at *
 simp only[wN,w4,Q2q,Q2p,Q2o,Q2n] at m2
 cases st with
 |true=>
  left
  (refine Q0n Tryz.func47 rfl (by rfl) ?_;simp only[Tryz.ntmps47,List.length_cons,List.length_nil,Nat.reduceAdd,Nat.reduceSub,List.replicate,List.cons_append,List.nil_append])
  (repeat(any_goals(first|((with_reducible refine Q0i ?_ ?_ ?_);rfl;rfl;intro K hK;((apply Q0b (aq);rfl;rfl;rfl;rfl;exact Tryz.func73);kernel_rfl;rfl;(focus((simp(disch:=omega) only[go_sem,eq_self]);(try rfl);done));(first|rfl));(simp(disch:=omega) only[go_sem,eq_self];refine hK _ ?_;clear hK K))|((with_reducible refine Q0c ?_ ?_);rfl;intro K hK;simp(disch:=omega) only[go_sem,eq_self];((repeat(refine ndI (by first|assumption|rfl) ?_));refine hK _ ?_;clear hK K))|(with_reducible first|(refine Q0d ?_;refine hR _ ?_;clear hR R)|((first|refine Q0e ?_);intro Ψ hΨ hΨ')|(refine Q0a ?_;intro R hR)|(refine hΨ _ ?_;clear hΨ hΨ' Ψ)|refine Q0h ?_)|((with_reducible refine hΨ' _ _ ?_ ?_);(focus(simp;done));clear hΨ hΨ' Ψ)|((with_reducible apply Q2v);rfl;rfl;rfl;(try simp(disch:=omega) only[go_sem,eq_self]))|((with_reducible apply Q0s);rfl;rfl;rfl;all_goals(intro hb;first|(cases hb;done)|((try simp only[Bool.not_true,Bool.not_false] at hb);(first|((with_reducible intro K hK);simp(disch:=omega) only[go_sem,eq_self];((repeat(refine ndI (by first|assumption|rfl) ?_));refine hK _ ?_;clear hK K))|((fail_if_success (with_reducible intro _));simp(disch:=omega) only[go_sem,eq_self])))))|((with_reducible apply Q0f);rfl;rfl;all_goals(intro hc;first|(cases hc;done)|(try simp only at hc))))))
  all_goals(refine⟨by simp,⟨_,?_,AV.le_refl _⟩,Q0g (by simp[leH,hget])⟩;simp only[Tryz.results47,resL,ldA,Q0o,go_sem])
 |false=>
 by_cases h1:e1=0
 case neg=>
  have b1:(e1 != 0)=true:=by simpa using h1
  left
  (refine Q0n Tryz.func47 rfl (by rfl) ?_;simp only[Tryz.ntmps47,List.length_cons,List.length_nil,Nat.reduceAdd,Nat.reduceSub,List.replicate,List.cons_append,List.nil_append])
  (repeat(any_goals(first|((with_reducible refine Q0i ?_ ?_ ?_);rfl;rfl;intro K hK;((first|(apply Q0b (aq);rfl;rfl;rfl;rfl;exact Tryz.func73)|(apply Q0b (m1);rfl;rfl;rfl;rfl;exact Tryz.func9));kernel_rfl;rfl;(focus((simp(disch:=omega) only[go_sem,b1]);(try rfl);done));(first|rfl));(simp(disch:=omega) only[go_sem,b1];refine hK _ ?_;clear hK K))|((with_reducible refine Q0c ?_ ?_);rfl;intro K hK;simp(disch:=omega) only[go_sem,b1];((repeat(refine ndI (by first|assumption|rfl) ?_));refine hK _ ?_;clear hK K))|(with_reducible first|(refine Q0d ?_;refine hR _ ?_;clear hR R)|((first|refine Q0e ?_);intro Ψ hΨ hΨ')|(refine Q0a ?_;intro R hR)|(refine hΨ _ ?_;clear hΨ hΨ' Ψ)|refine Q0j ?_|refine Q0h ?_)|((with_reducible refine hΨ' _ _ ?_ ?_);(focus(simp;done));clear hΨ hΨ' Ψ)|((with_reducible apply Q0s);rfl;rfl;rfl;all_goals(intro hb;first|(cases hb;done)|((try simp only[Bool.not_true,Bool.not_false] at hb);(first|((with_reducible intro K hK);simp(disch:=omega) only[go_sem,b1];((repeat(refine ndI (by first|assumption|rfl) ?_));refine hK _ ?_;clear hK K))|((fail_if_success (with_reducible intro _));simp(disch:=omega) only[go_sem,b1])))))|((with_reducible apply Q0f);rfl;rfl;all_goals(intro hc;first|(cases hc;done)|(try simp only at hc))))))
  all_goals(refine⟨by simp,⟨_,?_,AV.le_refl _⟩,Q0g (by simp[leH,hget])⟩;simp only[Tryz.results47,resL,ldA,Q0o,go_sem])
 subst h1
 by_cases h2:e2=0
 case neg=>
  have b2:(e2==0)=false:=by simpa using h2
  have b2':(e2 != 0)=true:=by simpa using h2
  left
  (refine Q0n Tryz.func47 rfl (by rfl) ?_;simp only[Tryz.ntmps47,List.length_cons,List.length_nil,Nat.reduceAdd,Nat.reduceSub,List.replicate,List.cons_append,List.nil_append])
  (repeat(any_goals(first|((with_reducible refine Q0i ?_ ?_ ?_);rfl;rfl;intro K hK;((first|(apply Q0b (aq);rfl;rfl;rfl;rfl;exact Tryz.func73)|(apply Q0b (m1);rfl;rfl;rfl;rfl;exact Tryz.func9)|(apply Q0b (le);rfl;rfl;rfl;rfl;exact Tryz.func74));kernel_rfl;rfl;(focus((simp(disch:=omega) only[go_sem,b2,b2']);(try rfl);done));(first|rfl));(simp(disch:=omega) only[go_sem,b2,b2'];refine hK _ ?_;clear hK K))|((with_reducible refine Q0c ?_ ?_);rfl;intro K hK;simp(disch:=omega) only[go_sem,b2,b2'];((repeat(refine ndI (by first|assumption|rfl) ?_));refine hK _ ?_;clear hK K))|(with_reducible first|(refine Q0d ?_;refine hR _ ?_;clear hR R)|((first|refine Q0e ?_|refine Q0l ?_);intro Ψ hΨ hΨ')|(refine Q0a ?_;intro R hR)|(refine hΨ _ ?_;clear hΨ hΨ' Ψ)|refine Q0j ?_|refine Q0h ?_)|((with_reducible refine hΨ' _ _ ?_ ?_);(focus(simp;done));clear hΨ hΨ' Ψ)|((with_reducible apply Q0s);rfl;rfl;rfl;all_goals(intro hb;first|(cases hb;done)|((try simp only[Bool.not_true,Bool.not_false] at hb);(first|((with_reducible intro K hK);simp(disch:=omega) only[go_sem,b2,b2'];((repeat(refine ndI (by first|assumption|rfl) ?_));refine hK _ ?_;clear hK K))|((fail_if_success (with_reducible intro _));simp(disch:=omega) only[go_sem,b2,b2'])))))|((with_reducible apply Q0f);rfl;rfl;all_goals(intro hc;first|(cases hc;done)|(try simp only at hc))))))
  all_goals(refine⟨by simp,⟨_,?_,AV.le_refl _⟩,Q0g (by simp[leH,hget])⟩;simp only[Tryz.results47,resL,ldA,Q0o,go_sem])
 subst h2
 by_cases h3:e3=0
 case neg=>
  have b3:(e3 != 0)=true:=by simpa using h3
  left
  (refine Q0n Tryz.func47 rfl (by rfl) ?_;simp only[Tryz.ntmps47,List.length_cons,List.length_nil,Nat.reduceAdd,Nat.reduceSub,List.replicate,List.cons_append,List.nil_append])
  (repeat(any_goals(first|((with_reducible refine Q0i ?_ ?_ ?_);rfl;rfl;intro K hK;(first|((first|(apply Q0b (aq);rfl;rfl;rfl;rfl;exact Tryz.func73)|(apply Q0b (le);rfl;rfl;rfl;rfl;exact Tryz.func74));kernel_rfl;rfl;(focus((simp(disch:=omega) only[go_sem,b3]);(try rfl);done));(first|rfl))|((apply Q0b (m1);rfl;rfl;rfl;rfl;exact Tryz.func9);kernel_rfl;rfl;(focus((simp(disch:=omega) only[go_sem,b3]);(try rfl);done));(first|rfl))|((apply Q0b (m2);rfl;rfl;rfl;rfl;exact Tryz.func9);kernel_rfl;rfl;(focus((simp(disch:=omega) only[go_sem,b3]);(try rfl);done));(first|rfl)));(simp(disch:=omega) only[go_sem,b3];refine hK _ ?_;clear hK K))|((with_reducible refine Q0c ?_ ?_);rfl;intro K hK;simp(disch:=omega) only[go_sem,b3];((repeat(refine ndI (by first|assumption|rfl) ?_));refine hK _ ?_;clear hK K))|(with_reducible first|(refine Q0d ?_;refine hR _ ?_;clear hR R)|((first|refine Q0e ?_|refine Q0l ?_);intro Ψ hΨ hΨ')|(refine Q0a ?_;intro R hR)|(refine hΨ _ ?_;clear hΨ hΨ' Ψ)|refine Q0j ?_|refine Q0h ?_)|((with_reducible refine hΨ' _ _ ?_ ?_);(focus(simp;done));clear hΨ hΨ' Ψ)|((with_reducible apply Q0s);rfl;rfl;rfl;all_goals(intro hb;first|(cases hb;done)|((try simp only[Bool.not_true,Bool.not_false] at hb);(first|((with_reducible intro K hK);simp(disch:=omega) only[go_sem,b3];((repeat(refine ndI (by first|assumption|rfl) ?_));refine hK _ ?_;clear hK K))|((fail_if_success (with_reducible intro _));simp(disch:=omega) only[go_sem,b3])))))|((with_reducible apply Q0f);rfl;rfl;all_goals(intro hc;first|(cases hc;done)|(try simp only at hc))))))
  all_goals(refine⟨by simp,⟨_,?_,AV.le_refl _⟩,Q0g (by simp[leH,hget])⟩;simp only[Tryz.results47,resL,ldA,Q0o,go_sem])
 subst h3
 refine .inr ⟨⟨rfl,rfl,rfl⟩,?_⟩
 (refine Q0n Tryz.func47 rfl (by rfl) ?_;simp only[Tryz.ntmps47,List.length_cons,List.length_nil,Nat.reduceAdd,Nat.reduceSub,List.replicate,List.cons_append,List.nil_append])
 (repeat(any_goals(first|((with_reducible refine Q0i ?_ ?_ ?_);rfl;rfl;intro K hK;(first|((first|(apply Q0b (aq);rfl;rfl;rfl;rfl;exact Tryz.func73)|(apply Q0b (le);rfl;rfl;rfl;rfl;exact Tryz.func74));kernel_rfl;rfl;(focus((simp(disch:=omega) only[go_sem,eq_self]);(try rfl);done));(first|rfl))|((apply Q0b (m1);rfl;rfl;rfl;rfl;exact Tryz.func9);kernel_rfl;rfl;(focus((simp(disch:=omega) only[go_sem,eq_self]);(try rfl);done));(first|rfl))|((apply Q0b (m2);rfl;rfl;rfl;rfl;exact Tryz.func9);kernel_rfl;rfl;(focus((simp(disch:=omega) only[go_sem,eq_self]);(try rfl);done));(first|rfl)));(simp(disch:=omega) only[go_sem,eq_self];refine hK _ ?_;clear hK K))|((with_reducible refine Q0c ?_ ?_);rfl;intro K hK;simp(disch:=omega) only[go_sem,eq_self];((repeat(refine ndI (by first|assumption|rfl) ?_));refine hK _ ?_;clear hK K))|(with_reducible first|(refine Q0d ?_;refine hR _ ?_;clear hR R)|((first|refine Q0e ?_|refine Q0l ?_);intro Ψ hΨ hΨ')|(refine Q0a ?_;intro R hR)|(refine hΨ _ ?_;clear hΨ hΨ' Ψ)|refine Q0j ?_|refine Q0h ?_)|((with_reducible refine hΨ' _ _ ?_ ?_);(focus(simp;done));clear hΨ hΨ' Ψ)|((with_reducible apply Q0s);rfl;rfl;rfl;all_goals(intro hb;first|(cases hb;done)|((try simp only[Bool.not_true,Bool.not_false] at hb);(first|((with_reducible intro K hK);simp(disch:=omega) only[go_sem,eq_self];((repeat(refine ndI (by first|assumption|rfl) ?_));refine hK _ ?_;clear hK K))|((fail_if_success (with_reducible intro _));simp(disch:=omega) only[go_sem,eq_self])))))|((with_reducible apply Q0f);rfl;rfl;all_goals(intro hc;first|(cases hc;done)|(try simp only at hc)))|((with_reducible refine Q0v ?_ ?_);kernel_rfl;(with_reducible refine hR _ ?_);clear hR R)|((first|((first|((with_reducible apply Q0w);rfl;rfl));(simp(disch:=omega) only[rdE,rdOf,go_sem,eq_self];rfl);(intro τ hA hQ hN;((try simp only[Q1a,Op.operands,Call.operands,go_sem,eq_self,go_sem,List.mem_cons,List.not_mem_nil,forall_eq_or_imp,forall_eq,List.append_toArray,Option.toArray] at hA);(try simp only[go_sem,eq_self,List.mem_cons,List.not_mem_nil,forall_eq_or_imp,forall_eq] at hQ hN);(first|(revert hA;intro hA));(first|(revert hQ;intro hQ));(first|(revert hN;intro hN));simp(disch:=omega) only[go_sem,eq_self,go_sem,hA,hQ,hN];(repeat(refine ndI (by first|assumption|rfl) ?_));(first|apply Q0z|apply Q2g)))));(simp(disch:=omega) only[St.eff,setO,Q0t,go_sem,eq_self]))|((with_reducible refine Q0q ?_ ?_ ?_ ?_);kernel_rfl;kernel_rfl;(first|kernel_rfl);intro R hR))))
 all_goals(refine⟨by simp,⟨_,?_,AV.le_refl _⟩,Q0g (by simp[leH,hget])⟩;simp only[Tryz.results47,resL,ldA,Q0o,go_sem])
theorem nat_k0(w:Wl)(m:Ms)(now:Int)(s1 s2:List Ac)(lm:List lg.Hd)(e1 e2 e3:Int)(hin:1≤m.inp.length)(hin2:m.inp.length≤1000000)(aq:Fn Tryz.prog 73 [bsl false m.inp] [] (.tup [vi .i64 0,vb true]) [])(m1:Fn Tryz.prog 9 [stA false w.S,vi .u64 m.fr,vi .u64 1,wN m.v] [] (.tup [stA false s1,vi .i64 e1]) [])(to':Int)(rd:Fn Tryz.prog 75 [bsl false (m.inp.drop 1)] [] (.tup [vi .u64 to',vi .i64 0]) [])(le:Fn Tryz.prog 74 [lg.lg false w.L,vi .u64 to',wN m.v] [] (.tup [lg.lg false lm,vi .i64 e2]) [])(m2:Fn Tryz.prog 9 [stA false s1,vi .u64 1,vi .u64 m.fr,wN 0] [] (.tup [stA false s2,vi .i64 e3]) []) :
 NatR w m now s2 lm (e1=0∧e2=0∧e3=0):=by
 obtain⟨S,L,N⟩:=w
 obtain⟨fr,to,v,inp,gas,st⟩:=m
 dsimp only at *
 simp only[wN,w4,Q2q,Q2p,Q2o,Q2n] at m2
 have q1:(inp.flatMap bpv).drop 1=(inp.drop 1).flatMap bpv:=Q3v Q3f inp 1
 have q2:(inp.drop 1).length=inp.length-1:=List.length_drop
 have q4:((inp.drop 1).flatMap bpv).take (inp.length-1)=(inp.drop 1).flatMap bpv:=List.take_of_length_le (by rw[Q0u Q3f,q2];omega)
 unfold bsl at rd
 rw[q2] at rd
 cases st with
 |true=>
  left
  (refine Q0n Tryz.func47 rfl (by rfl) ?_;simp only[Tryz.ntmps47,List.length_cons,List.length_nil,Nat.reduceAdd,Nat.reduceSub,List.replicate,List.cons_append,List.nil_append])
  (repeat(any_goals(first|((with_reducible refine Q0i ?_ ?_ ?_);rfl;rfl;intro K hK;((apply Q0b (aq);rfl;rfl;rfl;rfl;exact Tryz.func73);kernel_rfl;rfl;(focus((simp(disch:=omega) only[go_sem,eq_self]);(try rfl);done));(first|rfl));(simp(disch:=omega) only[go_sem,eq_self];refine hK _ ?_;clear hK K))|((with_reducible refine Q0c ?_ ?_);rfl;intro K hK;simp(disch:=omega) only[go_sem,eq_self];((repeat(refine ndI (by first|assumption|rfl) ?_));refine hK _ ?_;clear hK K))|(with_reducible first|(refine Q0d ?_;refine hR _ ?_;clear hR R)|((first|refine Q0e ?_);intro Ψ hΨ hΨ')|(refine Q0a ?_;intro R hR)|(refine hΨ _ ?_;clear hΨ hΨ' Ψ)|refine Q0h ?_)|((with_reducible refine hΨ' _ _ ?_ ?_);(focus(simp;done));clear hΨ hΨ' Ψ)|((with_reducible apply Q2v);rfl;rfl;rfl;(try simp(disch:=omega) only[go_sem,eq_self]))|((with_reducible apply Q0s);rfl;rfl;rfl;all_goals(intro hb;first|(cases hb;done)|((try simp only[Bool.not_true,Bool.not_false] at hb);(first|((with_reducible intro K hK);simp(disch:=omega) only[go_sem,eq_self];((repeat(refine ndI (by first|assumption|rfl) ?_));refine hK _ ?_;clear hK K))|((fail_if_success (with_reducible intro _));simp(disch:=omega) only[go_sem,eq_self])))))|((with_reducible apply Q0f);rfl;rfl;all_goals(intro hc;first|(cases hc;done)|(try simp only at hc))))))
  all_goals(refine⟨by simp,⟨_,?_,AV.le_refl _⟩,Q0g (by simp[leH,hget])⟩;simp only[Tryz.results47,resL,ldA,Q0o,go_sem])
 |false=>
 by_cases h1:e1=0
 case neg=>
  have b1:(e1 != 0)=true:=by simpa using h1
  left
  (refine Q0n Tryz.func47 rfl (by rfl) ?_;simp only[Tryz.ntmps47,List.length_cons,List.length_nil,Nat.reduceAdd,Nat.reduceSub,List.replicate,List.cons_append,List.nil_append])
  (repeat(any_goals(first|((with_reducible refine Q0i ?_ ?_ ?_);rfl;rfl;intro K hK;((first|(apply Q0b (aq);rfl;rfl;rfl;rfl;exact Tryz.func73)|(apply Q0b (m1);rfl;rfl;rfl;rfl;exact Tryz.func9));kernel_rfl;rfl;(focus((simp(disch:=omega) only[go_sem,b1]);(try rfl);done));(first|rfl));(simp(disch:=omega) only[go_sem,b1];refine hK _ ?_;clear hK K))|((with_reducible refine Q0c ?_ ?_);rfl;intro K hK;simp(disch:=omega) only[go_sem,b1];((repeat(refine ndI (by first|assumption|rfl) ?_));refine hK _ ?_;clear hK K))|(with_reducible first|(refine Q0d ?_;refine hR _ ?_;clear hR R)|((first|refine Q0e ?_);intro Ψ hΨ hΨ')|(refine Q0a ?_;intro R hR)|(refine hΨ _ ?_;clear hΨ hΨ' Ψ)|refine Q0j ?_|refine Q0h ?_)|((with_reducible refine hΨ' _ _ ?_ ?_);(focus(simp;done));clear hΨ hΨ' Ψ)|((with_reducible apply Q0s);rfl;rfl;rfl;all_goals(intro hb;first|(cases hb;done)|((try simp only[Bool.not_true,Bool.not_false] at hb);(first|((with_reducible intro K hK);simp(disch:=omega) only[go_sem,b1];((repeat(refine ndI (by first|assumption|rfl) ?_));refine hK _ ?_;clear hK K))|((fail_if_success (with_reducible intro _));simp(disch:=omega) only[go_sem,b1])))))|((with_reducible apply Q0f);rfl;rfl;all_goals(intro hc;first|(cases hc;done)|(try simp only at hc))))))
  all_goals(refine⟨by simp,⟨_,?_,AV.le_refl _⟩,Q0g (by simp[leH,hget])⟩;simp only[Tryz.results47,resL,ldA,Q0o,go_sem])
 subst h1
 by_cases h2:e2=0
 case neg=>
  have b2:(e2==0)=false:=by simpa using h2
  have b2':(e2 != 0)=true:=by simpa using h2
  left
  (refine Q0n Tryz.func47 rfl (by rfl) ?_;simp only[Tryz.ntmps47,List.length_cons,List.length_nil,Nat.reduceAdd,Nat.reduceSub,List.replicate,List.cons_append,List.nil_append])
  (have W:=ndI b2 (ndI b2' (ndI q1 (ndI q2 q4)));(repeat(any_goals(first|((with_reducible refine Q0i ?_ ?_ ?_);rfl;rfl;intro K hK;((first|(apply Q0b (aq);rfl;rfl;rfl;rfl;exact Tryz.func73)|(apply Q0b (m1);rfl;rfl;rfl;rfl;exact Tryz.func9)|(apply Q0b (rd);rfl;rfl;rfl;rfl;exact Tryz.func75)|(apply Q0b (le);rfl;rfl;rfl;rfl;exact Tryz.func74));kernel_rfl;rfl;(focus((simp(disch:=omega) only[go_sem,W,Nat.mul_one,Nat.one_mul]);(try rfl);done));(first|rfl));(simp(disch:=omega) only[go_sem,W,Nat.mul_one,Nat.one_mul];refine hK _ ?_;clear hK K))|((with_reducible refine Q0c ?_ ?_);rfl;intro K hK;simp(disch:=omega) only[go_sem,W,Nat.mul_one,Nat.one_mul];((repeat(refine ndI (by first|assumption|omega|rfl) ?_));refine hK _ ?_;clear hK K))|(with_reducible first|(refine Q0d ?_;refine hR _ ?_;clear hR R)|((first|refine Q0e ?_|refine Q0l ?_);intro Ψ hΨ hΨ')|(refine Q0a ?_;intro R hR)|(refine hΨ _ ?_;clear hΨ hΨ' Ψ)|refine Q0j ?_|refine Q0h ?_)|((with_reducible refine hΨ' _ _ ?_ ?_);(focus(simp;done));clear hΨ hΨ' Ψ)|((with_reducible apply Q0s);rfl;rfl;rfl;all_goals(intro hb;first|(cases hb;done)|((try simp only[Bool.not_true,Bool.not_false] at hb);(first|((with_reducible intro K hK);simp(disch:=omega) only[go_sem,W,Nat.mul_one,Nat.one_mul];((repeat(refine ndI (by first|assumption|rfl) ?_));refine hK _ ?_;clear hK K))|((fail_if_success (with_reducible intro _));simp(disch:=omega) only[go_sem,W,Nat.mul_one,Nat.one_mul])))))|((with_reducible apply Q0f);rfl;rfl;all_goals(intro hc;first|(cases hc;done)|(try simp only at hc)))))))
  all_goals(refine⟨by simp,⟨_,?_,AV.le_refl _⟩,Q0g (by simp[leH,hget])⟩;simp only[Tryz.results47,resL,ldA,Q0o,go_sem])
 subst h2
 by_cases h3:e3=0
 case neg=>
  have b3:(e3 != 0)=true:=by simpa using h3
  left
  (refine Q0n Tryz.func47 rfl (by rfl) ?_;simp only[Tryz.ntmps47,List.length_cons,List.length_nil,Nat.reduceAdd,Nat.reduceSub,List.replicate,List.cons_append,List.nil_append])
  (have W:=ndI b3 (ndI q1 (ndI q2 q4));(repeat(any_goals(first|((with_reducible refine Q0i ?_ ?_ ?_);rfl;rfl;intro K hK;(first|((first|(apply Q0b (aq);rfl;rfl;rfl;rfl;exact Tryz.func73)|(apply Q0b (rd);rfl;rfl;rfl;rfl;exact Tryz.func75)|(apply Q0b (le);rfl;rfl;rfl;rfl;exact Tryz.func74));kernel_rfl;rfl;(focus((simp(disch:=omega) only[go_sem,W,Nat.mul_one,Nat.one_mul]);(try rfl);done));(first|rfl))|((apply Q0b (m1);rfl;rfl;rfl;rfl;exact Tryz.func9);kernel_rfl;rfl;(focus((simp(disch:=omega) only[go_sem,W,Nat.mul_one,Nat.one_mul]);(try rfl);done));(first|rfl))|((apply Q0b (m2);rfl;rfl;rfl;rfl;exact Tryz.func9);kernel_rfl;rfl;(focus((simp(disch:=omega) only[go_sem,W,Nat.mul_one,Nat.one_mul]);(try rfl);done));(first|rfl)));(simp(disch:=omega) only[go_sem,W,Nat.mul_one,Nat.one_mul];refine hK _ ?_;clear hK K))|((with_reducible refine Q0c ?_ ?_);rfl;intro K hK;simp(disch:=omega) only[go_sem,W,Nat.mul_one,Nat.one_mul];((repeat(refine ndI (by first|assumption|omega|rfl) ?_));refine hK _ ?_;clear hK K))|(with_reducible first|(refine Q0d ?_;refine hR _ ?_;clear hR R)|((first|refine Q0e ?_|refine Q0l ?_);intro Ψ hΨ hΨ')|(refine Q0a ?_;intro R hR)|(refine hΨ _ ?_;clear hΨ hΨ' Ψ)|refine Q0j ?_|refine Q0h ?_)|((with_reducible refine hΨ' _ _ ?_ ?_);(focus(simp;done));clear hΨ hΨ' Ψ)|((with_reducible apply Q0s);rfl;rfl;rfl;all_goals(intro hb;first|(cases hb;done)|((try simp only[Bool.not_true,Bool.not_false] at hb);(first|((with_reducible intro K hK);simp(disch:=omega) only[go_sem,W,Nat.mul_one,Nat.one_mul];((repeat(refine ndI (by first|assumption|rfl) ?_));refine hK _ ?_;clear hK K))|((fail_if_success (with_reducible intro _));simp(disch:=omega) only[go_sem,W,Nat.mul_one,Nat.one_mul])))))|((with_reducible apply Q0f);rfl;rfl;all_goals(intro hc;first|(cases hc;done)|(try simp only at hc)))))))
  all_goals(refine⟨by simp,⟨_,?_,AV.le_refl _⟩,Q0g (by simp[leH,hget])⟩;simp only[Tryz.results47,resL,ldA,Q0o,go_sem])
 subst h3
 refine .inr ⟨⟨rfl,rfl,rfl⟩,?_⟩
 (refine Q0n Tryz.func47 rfl (by rfl) ?_;simp only[Tryz.ntmps47,List.length_cons,List.length_nil,Nat.reduceAdd,Nat.reduceSub,List.replicate,List.cons_append,List.nil_append])
 (have W:=ndI q1 (ndI q2 q4);(repeat(any_goals(first|((with_reducible refine Q0i ?_ ?_ ?_);rfl;rfl;intro K hK;(first|((first|(apply Q0b (aq);rfl;rfl;rfl;rfl;exact Tryz.func73)|(apply Q0b (rd);rfl;rfl;rfl;rfl;exact Tryz.func75)|(apply Q0b (le);rfl;rfl;rfl;rfl;exact Tryz.func74));kernel_rfl;rfl;(focus((simp(disch:=omega) only[go_sem,W,eq_self,Nat.mul_one,Nat.one_mul]);(try rfl);done));(first|rfl))|((apply Q0b (m1);rfl;rfl;rfl;rfl;exact Tryz.func9);kernel_rfl;rfl;(focus((simp(disch:=omega) only[go_sem,W,eq_self,Nat.mul_one,Nat.one_mul]);(try rfl);done));(first|rfl))|((apply Q0b (m2);rfl;rfl;rfl;rfl;exact Tryz.func9);kernel_rfl;rfl;(focus((simp(disch:=omega) only[go_sem,W,eq_self,Nat.mul_one,Nat.one_mul]);(try rfl);done));(first|rfl)));(simp(disch:=omega) only[go_sem,W,eq_self,Nat.mul_one,Nat.one_mul];refine hK _ ?_;clear hK K))|((with_reducible refine Q0c ?_ ?_);rfl;intro K hK;simp(disch:=omega) only[go_sem,W,eq_self,Nat.mul_one,Nat.one_mul];((repeat(refine ndI (by first|assumption|omega|rfl) ?_));refine hK _ ?_;clear hK K))|(with_reducible first|(refine Q0d ?_;refine hR _ ?_;clear hR R)|((first|refine Q0e ?_|refine Q0l ?_);intro Ψ hΨ hΨ')|(refine Q0a ?_;intro R hR)|(refine hΨ _ ?_;clear hΨ hΨ' Ψ)|refine Q0j ?_|refine Q0h ?_)|((with_reducible refine hΨ' _ _ ?_ ?_);(focus(simp;done));clear hΨ hΨ' Ψ)|((with_reducible apply Q0s);rfl;rfl;rfl;all_goals(intro hb;first|(cases hb;done)|((try simp only[Bool.not_true,Bool.not_false] at hb);(first|((with_reducible intro K hK);simp(disch:=omega) only[go_sem,W,eq_self,Nat.mul_one,Nat.one_mul];((repeat(refine ndI (by first|assumption|rfl) ?_));refine hK _ ?_;clear hK K))|((fail_if_success (with_reducible intro _));simp(disch:=omega) only[go_sem,W,eq_self,Nat.mul_one,Nat.one_mul])))))|((with_reducible apply Q0f);rfl;rfl;all_goals(intro hc;first|(cases hc;done)|(try simp only at hc)))|((with_reducible refine Q0v ?_ ?_);kernel_rfl;(with_reducible refine hR _ ?_);clear hR R)|((first|((first|((with_reducible apply Q0w);rfl;rfl));(simp(disch:=omega) only[rdE,rdOf,go_sem,W,eq_self,Nat.mul_one,Nat.one_mul];rfl);(intro τ hA hQ hN;((try simp only[Q1a,Op.operands,Call.operands,go_sem,W,eq_self,Nat.mul_one,Nat.one_mul,go_sem,List.mem_cons,List.not_mem_nil,forall_eq_or_imp,forall_eq,List.append_toArray,Option.toArray] at hA);(try simp only[go_sem,W,eq_self,Nat.mul_one,Nat.one_mul,List.mem_cons,List.not_mem_nil,forall_eq_or_imp,forall_eq] at hQ hN);(first|(revert hA;intro hA));(first|(revert hQ;intro hQ));(first|(revert hN;intro hN));simp(disch:=omega) only[go_sem,W,eq_self,Nat.mul_one,Nat.one_mul,go_sem,hA,hQ,hN];(repeat(refine ndI (by first|assumption|rfl) ?_));(first|apply Q0z|apply Q2g)))));(simp(disch:=omega) only[St.eff,setO,Q0t,go_sem,W,eq_self,Nat.mul_one,Nat.one_mul]))|((with_reducible refine Q0q ?_ ?_ ?_ ?_);kernel_rfl;kernel_rfl;(first|kernel_rfl);intro R hR)))))
 all_goals(refine⟨by simp,⟨_,?_,AV.le_refl _⟩,Q0g (by simp[leH,hget])⟩;simp only[Tryz.results47,resL,ldA,Q0o,go_sem])
theorem nat_k1(w:Wl)(m:Ms)(now:Int)(s1 s2:List Ac)(lm:List lg.Hd)(e1 e2 e3:Int)(bk:Nat)(hin:1≤m.inp.length)(hin2:m.inp.length≤1000000)(aq:Fn Tryz.prog 73 [bsl false m.inp] [] (.tup [vi .i64 1,vb true]) [])(m1:Fn Tryz.prog 9 [stA false w.S,vi .u64 m.fr,vi .u64 1,wN m.v] [] (.tup [stA false s1,vi .i64 e1]) [])(rd:Fn Tryz.prog 76 [bsl false (m.inp.drop 1)] [] (.tup [wN bk,vi .i64 0]) [])(le:Fn Tryz.prog 77 [lg.lg false w.L,vi .u64 m.fr,wN bk] [] (.tup [lg.lg false lm,vi .i64 e2]) [])(m2:Fn Tryz.prog 9 [stA false s1,vi .u64 1,vi .u64 m.fr,wN bk] [] (.tup [stA false s2,vi .i64 e3]) []) :
 NatR w m now s2 lm (e1=0∧e2=0∧e3=0∧vNe m.v=false):=by
 obtain⟨S,L,N⟩:=w
 obtain⟨fr,to,v,inp,gas,st⟩:=m
 dsimp only at *
 have q1:(inp.flatMap bpv).drop 1=(inp.drop 1).flatMap bpv:=Q3v Q3f inp 1
 have q2:(inp.drop 1).length=inp.length-1:=List.length_drop
 have q4:((inp.drop 1).flatMap bpv).take (inp.length-1)=(inp.drop 1).flatMap bpv:=List.take_of_length_le (by rw[Q0u Q3f,q2];omega)
 unfold bsl at rd
 rw[q2] at rd
 cases st with
 |true=>
  left
  (refine Q0n Tryz.func47 rfl (by rfl) ?_;simp only[Tryz.ntmps47,List.length_cons,List.length_nil,Nat.reduceAdd,Nat.reduceSub,List.replicate,List.cons_append,List.nil_append])
  (repeat(any_goals(first|((with_reducible refine Q0i ?_ ?_ ?_);rfl;rfl;intro K hK;((apply Q0b (aq);rfl;rfl;rfl;rfl;exact Tryz.func73);kernel_rfl;rfl;(focus((simp(disch:=omega) only[go_sem,eq_self]);(try rfl);done));(first|rfl));(simp(disch:=omega) only[go_sem,eq_self];refine hK _ ?_;clear hK K))|((with_reducible refine Q0c ?_ ?_);rfl;intro K hK;simp(disch:=omega) only[go_sem,eq_self];((repeat(refine ndI (by first|assumption|rfl) ?_));refine hK _ ?_;clear hK K))|(with_reducible first|(refine Q0d ?_;refine hR _ ?_;clear hR R)|((first|refine Q0e ?_);intro Ψ hΨ hΨ')|(refine Q0a ?_;intro R hR)|(refine hΨ _ ?_;clear hΨ hΨ' Ψ)|refine Q0h ?_)|((with_reducible refine hΨ' _ _ ?_ ?_);(focus(simp;done));clear hΨ hΨ' Ψ)|((with_reducible apply Q2v);rfl;rfl;rfl;(try simp(disch:=omega) only[go_sem,eq_self]))|((with_reducible apply Q0s);rfl;rfl;rfl;all_goals(intro hb;first|(cases hb;done)|((try simp only[Bool.not_true,Bool.not_false] at hb);(first|((with_reducible intro K hK);simp(disch:=omega) only[go_sem,eq_self];((repeat(refine ndI (by first|assumption|rfl) ?_));refine hK _ ?_;clear hK K))|((fail_if_success (with_reducible intro _));simp(disch:=omega) only[go_sem,eq_self])))))|((with_reducible apply Q0f);rfl;rfl;all_goals(intro hc;first|(cases hc;done)|(try simp only at hc))))))
  all_goals(refine⟨by simp,⟨_,?_,AV.le_refl _⟩,Q0g (by simp[leH,hget])⟩;simp only[Tryz.results47,resL,ldA,Q0o,go_sem])
 |false=>
 have zz:vNe v = !(l0 v==0&&(l1 v==0&&(l2 v==0&&l3 v==0))):=rfl
 obtain⟨z,hz⟩:∃z,(l0 v==0&&(l1 v==0&&(l2 v==0&&l3 v==0)))=z:=⟨_,rfl⟩
 rw[hz] at zz
 cases z with
 |false=>
  left
  (refine Q0n Tryz.func47 rfl (by rfl) ?_;simp only[Tryz.ntmps47,List.length_cons,List.length_nil,Nat.reduceAdd,Nat.reduceSub,List.replicate,List.cons_append,List.nil_append])
  (repeat(any_goals(first|((with_reducible refine Q0i ?_ ?_ ?_);rfl;rfl;intro K hK;((apply Q0b (aq);rfl;rfl;rfl;rfl;exact Tryz.func73);kernel_rfl;rfl;(focus((simp(disch:=omega) only[go_sem,hz]);(try rfl);done));(first|rfl));(simp(disch:=omega) only[go_sem,hz];refine hK _ ?_;clear hK K))|((with_reducible refine Q0c ?_ ?_);rfl;intro K hK;simp(disch:=omega) only[go_sem,hz];((repeat(refine ndI (by first|assumption|rfl) ?_));refine hK _ ?_;clear hK K))|(with_reducible first|(refine Q0d ?_;refine hR _ ?_;clear hR R)|((first|refine Q0e ?_);intro Ψ hΨ hΨ')|(refine Q0a ?_;intro R hR)|(refine hΨ _ ?_;clear hΨ hΨ' Ψ)|refine Q0h ?_)|((with_reducible refine hΨ' _ _ ?_ ?_);(focus(simp;done));clear hΨ hΨ' Ψ)|((with_reducible apply Q0s);rfl;rfl;rfl;all_goals(intro hb;first|(cases hb;done)|((try simp only[Bool.not_true,Bool.not_false] at hb);(first|((with_reducible intro K hK);simp(disch:=omega) only[go_sem,hz];((repeat(refine ndI (by first|assumption|rfl) ?_));refine hK _ ?_;clear hK K))|((fail_if_success (with_reducible intro _));simp(disch:=omega) only[go_sem,hz])))))|((with_reducible apply Q0f);rfl;rfl;all_goals(intro hc;first|(cases hc;done)|(try simp only at hc))))))
  all_goals(refine⟨by simp,⟨_,?_,AV.le_refl _⟩,Q0g (by simp[leH,hget])⟩;simp only[Tryz.results47,resL,ldA,Q0o,go_sem])
 |true=>
 by_cases h1:e1=0
 case neg=>
  have b1:(e1 != 0)=true:=by simpa using h1
  left
  (refine Q0n Tryz.func47 rfl (by rfl) ?_;simp only[Tryz.ntmps47,List.length_cons,List.length_nil,Nat.reduceAdd,Nat.reduceSub,List.replicate,List.cons_append,List.nil_append])
  (repeat(any_goals(first|((with_reducible refine Q0i ?_ ?_ ?_);rfl;rfl;intro K hK;((first|(apply Q0b (aq);rfl;rfl;rfl;rfl;exact Tryz.func73)|(apply Q0b (m1);rfl;rfl;rfl;rfl;exact Tryz.func9));kernel_rfl;rfl;(focus((simp(disch:=omega) only[go_sem,b1,hz]);(try rfl);done));(first|rfl));(simp(disch:=omega) only[go_sem,b1,hz];refine hK _ ?_;clear hK K))|((with_reducible refine Q0c ?_ ?_);rfl;intro K hK;simp(disch:=omega) only[go_sem,b1,hz];((repeat(refine ndI (by first|assumption|rfl) ?_));refine hK _ ?_;clear hK K))|(with_reducible first|(refine Q0d ?_;refine hR _ ?_;clear hR R)|((first|refine Q0e ?_);intro Ψ hΨ hΨ')|(refine Q0a ?_;intro R hR)|(refine hΨ _ ?_;clear hΨ hΨ' Ψ)|refine Q0j ?_|refine Q0h ?_)|((with_reducible refine hΨ' _ _ ?_ ?_);(focus(simp;done));clear hΨ hΨ' Ψ)|((with_reducible apply Q0s);rfl;rfl;rfl;all_goals(intro hb;first|(cases hb;done)|((try simp only[Bool.not_true,Bool.not_false] at hb);(first|((with_reducible intro K hK);simp(disch:=omega) only[go_sem,b1,hz];((repeat(refine ndI (by first|assumption|rfl) ?_));refine hK _ ?_;clear hK K))|((fail_if_success (with_reducible intro _));simp(disch:=omega) only[go_sem,b1,hz])))))|((with_reducible apply Q0f);rfl;rfl;all_goals(intro hc;first|(cases hc;done)|(try simp only at hc))))))
  all_goals(refine⟨by simp,⟨_,?_,AV.le_refl _⟩,Q0g (by simp[leH,hget])⟩;simp only[Tryz.results47,resL,ldA,Q0o,go_sem])
 subst h1
 by_cases h2:e2=0
 case neg=>
  have b2:(e2==0)=false:=by simpa using h2
  have b2':(e2 != 0)=true:=by simpa using h2
  left
  (refine Q0n Tryz.func47 rfl (by rfl) ?_;simp only[Tryz.ntmps47,List.length_cons,List.length_nil,Nat.reduceAdd,Nat.reduceSub,List.replicate,List.cons_append,List.nil_append])
  (have W:=ndI b2 (ndI b2' (ndI q1 (ndI q2 q4)));(repeat(any_goals(first|((with_reducible refine Q0i ?_ ?_ ?_);rfl;rfl;intro K hK;((first|(apply Q0b (aq);rfl;rfl;rfl;rfl;exact Tryz.func73)|(apply Q0b (m1);rfl;rfl;rfl;rfl;exact Tryz.func9)|(apply Q0b (rd);rfl;rfl;rfl;rfl;exact Tryz.func76)|(apply Q0b (le);rfl;rfl;rfl;rfl;exact Tryz.func77));kernel_rfl;rfl;(focus((simp(disch:=omega) only[go_sem,W,hz,Nat.mul_one,Nat.one_mul]);(try rfl);done));(first|rfl));(simp(disch:=omega) only[go_sem,W,hz,Nat.mul_one,Nat.one_mul];refine hK _ ?_;clear hK K))|((with_reducible refine Q0c ?_ ?_);rfl;intro K hK;simp(disch:=omega) only[go_sem,W,hz,Nat.mul_one,Nat.one_mul];((repeat(refine ndI (by first|assumption|omega|rfl) ?_));refine hK _ ?_;clear hK K))|(with_reducible first|(refine Q0d ?_;refine hR _ ?_;clear hR R)|((first|refine Q0e ?_|refine Q0l ?_);intro Ψ hΨ hΨ')|(refine Q0a ?_;intro R hR)|(refine hΨ _ ?_;clear hΨ hΨ' Ψ)|refine Q0j ?_|refine Q0h ?_)|((with_reducible refine hΨ' _ _ ?_ ?_);(focus(simp;done));clear hΨ hΨ' Ψ)|((with_reducible apply Q0s);rfl;rfl;rfl;all_goals(intro hb;first|(cases hb;done)|((try simp only[Bool.not_true,Bool.not_false] at hb);(first|((with_reducible intro K hK);simp(disch:=omega) only[go_sem,W,hz,Nat.mul_one,Nat.one_mul];((repeat(refine ndI (by first|assumption|rfl) ?_));refine hK _ ?_;clear hK K))|((fail_if_success (with_reducible intro _));simp(disch:=omega) only[go_sem,W,hz,Nat.mul_one,Nat.one_mul])))))|((with_reducible apply Q0f);rfl;rfl;all_goals(intro hc;first|(cases hc;done)|(try simp only at hc)))))))
  all_goals(refine⟨by simp,⟨_,?_,AV.le_refl _⟩,Q0g (by simp[leH,hget])⟩;simp only[Tryz.results47,resL,ldA,Q0o,go_sem])
 subst h2
 by_cases h3:e3=0
 case neg=>
  have b3:(e3 != 0)=true:=by simpa using h3
  left
  (refine Q0n Tryz.func47 rfl (by rfl) ?_;simp only[Tryz.ntmps47,List.length_cons,List.length_nil,Nat.reduceAdd,Nat.reduceSub,List.replicate,List.cons_append,List.nil_append])
  (have W:=ndI b3 (ndI q1 (ndI q2 q4));(repeat(any_goals(first|((with_reducible refine Q0i ?_ ?_ ?_);rfl;rfl;intro K hK;(first|((first|(apply Q0b (aq);rfl;rfl;rfl;rfl;exact Tryz.func73)|(apply Q0b (rd);rfl;rfl;rfl;rfl;exact Tryz.func76)|(apply Q0b (le);rfl;rfl;rfl;rfl;exact Tryz.func77));kernel_rfl;rfl;(focus((simp(disch:=omega) only[go_sem,W,hz,Nat.mul_one,Nat.one_mul]);(try rfl);done));(first|rfl))|((apply Q0b (m1);rfl;rfl;rfl;rfl;exact Tryz.func9);kernel_rfl;rfl;(focus((simp(disch:=omega) only[go_sem,W,hz,Nat.mul_one,Nat.one_mul]);(try rfl);done));(first|rfl))|((apply Q0b (m2);rfl;rfl;rfl;rfl;exact Tryz.func9);kernel_rfl;rfl;(focus((simp(disch:=omega) only[go_sem,W,hz,Nat.mul_one,Nat.one_mul]);(try rfl);done));(first|rfl)));(simp(disch:=omega) only[go_sem,W,hz,Nat.mul_one,Nat.one_mul];refine hK _ ?_;clear hK K))|((with_reducible refine Q0c ?_ ?_);rfl;intro K hK;simp(disch:=omega) only[go_sem,W,hz,Nat.mul_one,Nat.one_mul];((repeat(refine ndI (by first|assumption|omega|rfl) ?_));refine hK _ ?_;clear hK K))|(with_reducible first|(refine Q0d ?_;refine hR _ ?_;clear hR R)|((first|refine Q0e ?_|refine Q0l ?_);intro Ψ hΨ hΨ')|(refine Q0a ?_;intro R hR)|(refine hΨ _ ?_;clear hΨ hΨ' Ψ)|refine Q0j ?_|refine Q0h ?_)|((with_reducible refine hΨ' _ _ ?_ ?_);(focus(simp;done));clear hΨ hΨ' Ψ)|((with_reducible apply Q0s);rfl;rfl;rfl;all_goals(intro hb;first|(cases hb;done)|((try simp only[Bool.not_true,Bool.not_false] at hb);(first|((with_reducible intro K hK);simp(disch:=omega) only[go_sem,W,hz,Nat.mul_one,Nat.one_mul];((repeat(refine ndI (by first|assumption|rfl) ?_));refine hK _ ?_;clear hK K))|((fail_if_success (with_reducible intro _));simp(disch:=omega) only[go_sem,W,hz,Nat.mul_one,Nat.one_mul])))))|((with_reducible apply Q0f);rfl;rfl;all_goals(intro hc;first|(cases hc;done)|(try simp only at hc)))))))
  all_goals(refine⟨by simp,⟨_,?_,AV.le_refl _⟩,Q0g (by simp[leH,hget])⟩;simp only[Tryz.results47,resL,ldA,Q0o,go_sem])
 subst h3
 refine .inr ⟨⟨rfl,rfl,rfl,zz⟩,?_⟩
 (refine Q0n Tryz.func47 rfl (by rfl) ?_;simp only[Tryz.ntmps47,List.length_cons,List.length_nil,Nat.reduceAdd,Nat.reduceSub,List.replicate,List.cons_append,List.nil_append])
 (have W:=ndI q1 (ndI q2 q4);(repeat(any_goals(first|((with_reducible refine Q0i ?_ ?_ ?_);rfl;rfl;intro K hK;(first|((first|(apply Q0b (aq);rfl;rfl;rfl;rfl;exact Tryz.func73)|(apply Q0b (rd);rfl;rfl;rfl;rfl;exact Tryz.func76)|(apply Q0b (le);rfl;rfl;rfl;rfl;exact Tryz.func77));kernel_rfl;rfl;(focus((simp(disch:=omega) only[go_sem,W,hz,Nat.mul_one,Nat.one_mul]);(try rfl);done));(first|rfl))|((apply Q0b (m1);rfl;rfl;rfl;rfl;exact Tryz.func9);kernel_rfl;rfl;(focus((simp(disch:=omega) only[go_sem,W,hz,Nat.mul_one,Nat.one_mul]);(try rfl);done));(first|rfl))|((apply Q0b (m2);rfl;rfl;rfl;rfl;exact Tryz.func9);kernel_rfl;rfl;(focus((simp(disch:=omega) only[go_sem,W,hz,Nat.mul_one,Nat.one_mul]);(try rfl);done));(first|rfl)));(simp(disch:=omega) only[go_sem,W,hz,Nat.mul_one,Nat.one_mul];refine hK _ ?_;clear hK K))|((with_reducible refine Q0c ?_ ?_);rfl;intro K hK;simp(disch:=omega) only[go_sem,W,hz,Nat.mul_one,Nat.one_mul];((repeat(refine ndI (by first|assumption|omega|rfl) ?_));refine hK _ ?_;clear hK K))|(with_reducible first|(refine Q0d ?_;refine hR _ ?_;clear hR R)|((first|refine Q0e ?_|refine Q0l ?_);intro Ψ hΨ hΨ')|(refine Q0a ?_;intro R hR)|(refine hΨ _ ?_;clear hΨ hΨ' Ψ)|refine Q0j ?_|refine Q0h ?_)|((with_reducible refine hΨ' _ _ ?_ ?_);(focus(simp;done));clear hΨ hΨ' Ψ)|((with_reducible apply Q0s);rfl;rfl;rfl;all_goals(intro hb;first|(cases hb;done)|((try simp only[Bool.not_true,Bool.not_false] at hb);(first|((with_reducible intro K hK);simp(disch:=omega) only[go_sem,W,hz,Nat.mul_one,Nat.one_mul];((repeat(refine ndI (by first|assumption|rfl) ?_));refine hK _ ?_;clear hK K))|((fail_if_success (with_reducible intro _));simp(disch:=omega) only[go_sem,W,hz,Nat.mul_one,Nat.one_mul])))))|((with_reducible apply Q0f);rfl;rfl;all_goals(intro hc;first|(cases hc;done)|(try simp only at hc)))|((with_reducible refine Q0v ?_ ?_);kernel_rfl;(with_reducible refine hR _ ?_);clear hR R)|((first|((first|((with_reducible apply Q0w);rfl;rfl));(simp(disch:=omega) only[rdE,rdOf,go_sem,W,hz,Nat.mul_one,Nat.one_mul];rfl);(intro τ hA hQ hN;((try simp only[Q1a,Op.operands,Call.operands,go_sem,W,hz,Nat.mul_one,Nat.one_mul,go_sem,List.mem_cons,List.not_mem_nil,forall_eq_or_imp,forall_eq,List.append_toArray,Option.toArray] at hA);(try simp only[go_sem,W,hz,Nat.mul_one,Nat.one_mul,List.mem_cons,List.not_mem_nil,forall_eq_or_imp,forall_eq] at hQ hN);(first|(revert hA;intro hA));(first|(revert hQ;intro hQ));(first|(revert hN;intro hN));simp(disch:=omega) only[go_sem,W,hz,Nat.mul_one,Nat.one_mul,go_sem,hA,hQ,hN];(repeat(refine ndI (by first|assumption|rfl) ?_));(first|apply Q0z|apply Q2g)))));(simp(disch:=omega) only[St.eff,setO,Q0t,go_sem,W,hz,Nat.mul_one,Nat.one_mul]))|((with_reducible refine Q0q ?_ ?_ ?_ ?_);kernel_rfl;kernel_rfl;(first|kernel_rfl);intro R hR)))))
 all_goals(refine⟨by simp,⟨_,?_,AV.le_refl _⟩,Q0g (by simp[leH,hget])⟩;simp only[Tryz.results47,resL,ldA,Q0o,go_sem])
theorem nat_k2(w:Wl)(m:Ms)(now:Int)(s1 s2:List Ac)(lm:List lg.Hd)(e1 e2 e3:Int)(hin:1≤m.inp.length)(hin2:m.inp.length≤1000000)(aq:Fn Tryz.prog 73 [bsl false m.inp] [] (.tup [vi .i64 2,vb true]) [])(m1:Fn Tryz.prog 9 [stA false w.S,vi .u64 m.fr,vi .u64 1,wN m.v] [] (.tup [stA false s1,vi .i64 e1]) [])(y:Int)(rd:Fn Tryz.prog 79 [bsl false (m.inp.drop 1)] [] (vi .u64 y) [])(le:Fn Tryz.prog 78 [lg.lg false w.L,vi .u64 m.fr,wN m.v,vi .u64 y] [] (.tup [lg.lg false lm,vi .i64 e2]) [])(m2:Fn Tryz.prog 9 [stA false s1,vi .u64 1,vi .u64 m.fr,wN 0] [] (.tup [stA false s2,vi .i64 e3]) []) :
 NatR w m now s2 lm (e1=0∧e2=0∧e3=0):=by
 obtain⟨S,L,N⟩:=w
 obtain⟨fr,to,v,inp,gas,st⟩:=m
 dsimp only at *
 simp only[wN,w4,Q2q,Q2p,Q2o,Q2n] at m2
 have q1:(inp.flatMap bpv).drop 1=(inp.drop 1).flatMap bpv:=Q3v Q3f inp 1
 have q2:(inp.drop 1).length=inp.length-1:=List.length_drop
 have q4:((inp.drop 1).flatMap bpv).take (inp.length-1)=(inp.drop 1).flatMap bpv:=List.take_of_length_le (by rw[Q0u Q3f,q2];omega)
 unfold bsl at rd
 rw[q2] at rd
 cases st with
 |true=>
  left
  (refine Q0n Tryz.func47 rfl (by rfl) ?_;simp only[Tryz.ntmps47,List.length_cons,List.length_nil,Nat.reduceAdd,Nat.reduceSub,List.replicate,List.cons_append,List.nil_append])
  (repeat(any_goals(first|((with_reducible refine Q0i ?_ ?_ ?_);rfl;rfl;intro K hK;((apply Q0b (aq);rfl;rfl;rfl;rfl;exact Tryz.func73);kernel_rfl;rfl;(focus((simp(disch:=omega) only[go_sem,eq_self]);(try rfl);done));(first|rfl));(simp(disch:=omega) only[go_sem,eq_self];refine hK _ ?_;clear hK K))|((with_reducible refine Q0c ?_ ?_);rfl;intro K hK;simp(disch:=omega) only[go_sem,eq_self];((repeat(refine ndI (by first|assumption|rfl) ?_));refine hK _ ?_;clear hK K))|(with_reducible first|(refine Q0d ?_;refine hR _ ?_;clear hR R)|((first|refine Q0e ?_);intro Ψ hΨ hΨ')|(refine Q0a ?_;intro R hR)|(refine hΨ _ ?_;clear hΨ hΨ' Ψ)|refine Q0h ?_)|((with_reducible refine hΨ' _ _ ?_ ?_);(focus(simp;done));clear hΨ hΨ' Ψ)|((with_reducible apply Q2v);rfl;rfl;rfl;(try simp(disch:=omega) only[go_sem,eq_self]))|((with_reducible apply Q0s);rfl;rfl;rfl;all_goals(intro hb;first|(cases hb;done)|((try simp only[Bool.not_true,Bool.not_false] at hb);(first|((with_reducible intro K hK);simp(disch:=omega) only[go_sem,eq_self];((repeat(refine ndI (by first|assumption|rfl) ?_));refine hK _ ?_;clear hK K))|((fail_if_success (with_reducible intro _));simp(disch:=omega) only[go_sem,eq_self])))))|((with_reducible apply Q0f);rfl;rfl;all_goals(intro hc;first|(cases hc;done)|(try simp only at hc))))))
  all_goals(refine⟨by simp,⟨_,?_,AV.le_refl _⟩,Q0g (by simp[leH,hget])⟩;simp only[Tryz.results47,resL,ldA,Q0o,go_sem])
 |false=>
 by_cases h1:e1=0
 case neg=>
  have b1:(e1 != 0)=true:=by simpa using h1
  left
  (refine Q0n Tryz.func47 rfl (by rfl) ?_;simp only[Tryz.ntmps47,List.length_cons,List.length_nil,Nat.reduceAdd,Nat.reduceSub,List.replicate,List.cons_append,List.nil_append])
  (repeat(any_goals(first|((with_reducible refine Q0i ?_ ?_ ?_);rfl;rfl;intro K hK;((first|(apply Q0b (aq);rfl;rfl;rfl;rfl;exact Tryz.func73)|(apply Q0b (m1);rfl;rfl;rfl;rfl;exact Tryz.func9));kernel_rfl;rfl;(focus((simp(disch:=omega) only[go_sem,b1]);(try rfl);done));(first|rfl));(simp(disch:=omega) only[go_sem,b1];refine hK _ ?_;clear hK K))|((with_reducible refine Q0c ?_ ?_);rfl;intro K hK;simp(disch:=omega) only[go_sem,b1];((repeat(refine ndI (by first|assumption|rfl) ?_));refine hK _ ?_;clear hK K))|(with_reducible first|(refine Q0d ?_;refine hR _ ?_;clear hR R)|((first|refine Q0e ?_);intro Ψ hΨ hΨ')|(refine Q0a ?_;intro R hR)|(refine hΨ _ ?_;clear hΨ hΨ' Ψ)|refine Q0j ?_|refine Q0h ?_)|((with_reducible refine hΨ' _ _ ?_ ?_);(focus(simp;done));clear hΨ hΨ' Ψ)|((with_reducible apply Q0s);rfl;rfl;rfl;all_goals(intro hb;first|(cases hb;done)|((try simp only[Bool.not_true,Bool.not_false] at hb);(first|((with_reducible intro K hK);simp(disch:=omega) only[go_sem,b1];((repeat(refine ndI (by first|assumption|rfl) ?_));refine hK _ ?_;clear hK K))|((fail_if_success (with_reducible intro _));simp(disch:=omega) only[go_sem,b1])))))|((with_reducible apply Q0f);rfl;rfl;all_goals(intro hc;first|(cases hc;done)|(try simp only at hc))))))
  all_goals(refine⟨by simp,⟨_,?_,AV.le_refl _⟩,Q0g (by simp[leH,hget])⟩;simp only[Tryz.results47,resL,ldA,Q0o,go_sem])
 subst h1
 by_cases h2:e2=0
 case neg=>
  have b2:(e2==0)=false:=by simpa using h2
  have b2':(e2 != 0)=true:=by simpa using h2
  left
  (refine Q0n Tryz.func47 rfl (by rfl) ?_;simp only[Tryz.ntmps47,List.length_cons,List.length_nil,Nat.reduceAdd,Nat.reduceSub,List.replicate,List.cons_append,List.nil_append])
  (have W:=ndI b2 (ndI b2' (ndI q1 (ndI q2 q4)));(repeat(any_goals(first|((with_reducible refine Q0i ?_ ?_ ?_);rfl;rfl;intro K hK;((first|(apply Q0b (aq);rfl;rfl;rfl;rfl;exact Tryz.func73)|(apply Q0b (m1);rfl;rfl;rfl;rfl;exact Tryz.func9));kernel_rfl;rfl;(focus((simp(disch:=omega) only[go_sem,W,Nat.mul_one,Nat.one_mul]);(try rfl);done));(first|rfl));(simp(disch:=omega) only[go_sem,W,Nat.mul_one,Nat.one_mul];refine hK _ ?_;clear hK K))|((with_reducible refine Q0c ?_ ?_);rfl;intro K hK;simp(disch:=omega) only[go_sem,W,Nat.mul_one,Nat.one_mul];((repeat(refine ndI (by first|assumption|rfl) ?_));refine hK _ ?_;clear hK K))|(with_reducible first|(refine Q0d ?_;refine hR _ ?_;clear hR R)|((first|refine Q0e ?_|refine Q0l ?_);intro Ψ hΨ hΨ')|(refine Q0a ?_;intro R hR)|(refine hΨ _ ?_;clear hΨ hΨ' Ψ)|refine Q0j ?_|refine Q0h ?_)|((with_reducible refine hΨ' _ _ ?_ ?_);(focus(simp;done));clear hΨ hΨ' Ψ)|((with_reducible apply Q0s);rfl;rfl;rfl;all_goals(intro hb;first|(cases hb;done)|((try simp only[Bool.not_true,Bool.not_false] at hb);(first|((with_reducible intro K hK);simp(disch:=omega) only[go_sem,W,Nat.mul_one,Nat.one_mul];((repeat(refine ndI (by first|assumption|rfl) ?_));refine hK _ ?_;clear hK K))|((fail_if_success (with_reducible intro _));simp(disch:=omega) only[go_sem,W,Nat.mul_one,Nat.one_mul])))))|((with_reducible apply Q0f);rfl;rfl;all_goals(intro hc;first|(cases hc;done)|(try simp only at hc)))|((with_reducible refine Q0v ?_ ?_);kernel_rfl;(with_reducible refine hR _ ?_);clear hR R)|((first|((first|((with_reducible apply Q1c);rfl;rfl));((first|(apply Q0r (rd);rfl;rfl;rfl;rfl;exact Tryz.func79)|(apply Q0r (le);rfl;rfl;rfl;rfl;exact Tryz.func78));kernel_rfl;rfl;(focus((simp(disch:=omega) only[go_sem,W,Nat.mul_one,Nat.one_mul]);(try rfl);done));(first|rfl)))|((first|((with_reducible apply Q0w);rfl;rfl));(simp(disch:=omega) only[rdE,rdOf,go_sem,W,Nat.mul_one,Nat.one_mul];rfl);(intro τ hA hQ hN;((try simp only[Q1a,Op.operands,Call.operands,go_sem,W,Nat.mul_one,Nat.one_mul,go_sem,List.mem_cons,List.not_mem_nil,forall_eq_or_imp,forall_eq,List.append_toArray,Option.toArray] at hA);(try simp only[go_sem,W,Nat.mul_one,Nat.one_mul,List.mem_cons,List.not_mem_nil,forall_eq_or_imp,forall_eq] at hQ hN);(first|(revert hA;intro hA));(first|(revert hQ;intro hQ));(first|(revert hN;intro hN));simp(disch:=omega) only[go_sem,W,Nat.mul_one,Nat.one_mul,go_sem,hA,hQ,hN];(repeat(refine ndI (by first|assumption|omega|rfl) ?_));(first|apply Q0z|apply Q2g)))));(simp(disch:=omega) only[St.eff,setO,Q0t,go_sem,W,Nat.mul_one,Nat.one_mul]))|((with_reducible refine Q0q ?_ ?_ ?_ ?_);kernel_rfl;kernel_rfl;(first|kernel_rfl);intro R hR)))))
  all_goals(refine⟨by simp,⟨_,?_,AV.le_refl _⟩,Q0g (by simp[leH,hget])⟩;simp only[Tryz.results47,resL,ldA,Q0o,go_sem])
 subst h2
 by_cases h3:e3=0
 case neg=>
  have b3:(e3 != 0)=true:=by simpa using h3
  left
  (refine Q0n Tryz.func47 rfl (by rfl) ?_;simp only[Tryz.ntmps47,List.length_cons,List.length_nil,Nat.reduceAdd,Nat.reduceSub,List.replicate,List.cons_append,List.nil_append])
  (have W:=ndI b3 (ndI q1 (ndI q2 q4));(repeat(any_goals(first|((with_reducible refine Q0i ?_ ?_ ?_);rfl;rfl;intro K hK;(first|((apply Q0b (aq);rfl;rfl;rfl;rfl;exact Tryz.func73);kernel_rfl;rfl;(focus((simp(disch:=omega) only[go_sem,W,Nat.mul_one,Nat.one_mul]);(try rfl);done));(first|rfl))|((apply Q0b (m1);rfl;rfl;rfl;rfl;exact Tryz.func9);kernel_rfl;rfl;(focus((simp(disch:=omega) only[go_sem,W,Nat.mul_one,Nat.one_mul]);(try rfl);done));(first|rfl))|((apply Q0b (m2);rfl;rfl;rfl;rfl;exact Tryz.func9);kernel_rfl;rfl;(focus((simp(disch:=omega) only[go_sem,W,Nat.mul_one,Nat.one_mul]);(try rfl);done));(first|rfl)));(simp(disch:=omega) only[go_sem,W,Nat.mul_one,Nat.one_mul];refine hK _ ?_;clear hK K))|((with_reducible refine Q0c ?_ ?_);rfl;intro K hK;simp(disch:=omega) only[go_sem,W,Nat.mul_one,Nat.one_mul];((repeat(refine ndI (by first|assumption|rfl) ?_));refine hK _ ?_;clear hK K))|(with_reducible first|(refine Q0d ?_;refine hR _ ?_;clear hR R)|((first|refine Q0e ?_|refine Q0l ?_);intro Ψ hΨ hΨ')|(refine Q0a ?_;intro R hR)|(refine hΨ _ ?_;clear hΨ hΨ' Ψ)|refine Q0j ?_|refine Q0h ?_)|((with_reducible refine hΨ' _ _ ?_ ?_);(focus(simp;done));clear hΨ hΨ' Ψ)|((with_reducible apply Q0s);rfl;rfl;rfl;all_goals(intro hb;first|(cases hb;done)|((try simp only[Bool.not_true,Bool.not_false] at hb);(first|((with_reducible intro K hK);simp(disch:=omega) only[go_sem,W,Nat.mul_one,Nat.one_mul];((repeat(refine ndI (by first|assumption|rfl) ?_));refine hK _ ?_;clear hK K))|((fail_if_success (with_reducible intro _));simp(disch:=omega) only[go_sem,W,Nat.mul_one,Nat.one_mul])))))|((with_reducible apply Q0f);rfl;rfl;all_goals(intro hc;first|(cases hc;done)|(try simp only at hc)))|((with_reducible refine Q0v ?_ ?_);kernel_rfl;(with_reducible refine hR _ ?_);clear hR R)|((first|((first|((with_reducible apply Q1c);rfl;rfl));((first|(apply Q0r (rd);rfl;rfl;rfl;rfl;exact Tryz.func79)|(apply Q0r (le);rfl;rfl;rfl;rfl;exact Tryz.func78));kernel_rfl;rfl;(focus((simp(disch:=omega) only[go_sem,W,Nat.mul_one,Nat.one_mul]);(try rfl);done));(first|rfl)))|((first|((with_reducible apply Q0w);rfl;rfl));(simp(disch:=omega) only[rdE,rdOf,go_sem,W,Nat.mul_one,Nat.one_mul];rfl);(intro τ hA hQ hN;((try simp only[Q1a,Op.operands,Call.operands,go_sem,W,Nat.mul_one,Nat.one_mul,go_sem,List.mem_cons,List.not_mem_nil,forall_eq_or_imp,forall_eq,List.append_toArray,Option.toArray] at hA);(try simp only[go_sem,W,Nat.mul_one,Nat.one_mul,List.mem_cons,List.not_mem_nil,forall_eq_or_imp,forall_eq] at hQ hN);(first|(revert hA;intro hA));(first|(revert hQ;intro hQ));(first|(revert hN;intro hN));simp(disch:=omega) only[go_sem,W,Nat.mul_one,Nat.one_mul,go_sem,hA,hQ,hN];(repeat(refine ndI (by first|assumption|omega|rfl) ?_));(first|apply Q0z|apply Q2g)))));(simp(disch:=omega) only[St.eff,setO,Q0t,go_sem,W,Nat.mul_one,Nat.one_mul]))|((with_reducible refine Q0q ?_ ?_ ?_ ?_);kernel_rfl;kernel_rfl;(first|kernel_rfl);intro R hR)))))
  all_goals(refine⟨by simp,⟨_,?_,AV.le_refl _⟩,Q0g (by simp[leH,hget])⟩;simp only[Tryz.results47,resL,ldA,Q0o,go_sem])
 subst h3
 refine .inr ⟨⟨rfl,rfl,rfl⟩,?_⟩
 (refine Q0n Tryz.func47 rfl (by rfl) ?_;simp only[Tryz.ntmps47,List.length_cons,List.length_nil,Nat.reduceAdd,Nat.reduceSub,List.replicate,List.cons_append,List.nil_append])
 (have W:=ndI q1 (ndI q2 q4);(repeat(any_goals(first|((with_reducible refine Q0i ?_ ?_ ?_);rfl;rfl;intro K hK;(first|((apply Q0b (aq);rfl;rfl;rfl;rfl;exact Tryz.func73);kernel_rfl;rfl;(focus((simp(disch:=omega) only[go_sem,W,eq_self,Nat.mul_one,Nat.one_mul]);(try rfl);done));(first|rfl))|((apply Q0b (m1);rfl;rfl;rfl;rfl;exact Tryz.func9);kernel_rfl;rfl;(focus((simp(disch:=omega) only[go_sem,W,eq_self,Nat.mul_one,Nat.one_mul]);(try rfl);done));(first|rfl))|((apply Q0b (m2);rfl;rfl;rfl;rfl;exact Tryz.func9);kernel_rfl;rfl;(focus((simp(disch:=omega) only[go_sem,W,eq_self,Nat.mul_one,Nat.one_mul]);(try rfl);done));(first|rfl)));(simp(disch:=omega) only[go_sem,W,eq_self,Nat.mul_one,Nat.one_mul];refine hK _ ?_;clear hK K))|((with_reducible refine Q0c ?_ ?_);rfl;intro K hK;simp(disch:=omega) only[go_sem,W,eq_self,Nat.mul_one,Nat.one_mul];((repeat(refine ndI (by first|assumption|rfl) ?_));refine hK _ ?_;clear hK K))|(with_reducible first|(refine Q0d ?_;refine hR _ ?_;clear hR R)|((first|refine Q0e ?_|refine Q0l ?_);intro Ψ hΨ hΨ')|(refine Q0a ?_;intro R hR)|(refine hΨ _ ?_;clear hΨ hΨ' Ψ)|refine Q0j ?_|refine Q0h ?_)|((with_reducible refine hΨ' _ _ ?_ ?_);(focus(simp;done));clear hΨ hΨ' Ψ)|((with_reducible apply Q0s);rfl;rfl;rfl;all_goals(intro hb;first|(cases hb;done)|((try simp only[Bool.not_true,Bool.not_false] at hb);(first|((with_reducible intro K hK);simp(disch:=omega) only[go_sem,W,eq_self,Nat.mul_one,Nat.one_mul];((repeat(refine ndI (by first|assumption|rfl) ?_));refine hK _ ?_;clear hK K))|((fail_if_success (with_reducible intro _));simp(disch:=omega) only[go_sem,W,eq_self,Nat.mul_one,Nat.one_mul])))))|((with_reducible apply Q0f);rfl;rfl;all_goals(intro hc;first|(cases hc;done)|(try simp only at hc)))|((with_reducible refine Q0v ?_ ?_);kernel_rfl;(with_reducible refine hR _ ?_);clear hR R)|((first|((first|((with_reducible apply Q1c);rfl;rfl));((first|(apply Q0r (rd);rfl;rfl;rfl;rfl;exact Tryz.func79)|(apply Q0r (le);rfl;rfl;rfl;rfl;exact Tryz.func78));kernel_rfl;rfl;(focus((simp(disch:=omega) only[go_sem,W,eq_self,Nat.mul_one,Nat.one_mul]);(try rfl);done));(first|rfl)))|((first|((with_reducible apply Q0w);rfl;rfl));(simp(disch:=omega) only[rdE,rdOf,go_sem,W,eq_self,Nat.mul_one,Nat.one_mul];rfl);(intro τ hA hQ hN;((try simp only[Q1a,Op.operands,Call.operands,go_sem,W,eq_self,Nat.mul_one,Nat.one_mul,go_sem,List.mem_cons,List.not_mem_nil,forall_eq_or_imp,forall_eq,List.append_toArray,Option.toArray] at hA);(try simp only[go_sem,W,eq_self,Nat.mul_one,Nat.one_mul,List.mem_cons,List.not_mem_nil,forall_eq_or_imp,forall_eq] at hQ hN);(first|(revert hA;intro hA));(first|(revert hQ;intro hQ));(first|(revert hN;intro hN));simp(disch:=omega) only[go_sem,W,eq_self,Nat.mul_one,Nat.one_mul,go_sem,hA,hQ,hN];(repeat(refine ndI (by first|assumption|omega|rfl) ?_));(first|apply Q0z|apply Q2g)))));(simp(disch:=omega) only[St.eff,setO,Q0t,go_sem,W,eq_self,Nat.mul_one,Nat.one_mul]))|((with_reducible refine Q0q ?_ ?_ ?_ ?_);kernel_rfl;kernel_rfl;(first|kernel_rfl);intro R hR)))))
 all_goals(refine⟨by simp,⟨_,?_,AV.le_refl _⟩,Q0g (by simp[leH,hget])⟩;simp only[Tryz.results47,resL,ldA,Q0o,go_sem])
theorem nat_k3(w:Wl)(m:Ms)(now:Int)(s1 s2:List Ac)(lm:List lg.Hd)(e1 e2 e3:Int)(aq:Fn Tryz.prog 73 [bsl false m.inp] [] (.tup [vi .i64 3,vb true]) [])(m1:Fn Tryz.prog 9 [stA false w.S,vi .u64 m.fr,vi .u64 1,wN m.v] [] (.tup [stA false s1,vi .i64 e1]) [])(le:Fn Tryz.prog 80 [lg.lg false w.L,vi .u64 m.fr,vi .u64 now] [] (.tup [lg.lg false lm,vi .i64 e2]) [])(m2:Fn Tryz.prog 9 [stA false s1,vi .u64 1,vi .u64 m.fr,wN 0] [] (.tup [stA false s2,vi .i64 e3]) []) :
 NatR w m now s2 lm (e1=0∧e2=0∧e3=0∧vNe m.v=false):=by
 obtain⟨S,L,N⟩:=w
 obtain⟨fr,to,v,inp,gas,st⟩:=m
 dsimp only at *
 simp only[wN,w4,Q2q,Q2p,Q2o,Q2n] at m2
 cases st with
 |true=>
  left
  (refine Q0n Tryz.func47 rfl (by rfl) ?_;simp only[Tryz.ntmps47,List.length_cons,List.length_nil,Nat.reduceAdd,Nat.reduceSub,List.replicate,List.cons_append,List.nil_append])
  (repeat(any_goals(first|((with_reducible refine Q0i ?_ ?_ ?_);rfl;rfl;intro K hK;((apply Q0b (aq);rfl;rfl;rfl;rfl;exact Tryz.func73);kernel_rfl;rfl;(focus((simp(disch:=omega) only[go_sem,eq_self]);(try rfl);done));(first|rfl));(simp(disch:=omega) only[go_sem,eq_self];refine hK _ ?_;clear hK K))|((with_reducible refine Q0c ?_ ?_);rfl;intro K hK;simp(disch:=omega) only[go_sem,eq_self];((repeat(refine ndI (by first|assumption|rfl) ?_));refine hK _ ?_;clear hK K))|(with_reducible first|(refine Q0d ?_;refine hR _ ?_;clear hR R)|((first|refine Q0e ?_);intro Ψ hΨ hΨ')|(refine Q0a ?_;intro R hR)|(refine hΨ _ ?_;clear hΨ hΨ' Ψ)|refine Q0h ?_)|((with_reducible refine hΨ' _ _ ?_ ?_);(focus(simp;done));clear hΨ hΨ' Ψ)|((with_reducible apply Q2v);rfl;rfl;rfl;(try simp(disch:=omega) only[go_sem,eq_self]))|((with_reducible apply Q0s);rfl;rfl;rfl;all_goals(intro hb;first|(cases hb;done)|((try simp only[Bool.not_true,Bool.not_false] at hb);(first|((with_reducible intro K hK);simp(disch:=omega) only[go_sem,eq_self];((repeat(refine ndI (by first|assumption|rfl) ?_));refine hK _ ?_;clear hK K))|((fail_if_success (with_reducible intro _));simp(disch:=omega) only[go_sem,eq_self])))))|((with_reducible apply Q0f);rfl;rfl;all_goals(intro hc;first|(cases hc;done)|(try simp only at hc))))))
  all_goals(refine⟨by simp,⟨_,?_,AV.le_refl _⟩,Q0g (by simp[leH,hget])⟩;simp only[Tryz.results47,resL,ldA,Q0o,go_sem])
 |false=>
 have zz:vNe v = !(l0 v==0&&(l1 v==0&&(l2 v==0&&l3 v==0))):=rfl
 obtain⟨z,hz⟩:∃z,(l0 v==0&&(l1 v==0&&(l2 v==0&&l3 v==0)))=z:=⟨_,rfl⟩
 rw[hz] at zz
 cases z with
 |false=>
  left
  (refine Q0n Tryz.func47 rfl (by rfl) ?_;simp only[Tryz.ntmps47,List.length_cons,List.length_nil,Nat.reduceAdd,Nat.reduceSub,List.replicate,List.cons_append,List.nil_append])
  (repeat(any_goals(first|((with_reducible refine Q0i ?_ ?_ ?_);rfl;rfl;intro K hK;((apply Q0b (aq);rfl;rfl;rfl;rfl;exact Tryz.func73);kernel_rfl;rfl;(focus((simp(disch:=omega) only[go_sem,hz]);(try rfl);done));(first|rfl));(simp(disch:=omega) only[go_sem,hz];refine hK _ ?_;clear hK K))|((with_reducible refine Q0c ?_ ?_);rfl;intro K hK;simp(disch:=omega) only[go_sem,hz];((repeat(refine ndI (by first|assumption|rfl) ?_));refine hK _ ?_;clear hK K))|(with_reducible first|(refine Q0d ?_;refine hR _ ?_;clear hR R)|((first|refine Q0e ?_);intro Ψ hΨ hΨ')|(refine Q0a ?_;intro R hR)|(refine hΨ _ ?_;clear hΨ hΨ' Ψ)|refine Q0h ?_)|((with_reducible refine hΨ' _ _ ?_ ?_);(focus(simp;done));clear hΨ hΨ' Ψ)|((with_reducible apply Q0s);rfl;rfl;rfl;all_goals(intro hb;first|(cases hb;done)|((try simp only[Bool.not_true,Bool.not_false] at hb);(first|((with_reducible intro K hK);simp(disch:=omega) only[go_sem,hz];((repeat(refine ndI (by first|assumption|rfl) ?_));refine hK _ ?_;clear hK K))|((fail_if_success (with_reducible intro _));simp(disch:=omega) only[go_sem,hz])))))|((with_reducible apply Q0f);rfl;rfl;all_goals(intro hc;first|(cases hc;done)|(try simp only at hc))))))
  all_goals(refine⟨by simp,⟨_,?_,AV.le_refl _⟩,Q0g (by simp[leH,hget])⟩;simp only[Tryz.results47,resL,ldA,Q0o,go_sem])
 |true=>
 by_cases h1:e1=0
 case neg=>
  have b1:(e1 != 0)=true:=by simpa using h1
  left
  (refine Q0n Tryz.func47 rfl (by rfl) ?_;simp only[Tryz.ntmps47,List.length_cons,List.length_nil,Nat.reduceAdd,Nat.reduceSub,List.replicate,List.cons_append,List.nil_append])
  (repeat(any_goals(first|((with_reducible refine Q0i ?_ ?_ ?_);rfl;rfl;intro K hK;((first|(apply Q0b (aq);rfl;rfl;rfl;rfl;exact Tryz.func73)|(apply Q0b (m1);rfl;rfl;rfl;rfl;exact Tryz.func9));kernel_rfl;rfl;(focus((simp(disch:=omega) only[go_sem,b1,hz]);(try rfl);done));(first|rfl));(simp(disch:=omega) only[go_sem,b1,hz];refine hK _ ?_;clear hK K))|((with_reducible refine Q0c ?_ ?_);rfl;intro K hK;simp(disch:=omega) only[go_sem,b1,hz];((repeat(refine ndI (by first|assumption|rfl) ?_));refine hK _ ?_;clear hK K))|(with_reducible first|(refine Q0d ?_;refine hR _ ?_;clear hR R)|((first|refine Q0e ?_);intro Ψ hΨ hΨ')|(refine Q0a ?_;intro R hR)|(refine hΨ _ ?_;clear hΨ hΨ' Ψ)|refine Q0j ?_|refine Q0h ?_)|((with_reducible refine hΨ' _ _ ?_ ?_);(focus(simp;done));clear hΨ hΨ' Ψ)|((with_reducible apply Q0s);rfl;rfl;rfl;all_goals(intro hb;first|(cases hb;done)|((try simp only[Bool.not_true,Bool.not_false] at hb);(first|((with_reducible intro K hK);simp(disch:=omega) only[go_sem,b1,hz];((repeat(refine ndI (by first|assumption|rfl) ?_));refine hK _ ?_;clear hK K))|((fail_if_success (with_reducible intro _));simp(disch:=omega) only[go_sem,b1,hz])))))|((with_reducible apply Q0f);rfl;rfl;all_goals(intro hc;first|(cases hc;done)|(try simp only at hc))))))
  all_goals(refine⟨by simp,⟨_,?_,AV.le_refl _⟩,Q0g (by simp[leH,hget])⟩;simp only[Tryz.results47,resL,ldA,Q0o,go_sem])
 subst h1
 by_cases h2:e2=0
 case neg=>
  have b2:(e2==0)=false:=by simpa using h2
  have b2':(e2 != 0)=true:=by simpa using h2
  left
  (refine Q0n Tryz.func47 rfl (by rfl) ?_;simp only[Tryz.ntmps47,List.length_cons,List.length_nil,Nat.reduceAdd,Nat.reduceSub,List.replicate,List.cons_append,List.nil_append])
  (repeat(any_goals(first|((with_reducible refine Q0i ?_ ?_ ?_);rfl;rfl;intro K hK;((first|(apply Q0b (aq);rfl;rfl;rfl;rfl;exact Tryz.func73)|(apply Q0b (m1);rfl;rfl;rfl;rfl;exact Tryz.func9)|(apply Q0b (le);rfl;rfl;rfl;rfl;exact Tryz.func80));kernel_rfl;rfl;(focus((simp(disch:=omega) only[go_sem,b2,b2',hz]);(try rfl);done));(first|rfl));(simp(disch:=omega) only[go_sem,b2,b2',hz];refine hK _ ?_;clear hK K))|((with_reducible refine Q0c ?_ ?_);rfl;intro K hK;simp(disch:=omega) only[go_sem,b2,b2',hz];((repeat(refine ndI (by first|assumption|rfl) ?_));refine hK _ ?_;clear hK K))|(with_reducible first|(refine Q0d ?_;refine hR _ ?_;clear hR R)|((first|refine Q0e ?_|refine Q0l ?_);intro Ψ hΨ hΨ')|(refine Q0a ?_;intro R hR)|(refine hΨ _ ?_;clear hΨ hΨ' Ψ)|refine Q0j ?_|refine Q0h ?_)|((with_reducible refine hΨ' _ _ ?_ ?_);(focus(simp;done));clear hΨ hΨ' Ψ)|((with_reducible apply Q0s);rfl;rfl;rfl;all_goals(intro hb;first|(cases hb;done)|((try simp only[Bool.not_true,Bool.not_false] at hb);(first|((with_reducible intro K hK);simp(disch:=omega) only[go_sem,b2,b2',hz];((repeat(refine ndI (by first|assumption|rfl) ?_));refine hK _ ?_;clear hK K))|((fail_if_success (with_reducible intro _));simp(disch:=omega) only[go_sem,b2,b2',hz])))))|((with_reducible apply Q0f);rfl;rfl;all_goals(intro hc;first|(cases hc;done)|(try simp only at hc))))))
  all_goals(refine⟨by simp,⟨_,?_,AV.le_refl _⟩,Q0g (by simp[leH,hget])⟩;simp only[Tryz.results47,resL,ldA,Q0o,go_sem])
 subst h2
 by_cases h3:e3=0
 case neg=>
  have b3:(e3 != 0)=true:=by simpa using h3
  left
  (refine Q0n Tryz.func47 rfl (by rfl) ?_;simp only[Tryz.ntmps47,List.length_cons,List.length_nil,Nat.reduceAdd,Nat.reduceSub,List.replicate,List.cons_append,List.nil_append])
  (repeat(any_goals(first|((with_reducible refine Q0i ?_ ?_ ?_);rfl;rfl;intro K hK;(first|((first|(apply Q0b (aq);rfl;rfl;rfl;rfl;exact Tryz.func73)|(apply Q0b (le);rfl;rfl;rfl;rfl;exact Tryz.func80));kernel_rfl;rfl;(focus((simp(disch:=omega) only[go_sem,b3,hz]);(try rfl);done));(first|rfl))|((apply Q0b (m1);rfl;rfl;rfl;rfl;exact Tryz.func9);kernel_rfl;rfl;(focus((simp(disch:=omega) only[go_sem,b3,hz]);(try rfl);done));(first|rfl))|((apply Q0b (m2);rfl;rfl;rfl;rfl;exact Tryz.func9);kernel_rfl;rfl;(focus((simp(disch:=omega) only[go_sem,b3,hz]);(try rfl);done));(first|rfl)));(simp(disch:=omega) only[go_sem,b3,hz];refine hK _ ?_;clear hK K))|((with_reducible refine Q0c ?_ ?_);rfl;intro K hK;simp(disch:=omega) only[go_sem,b3,hz];((repeat(refine ndI (by first|assumption|rfl) ?_));refine hK _ ?_;clear hK K))|(with_reducible first|(refine Q0d ?_;refine hR _ ?_;clear hR R)|((first|refine Q0e ?_|refine Q0l ?_);intro Ψ hΨ hΨ')|(refine Q0a ?_;intro R hR)|(refine hΨ _ ?_;clear hΨ hΨ' Ψ)|refine Q0j ?_|refine Q0h ?_)|((with_reducible refine hΨ' _ _ ?_ ?_);(focus(simp;done));clear hΨ hΨ' Ψ)|((with_reducible apply Q0s);rfl;rfl;rfl;all_goals(intro hb;first|(cases hb;done)|((try simp only[Bool.not_true,Bool.not_false] at hb);(first|((with_reducible intro K hK);simp(disch:=omega) only[go_sem,b3,hz];((repeat(refine ndI (by first|assumption|rfl) ?_));refine hK _ ?_;clear hK K))|((fail_if_success (with_reducible intro _));simp(disch:=omega) only[go_sem,b3,hz])))))|((with_reducible apply Q0f);rfl;rfl;all_goals(intro hc;first|(cases hc;done)|(try simp only at hc))))))
  all_goals(refine⟨by simp,⟨_,?_,AV.le_refl _⟩,Q0g (by simp[leH,hget])⟩;simp only[Tryz.results47,resL,ldA,Q0o,go_sem])
 subst h3
 refine .inr ⟨⟨rfl,rfl,rfl,zz⟩,?_⟩
 (refine Q0n Tryz.func47 rfl (by rfl) ?_;simp only[Tryz.ntmps47,List.length_cons,List.length_nil,Nat.reduceAdd,Nat.reduceSub,List.replicate,List.cons_append,List.nil_append])
 (repeat(any_goals(first|((with_reducible refine Q0i ?_ ?_ ?_);rfl;rfl;intro K hK;(first|((first|(apply Q0b (aq);rfl;rfl;rfl;rfl;exact Tryz.func73)|(apply Q0b (le);rfl;rfl;rfl;rfl;exact Tryz.func80));kernel_rfl;rfl;(focus((simp(disch:=omega) only[go_sem,hz]);(try rfl);done));(first|rfl))|((apply Q0b (m1);rfl;rfl;rfl;rfl;exact Tryz.func9);kernel_rfl;rfl;(focus((simp(disch:=omega) only[go_sem,hz]);(try rfl);done));(first|rfl))|((apply Q0b (m2);rfl;rfl;rfl;rfl;exact Tryz.func9);kernel_rfl;rfl;(focus((simp(disch:=omega) only[go_sem,hz]);(try rfl);done));(first|rfl)));(simp(disch:=omega) only[go_sem,hz];refine hK _ ?_;clear hK K))|((with_reducible refine Q0c ?_ ?_);rfl;intro K hK;simp(disch:=omega) only[go_sem,hz];((repeat(refine ndI (by first|assumption|rfl) ?_));refine hK _ ?_;clear hK K))|(with_reducible first|(refine Q0d ?_;refine hR _ ?_;clear hR R)|((first|refine Q0e ?_|refine Q0l ?_);intro Ψ hΨ hΨ')|(refine Q0a ?_;intro R hR)|(refine hΨ _ ?_;clear hΨ hΨ' Ψ)|refine Q0j ?_|refine Q0h ?_)|((with_reducible refine hΨ' _ _ ?_ ?_);(focus(simp;done));clear hΨ hΨ' Ψ)|((with_reducible apply Q0s);rfl;rfl;rfl;all_goals(intro hb;first|(cases hb;done)|((try simp only[Bool.not_true,Bool.not_false] at hb);(first|((with_reducible intro K hK);simp(disch:=omega) only[go_sem,hz];((repeat(refine ndI (by first|assumption|rfl) ?_));refine hK _ ?_;clear hK K))|((fail_if_success (with_reducible intro _));simp(disch:=omega) only[go_sem,hz])))))|((with_reducible apply Q0f);rfl;rfl;all_goals(intro hc;first|(cases hc;done)|(try simp only at hc)))|((with_reducible refine Q0v ?_ ?_);kernel_rfl;(with_reducible refine hR _ ?_);clear hR R)|((first|((first|((with_reducible apply Q0w);rfl;rfl));(simp(disch:=omega) only[rdE,rdOf,go_sem,hz];rfl);(intro τ hA hQ hN;((try simp only[Q1a,Op.operands,Call.operands,go_sem,hz,go_sem,List.mem_cons,List.not_mem_nil,forall_eq_or_imp,forall_eq,List.append_toArray,Option.toArray] at hA);(try simp only[go_sem,hz,List.mem_cons,List.not_mem_nil,forall_eq_or_imp,forall_eq] at hQ hN);(first|(revert hA;intro hA));(first|(revert hQ;intro hQ));(first|(revert hN;intro hN));simp(disch:=omega) only[go_sem,hz,go_sem,hA,hQ,hN];(repeat(refine ndI (by first|assumption|rfl) ?_));(first|apply Q0z|apply Q2g)))));(simp(disch:=omega) only[St.eff,setO,Q0t,go_sem,hz]))|((with_reducible refine Q0q ?_ ?_ ?_ ?_);kernel_rfl;kernel_rfl;(first|kernel_rfl);intro R hR))))
 all_goals(refine⟨by simp,⟨_,?_,AV.le_refl _⟩,Q0g (by simp[leH,hget])⟩;simp only[Tryz.results47,resL,ldA,Q0o,go_sem])
theorem nat_k4(w:Wl)(m:Ms)(now:Int)(s1 s2:List Ac)(lm:List lg.Hd)(e1 e2 e3:Int)(bk:Nat)(aq:Fn Tryz.prog 73 [bsl false m.inp] [] (.tup [vi .i64 4,vb true]) [])(m1:Fn Tryz.prog 9 [stA false w.S,vi .u64 m.fr,vi .u64 1,wN m.v] [] (.tup [stA false s1,vi .i64 e1]) [])(le:Fn Tryz.prog 81 [lg.lg false w.L,vi .u64 m.fr,vi .u64 now] [] (.tup [lg.lg false lm,wN bk,vi .i64 e2]) [])(m2:Fn Tryz.prog 9 [stA false s1,vi .u64 1,vi .u64 m.fr,wN bk] [] (.tup [stA false s2,vi .i64 e3]) []) :
 NatR w m now s2 lm (e1=0∧e2=0∧e3=0∧vNe m.v=false):=by
 obtain⟨S,L,N⟩:=w
 obtain⟨fr,to,v,inp,gas,st⟩:=m
 dsimp only at *
 cases st with
 |true=>
  left
  (refine Q0n Tryz.func47 rfl (by rfl) ?_;simp only[Tryz.ntmps47,List.length_cons,List.length_nil,Nat.reduceAdd,Nat.reduceSub,List.replicate,List.cons_append,List.nil_append])
  (repeat(any_goals(first|((with_reducible refine Q0i ?_ ?_ ?_);rfl;rfl;intro K hK;((apply Q0b (aq);rfl;rfl;rfl;rfl;exact Tryz.func73);kernel_rfl;rfl;(focus((simp(disch:=omega) only[go_sem,eq_self]);(try rfl);done));(first|rfl));(simp(disch:=omega) only[go_sem,eq_self];refine hK _ ?_;clear hK K))|((with_reducible refine Q0c ?_ ?_);rfl;intro K hK;simp(disch:=omega) only[go_sem,eq_self];((repeat(refine ndI (by first|assumption|rfl) ?_));refine hK _ ?_;clear hK K))|(with_reducible first|(refine Q0d ?_;refine hR _ ?_;clear hR R)|((first|refine Q0e ?_);intro Ψ hΨ hΨ')|(refine Q0a ?_;intro R hR)|(refine hΨ _ ?_;clear hΨ hΨ' Ψ)|refine Q0h ?_)|((with_reducible refine hΨ' _ _ ?_ ?_);(focus(simp;done));clear hΨ hΨ' Ψ)|((with_reducible apply Q2v);rfl;rfl;rfl;(try simp(disch:=omega) only[go_sem,eq_self]))|((with_reducible apply Q0s);rfl;rfl;rfl;all_goals(intro hb;first|(cases hb;done)|((try simp only[Bool.not_true,Bool.not_false] at hb);(first|((with_reducible intro K hK);simp(disch:=omega) only[go_sem,eq_self];((repeat(refine ndI (by first|assumption|rfl) ?_));refine hK _ ?_;clear hK K))|((fail_if_success (with_reducible intro _));simp(disch:=omega) only[go_sem,eq_self])))))|((with_reducible apply Q0f);rfl;rfl;all_goals(intro hc;first|(cases hc;done)|(try simp only at hc))))))
  all_goals(refine⟨by simp,⟨_,?_,AV.le_refl _⟩,Q0g (by simp[leH,hget])⟩;simp only[Tryz.results47,resL,ldA,Q0o,go_sem])
 |false=>
 have zz:vNe v = !(l0 v==0&&(l1 v==0&&(l2 v==0&&l3 v==0))):=rfl
 obtain⟨z,hz⟩:∃z,(l0 v==0&&(l1 v==0&&(l2 v==0&&l3 v==0)))=z:=⟨_,rfl⟩
 rw[hz] at zz
 cases z with
 |false=>
  left
  (refine Q0n Tryz.func47 rfl (by rfl) ?_;simp only[Tryz.ntmps47,List.length_cons,List.length_nil,Nat.reduceAdd,Nat.reduceSub,List.replicate,List.cons_append,List.nil_append])
  (repeat(any_goals(first|((with_reducible refine Q0i ?_ ?_ ?_);rfl;rfl;intro K hK;((apply Q0b (aq);rfl;rfl;rfl;rfl;exact Tryz.func73);kernel_rfl;rfl;(focus((simp(disch:=omega) only[go_sem,hz]);(try rfl);done));(first|rfl));(simp(disch:=omega) only[go_sem,hz];refine hK _ ?_;clear hK K))|((with_reducible refine Q0c ?_ ?_);rfl;intro K hK;simp(disch:=omega) only[go_sem,hz];((repeat(refine ndI (by first|assumption|rfl) ?_));refine hK _ ?_;clear hK K))|(with_reducible first|(refine Q0d ?_;refine hR _ ?_;clear hR R)|((first|refine Q0e ?_);intro Ψ hΨ hΨ')|(refine Q0a ?_;intro R hR)|(refine hΨ _ ?_;clear hΨ hΨ' Ψ)|refine Q0h ?_)|((with_reducible refine hΨ' _ _ ?_ ?_);(focus(simp;done));clear hΨ hΨ' Ψ)|((with_reducible apply Q0s);rfl;rfl;rfl;all_goals(intro hb;first|(cases hb;done)|((try simp only[Bool.not_true,Bool.not_false] at hb);(first|((with_reducible intro K hK);simp(disch:=omega) only[go_sem,hz];((repeat(refine ndI (by first|assumption|rfl) ?_));refine hK _ ?_;clear hK K))))))|((with_reducible apply Q0f);rfl;rfl;all_goals(intro hc;first|(cases hc;done)|(try simp only at hc))))))
  all_goals(refine⟨by simp,⟨_,?_,AV.le_refl _⟩,Q0g (by simp[leH,hget])⟩;simp only[Tryz.results47,resL,ldA,Q0o,go_sem])
 |true=>
 by_cases h1:e1=0
 case neg=>
  have b1:(e1 != 0)=true:=by simpa using h1
  left
  (refine Q0n Tryz.func47 rfl (by rfl) ?_;simp only[Tryz.ntmps47,List.length_cons,List.length_nil,Nat.reduceAdd,Nat.reduceSub,List.replicate,List.cons_append,List.nil_append])
  (repeat(any_goals(first|((with_reducible refine Q0i ?_ ?_ ?_);rfl;rfl;intro K hK;((first|(apply Q0b (aq);rfl;rfl;rfl;rfl;exact Tryz.func73)|(apply Q0b (m1);rfl;rfl;rfl;rfl;exact Tryz.func9));kernel_rfl;rfl;(focus((simp(disch:=omega) only[go_sem,b1,hz]);(try rfl);done));(first|rfl));(simp(disch:=omega) only[go_sem,b1,hz];refine hK _ ?_;clear hK K))|((with_reducible refine Q0c ?_ ?_);rfl;intro K hK;simp(disch:=omega) only[go_sem,b1,hz];((repeat(refine ndI (by first|assumption|rfl) ?_));refine hK _ ?_;clear hK K))|(with_reducible first|(refine Q0d ?_;refine hR _ ?_;clear hR R)|((first|refine Q0e ?_);intro Ψ hΨ hΨ')|(refine Q0a ?_;intro R hR)|(refine hΨ _ ?_;clear hΨ hΨ' Ψ)|refine Q0j ?_|refine Q0h ?_)|((with_reducible refine hΨ' _ _ ?_ ?_);(focus(simp;done));clear hΨ hΨ' Ψ)|((with_reducible apply Q0s);rfl;rfl;rfl;all_goals(intro hb;first|(cases hb;done)|((try simp only[Bool.not_true,Bool.not_false] at hb);(first|((with_reducible intro K hK);simp(disch:=omega) only[go_sem,b1,hz];((repeat(refine ndI (by first|assumption|rfl) ?_));refine hK _ ?_;clear hK K))))))|((with_reducible apply Q0f);rfl;rfl;all_goals(intro hc;first|(cases hc;done)|(try simp only at hc))))))
  all_goals(refine⟨by simp,⟨_,?_,AV.le_refl _⟩,Q0g (by simp[leH,hget])⟩;simp only[Tryz.results47,resL,ldA,Q0o,go_sem])
 subst h1
 by_cases h2:e2=0
 case neg=>
  have b2:(e2==0)=false:=by simpa using h2
  have b2':(e2 != 0)=true:=by simpa using h2
  left
  (refine Q0n Tryz.func47 rfl (by rfl) ?_;simp only[Tryz.ntmps47,List.length_cons,List.length_nil,Nat.reduceAdd,Nat.reduceSub,List.replicate,List.cons_append,List.nil_append])
  (repeat(any_goals(first|((with_reducible refine Q0i ?_ ?_ ?_);rfl;rfl;intro K hK;((first|(apply Q0b (aq);rfl;rfl;rfl;rfl;exact Tryz.func73)|(apply Q0b (m1);rfl;rfl;rfl;rfl;exact Tryz.func9)|(apply Q0b (le);rfl;rfl;rfl;rfl;exact Tryz.func81));kernel_rfl;rfl;(focus((simp(disch:=omega) only[go_sem,b2,b2',hz]);(try rfl);done));(first|rfl));(simp(disch:=omega) only[go_sem,b2,b2',hz];refine hK _ ?_;clear hK K))|((with_reducible refine Q0c ?_ ?_);rfl;intro K hK;simp(disch:=omega) only[go_sem,b2,b2',hz];((repeat(refine ndI (by first|assumption|rfl) ?_));refine hK _ ?_;clear hK K))|(with_reducible first|(refine Q0d ?_;refine hR _ ?_;clear hR R)|((first|refine Q0e ?_|refine Q0l ?_);intro Ψ hΨ hΨ')|(refine Q0a ?_;intro R hR)|(refine hΨ _ ?_;clear hΨ hΨ' Ψ)|refine Q0j ?_|refine Q0h ?_)|((with_reducible refine hΨ' _ _ ?_ ?_);(focus(simp;done));clear hΨ hΨ' Ψ)|((with_reducible apply Q0s);rfl;rfl;rfl;all_goals(intro hb;first|(cases hb;done)|((try simp only[Bool.not_true,Bool.not_false] at hb);(first|((with_reducible intro K hK);simp(disch:=omega) only[go_sem,b2,b2',hz];((repeat(refine ndI (by first|assumption|rfl) ?_));refine hK _ ?_;clear hK K))))))|((with_reducible apply Q0f);rfl;rfl;all_goals(intro hc;first|(cases hc;done)|(try simp only at hc))))))
  all_goals(refine⟨by simp,⟨_,?_,AV.le_refl _⟩,Q0g (by simp[leH,hget])⟩;simp only[Tryz.results47,resL,ldA,Q0o,go_sem])
 subst h2
 by_cases h3:e3=0
 case neg=>
  have b3:(e3 != 0)=true:=by simpa using h3
  left
  (refine Q0n Tryz.func47 rfl (by rfl) ?_;simp only[Tryz.ntmps47,List.length_cons,List.length_nil,Nat.reduceAdd,Nat.reduceSub,List.replicate,List.cons_append,List.nil_append])
  (repeat(any_goals(first|((with_reducible refine Q0i ?_ ?_ ?_);rfl;rfl;intro K hK;(first|((first|(apply Q0b (aq);rfl;rfl;rfl;rfl;exact Tryz.func73)|(apply Q0b (le);rfl;rfl;rfl;rfl;exact Tryz.func81));kernel_rfl;rfl;(focus((simp(disch:=omega) only[go_sem,b3,hz]);(try rfl);done));(first|rfl))|((apply Q0b (m1);rfl;rfl;rfl;rfl;exact Tryz.func9);kernel_rfl;rfl;(focus((simp(disch:=omega) only[go_sem,b3,hz]);(try rfl);done));(first|rfl))|((apply Q0b (m2);rfl;rfl;rfl;rfl;exact Tryz.func9);kernel_rfl;rfl;(focus((simp(disch:=omega) only[go_sem,b3,hz]);(try rfl);done));(first|rfl)));(simp(disch:=omega) only[go_sem,b3,hz];refine hK _ ?_;clear hK K))|((with_reducible refine Q0c ?_ ?_);rfl;intro K hK;simp(disch:=omega) only[go_sem,b3,hz];((repeat(refine ndI (by first|assumption|rfl) ?_));refine hK _ ?_;clear hK K))|(with_reducible first|(refine Q0d ?_;refine hR _ ?_;clear hR R)|((first|refine Q0e ?_|refine Q0l ?_);intro Ψ hΨ hΨ')|(refine Q0a ?_;intro R hR)|(refine hΨ _ ?_;clear hΨ hΨ' Ψ)|refine Q0j ?_|refine Q0h ?_)|((with_reducible refine hΨ' _ _ ?_ ?_);(focus(simp;done));clear hΨ hΨ' Ψ)|((with_reducible apply Q0s);rfl;rfl;rfl;all_goals(intro hb;first|(cases hb;done)|((try simp only[Bool.not_true,Bool.not_false] at hb);(first|((with_reducible intro K hK);simp(disch:=omega) only[go_sem,b3,hz];((repeat(refine ndI (by first|assumption|rfl) ?_));refine hK _ ?_;clear hK K))))))|((with_reducible apply Q0f);rfl;rfl;all_goals(intro hc;first|(cases hc;done)|(try simp only at hc))))))
  all_goals(refine⟨by simp,⟨_,?_,AV.le_refl _⟩,Q0g (by simp[leH,hget])⟩;simp only[Tryz.results47,resL,ldA,Q0o,go_sem])
 subst h3
 refine .inr ⟨⟨rfl,rfl,rfl,zz⟩,?_⟩
 (refine Q0n Tryz.func47 rfl (by rfl) ?_;simp only[Tryz.ntmps47,List.length_cons,List.length_nil,Nat.reduceAdd,Nat.reduceSub,List.replicate,List.cons_append,List.nil_append])
 (repeat(any_goals(first|((with_reducible refine Q0i ?_ ?_ ?_);rfl;rfl;intro K hK;(first|((first|(apply Q0b (aq);rfl;rfl;rfl;rfl;exact Tryz.func73)|(apply Q0b (le);rfl;rfl;rfl;rfl;exact Tryz.func81));kernel_rfl;rfl;(focus((simp(disch:=omega) only[go_sem,hz]);(try rfl);done));(first|rfl))|((apply Q0b (m1);rfl;rfl;rfl;rfl;exact Tryz.func9);kernel_rfl;rfl;(focus((simp(disch:=omega) only[go_sem,hz]);(try rfl);done));(first|rfl))|((apply Q0b (m2);rfl;rfl;rfl;rfl;exact Tryz.func9);kernel_rfl;rfl;(focus((simp(disch:=omega) only[go_sem,hz]);(try rfl);done));(first|rfl)));(simp(disch:=omega) only[go_sem,hz];refine hK _ ?_;clear hK K))|((with_reducible refine Q0c ?_ ?_);rfl;intro K hK;simp(disch:=omega) only[go_sem,hz];((repeat(refine ndI (by first|assumption|rfl) ?_));refine hK _ ?_;clear hK K))|(with_reducible first|(refine Q0d ?_;refine hR _ ?_;clear hR R)|((first|refine Q0e ?_|refine Q0l ?_);intro Ψ hΨ hΨ')|(refine Q0a ?_;intro R hR)|(refine hΨ _ ?_;clear hΨ hΨ' Ψ)|refine Q0j ?_|refine Q0h ?_)|((with_reducible refine hΨ' _ _ ?_ ?_);(focus(simp;done));clear hΨ hΨ' Ψ)|((with_reducible apply Q0s);rfl;rfl;rfl;all_goals(intro hb;first|(cases hb;done)|((try simp only[Bool.not_true,Bool.not_false] at hb);(first|((with_reducible intro K hK);simp(disch:=omega) only[go_sem,hz];((repeat(refine ndI (by first|assumption|rfl) ?_));refine hK _ ?_;clear hK K))))))|((with_reducible apply Q0f);rfl;rfl;all_goals(intro hc;first|(cases hc;done)|(try simp only at hc)))|((with_reducible refine Q0v ?_ ?_);kernel_rfl;(with_reducible refine hR _ ?_);clear hR R)|((first|((first|((with_reducible apply Q0w);rfl;rfl));(simp(disch:=omega) only[rdE,rdOf,go_sem,hz];rfl);(intro τ hA hQ hN;((try simp only[Q1a,Op.operands,Call.operands,go_sem,hz,go_sem,List.mem_cons,List.not_mem_nil,forall_eq_or_imp,forall_eq,List.append_toArray,Option.toArray] at hA);(try simp only[go_sem,hz,List.mem_cons,List.not_mem_nil,forall_eq_or_imp,forall_eq] at hQ hN);(first|(revert hA;intro hA));(first|(revert hQ;intro hQ));(first|(revert hN;intro hN));simp(disch:=omega) only[go_sem,hz,go_sem,hA,hQ,hN];(repeat(refine ndI (by first|assumption|rfl) ?_));(first|apply Q0z|apply Q2g)))));(simp(disch:=omega) only[St.eff,setO,Q0t,go_sem,hz]))|((with_reducible refine Q0q ?_ ?_ ?_ ?_);kernel_rfl;kernel_rfl;(first|kernel_rfl);intro R hR))))
 all_goals(refine⟨by simp,⟨_,?_,AV.le_refl _⟩,Q0g (by simp[leH,hget])⟩;simp only[Tryz.results47,resL,ldA,Q0o,go_sem])
end Go.Proofs.YtbmcdemnnbndeaaGreatDoor
namespace Go.Proofs.YtbmcdemnnbndeaaGreatDoor
open Go.RowKit
open Nat (reduceBEq)
set_option maxRecDepth 20000
set_option maxHeartbeats 4000000
theorem nat_no(w:Wl)(m:Ms)(now:Int)(k:Nat)(aq:Fn Tryz.prog 73 [bsl false m.inp] [] (.tup [vi .i64 (k:Int),vb false]) []):Fn Tryz.prog 47 [wlA w,msA m,vi .u64 now] [] (.tup [wlA w,vb false]) []:=by
 obtain⟨S,L,N⟩:=w
 obtain⟨fr,to,v,inp,gas,st⟩:=m
 dsimp only at *
 generalize (k:Int)=q at aq
 obtain⟨c1,h1⟩:∃b,(q==1)=b:=⟨_,rfl⟩
 obtain⟨c3,h3⟩:∃b,(q==3)=b:=⟨_,rfl⟩
 obtain⟨c4,h4⟩:∃b,(q==4)=b:=⟨_,rfl⟩
 cases c1<;>cases c3<;>cases c4
 all_goals(refine Q0n Tryz.func47 rfl (by rfl) ?_;simp only[Tryz.ntmps47,List.length_cons,List.length_nil,Nat.reduceAdd,Nat.reduceSub,List.replicate,List.cons_append,List.nil_append])
 all_goals(have W:=ndI h1 (ndI h3 h4);(repeat(any_goals(first|((with_reducible refine Q0i ?_ ?_ ?_);rfl;rfl;intro K hK;((apply Q0b (aq);rfl;rfl;rfl;rfl;exact Tryz.func73);kernel_rfl;rfl;(focus((simp only[go_sem,W]);(try rfl);done));(first|rfl));(simp only[go_sem,W];refine hK _ ?_;clear hK K))|((with_reducible refine Q0c ?_ ?_);rfl;intro K hK;simp only[go_sem,W];((repeat(refine ndI (by first|assumption) ?_));refine hK _ ?_;clear hK K))|(with_reducible first|(refine Q0d ?_;refine hR _ ?_;clear hR R)|((first|refine Q0e ?_);intro Ψ hΨ hΨ')|(refine Q0a ?_;intro R hR)|(refine hΨ _ ?_;clear hΨ hΨ' Ψ)|refine Q0h ?_)|((with_reducible refine hΨ' _ _ ?_ ?_);(focus(simp;done));clear hΨ hΨ' Ψ)|((with_reducible apply Q2v);rfl;rfl;rfl;(try simp only[go_sem,W]))|((with_reducible apply Q0s);rfl;rfl;rfl;all_goals(intro hb;first|(cases hb;done)|((try simp only[Bool.not_true,Bool.not_false] at hb);(first|((with_reducible intro K hK);simp only[go_sem,W];((repeat(refine ndI (by first|assumption) ?_));refine hK _ ?_;clear hK K))|((fail_if_success (with_reducible intro _));simp only[go_sem,W])))))|((with_reducible apply Q0f);rfl;rfl;all_goals(intro hc;first|(cases hc;done)|(try simp only at hc)))))))
 all_goals(refine⟨by simp,⟨_,?_,AV.le_refl _⟩,Q0g (by simp[leH,hget])⟩;simp only[Tryz.results47,resL,ldA,Q0o,go_sem])
def NatP(w:Wl)(m:Ms)(v:Wl):Prop:=∃s1 bk,Q2l w.S m.fr 1 m.v=(s1,0)∧Q2l s1 1 m.fr bk=(v.S,0)∧LedP w.L v.L m.v bk∧v.N=w.N
def AcQ(x:Ac):Prop:=x.ok∧x.code.length≤300∧x.store.length≤40
theorem X9f(x:Ac)(h:AcQ x):x.b<WW:=h.1.2.1
theorem Q9a(x:Ac)(b:Nat)(hb:b<WW)(h:AcQ x):AcQ {x with b:=b}:=⟨⟨h.1.1,hb,h.1.2.2⟩,h.2⟩
theorem Q3z{a:Int}(ua:U a):AcQ ⟨a,0,0,[],[]⟩:=⟨(Q9v ua).1,Nat.zero_le _,Nat.zero_le _⟩
theorem X6z{L:List Ac}(hl:L.length≤700)(h:∀y∈L,AcQ y):Okl L:=⟨by omega,fun x hx=>by have:=h x hx;exact⟨this.1,by have:=this.2.1;omega,by have:=this.2.2;omega⟩⟩
theorem Q8u{w:Wl}(hw:w.ok)(hs:w.S.length≤45){m:Ms}(hm:m.ok){now:Int}{lm:List lg.Hd}{bk:Nat}{G:Prop}(hl:lm.length≤60∧∀x∈lm,x.ok)
 (hG:G→(Q2l w.S m.fr 1 m.v).2=0∧(Q2l (Q2l w.S m.fr 1 m.v).1 1 m.fr bk).2=0∧LedP w.L lm m.v bk) (R:NatR w m now (Q2l (Q2l w.S m.fr 1 m.v).1 1 m.fr bk).1 lm G) :
 ∃v g,Fn Tryz.prog 47 [wlA w,msA m,vi .u64 now] [] (.tup [wlA v,vb g]) []∧(g=true→NatP w m v)∧v.ok:=by
 rcases R with R|⟨g,R⟩
 · exact⟨w,false,R,fun h=>(by cases h),hw⟩
 · obtain⟨g1,g2,g3⟩:=hG g
   have a1:=Q8b X9f Q9a (Q:=AcQ) (A:=w.S) hw.s.2 (Q3z hm.fr) (Q3z u1) m.v
   have a2:=Q8b X9f Q9a (Q:=AcQ) a1.2 (Q3z u1) (Q3z hm.fr) bk
   refine⟨_,true,R,fun _=>⟨_,bk,Prod.ext rfl g1,Prod.ext rfl g2,g3,rfl⟩,⟨by show(Q2l (Q2l w.S m.fr 1 m.v).1 1 m.fr bk).1.length≤60;omega,a2.2⟩,hl,hw.n⟩
theorem X8s(w:Wl)(hw:w.ok)(hs:w.S.length≤45)(m:Ms)(hm:m.ok)(now:Int)(un:U now) :
 ∃v g,Fn Tryz.prog 47 [wlA w,msA m,vi .u64 now] [] (.tup [wlA v,vb g]) []∧(g=true→NatP w m v)∧v.ok:=by
 have aq:=asked_fn m.inp hm.inp.1 hm.inp.2
 cases hb:askB m.inp with
 |false=>
  rw[hb] at aq
  exact⟨w,false,nat_no w m now _ aq,fun h=>(by cases h),hw⟩
 |true=>
  rw[hb] at aq
  have hlm:w.L.length≤maxLen:=Nat.le_trans hw.l.1 (by decide)
  have a1:=Q8b X9f Q9a (Q:=AcQ) (A:=w.S) hw.s.2 (Q3z hm.fr) (Q3z u1) m.v
  have m1:=X6m false w.S (X6z (by omega) hw.s.2) m.fr 1 hm.fr u1 m.v hm.v
  have m2:=fun bk hbk=>X6m false (Q2l w.S m.fr 1 m.v).1 (X6z (by omega) a1.2) 1 m.fr u1 hm.fr bk hbk
  have zv:vNe m.v=false→m.v=0:=fun h=>by
   rw[vNe_eq hm.v] at h
   simpa using h
  have hd:∀b∈m.inp.drop 1,b<256:=fun b h=>hm.inp.2 b (List.mem_of_mem_drop h)
  unfold askB at hb
  obtain⟨h6,hl⟩:=Bool.and_eq_true_iff.1 hb
  have h6:=of_decide_eq_true h6
  have hl:=eq_of_beq hl
  have hdl:(m.inp.drop 1).length=m.inp.length-1:=List.length_drop
  have e5:∀j,askK m.inp=j→X3i (askK m.inp)=X3i j:=fun j h=>by rw[h]
  rcases(by omega:askK m.inp=5∨askK m.inp=0∨askK m.inp=1∨askK m.inp=2∨askK m.inp=3∨askK m.inp=4) with h|h|h|h|h|h
  · rw[h] at aq
    obtain⟨lm,e2,le,lp,ll⟩:=dep_all hlm hw.l.2 hm.fr hm.v
    exact Q8u hw hs hm ll (fun g=>⟨g.1,g.2.2,lp g.2.1⟩) (nat_k5 w m now _ _ lm _ e2 _ aq m1 le (m2 0 (by decide)))
  · rw[h] at aq
    have hl9:(m.inp.length:Int)=9:=hl.trans (e5 0 h)
    have rd:=read_fn false (m.inp.drop 1) (by omega) hd
    have ut:U (rdN (m.inp.drop 1) 8:Int):=⟨by omega,by have:=X4m hd 8;have e:(256:Nat) ^ 8=18446744073709551616:=rfl;omega⟩
    obtain⟨lm,e2,le,lp,ll⟩:=dep_all hlm hw.l.2 ut hm.v
    exact Q8u hw hs hm ll (fun g=>⟨g.1,g.2.2,lp g.2.1⟩) (nat_k0 w m now _ _ lm _ e2 _ (by omega) (by omega) aq m1 _ rd le (m2 0 (by decide)))
  · rw[h] at aq
    have hl9:(m.inp.length:Int)=33:=hl.trans (e5 1 h)
    obtain⟨bk,hbk,rd⟩:=wread_val false (m.inp.drop 1) (by omega) hd
    obtain⟨lm,e2,le,lp,ll⟩:=wdr_all hlm hw.l.2 hm.fr hbk
    exact Q8u hw hs hm ll (fun g=>⟨g.1,g.2.2.1,by rw[zv g.2.2.2];exact lp g.2.1⟩) (nat_k1 w m now _ _ lm _ e2 _ bk (by omega) (by omega) aq m1 rd le (m2 bk hbk))
  · rw[h] at aq
    have hl9:(m.inp.length:Int)=9:=hl.trans (e5 2 h)
    obtain⟨y,uy,rd⟩:=u64_val false (m.inp.drop 1) (by omega) hd
    obtain⟨lm,e2,le,lp,ll⟩:=bond_all hlm hw.l.2 hm.fr hm.v uy
    exact Q8u hw hs hm ll (fun g=>⟨g.1,g.2.2,lp g.2.1⟩) (nat_k2 w m now _ _ lm _ e2 _ (by omega) (by omega) aq m1 y rd le (m2 0 (by decide)))
  · rw[h] at aq
    obtain⟨lm,e2,le,lp,ll⟩:=unl_all hlm hw.l.2 hm.fr un
    exact Q8u hw hs hm ll (fun g=>⟨g.1,g.2.2.1,by rw[zv g.2.2.2];exact lp g.2.1⟩) (nat_k3 w m now _ _ lm _ e2 _ aq m1 le (m2 0 (by decide)))
  · rw[h] at aq
    obtain⟨lm,bk,e2,le,lp,hbk,ll⟩:=rel_all hlm hw.l.2 hm.fr un
    exact Q8u hw hs hm ll (fun g=>⟨g.1,g.2.2.1,by rw[zv g.2.2.2];exact lp g.2.1⟩) (nat_k4 w m now _ _ lm _ e2 _ bk aq m1 le (m2 bk hbk))
theorem wl_nil:(AV.agg [.c (.v (.slice none 0 0)),.c (.v (.slice none 0 0)),.c (.v (.slice none 0 0))]).le (wlA ⟨[],[],[]⟩):=AV.le_agg ⟨AV.le_nil _ _,AV.le_nil _ _,AV.le_nil _ _,trivial⟩
theorem X3z:(⟨[],[],[]⟩:Wl).ok:=⟨⟨Nat.zero_le _,fun x h=>by cases h⟩,⟨Nat.zero_le _,fun x h=>by cases h⟩,⟨Nat.zero_le _,fun x h=>by cases h⟩⟩
theorem Native_fn(w:Wl)(hw:w.ok)(hr:Q1b w=true)(hs:w.S.length≤45)(m:Ms)(hm:m.ok)(now:Int)(un:U now) :
 ∃v e,Fn Tryz.prog 10 [wlA w,msA m,vi .u64 now] [] (.tup [wlA v,vi .i64 e]) []∧(e=0→NatP w m v)∧v.ok:=by
 have cw:=X1k w hw
 rw[hr,if_pos rfl] at cw
 have cm:=ckM_fn m hm
 obtain⟨v,g,nf,hp,hv⟩:=X8s w hw hs m hm now un
 have ow:=ownW_fn v hv
 cases hb:msB m with
 |true=>
  rw[hb,if_pos rfl] at cm
  refine⟨⟨[],[],[]⟩,260,?_,fun h=>(by cases h),X3z⟩
  refine Fn.weaken (H1:=[]) ?_ (AV.le_tup2 wl_nil (AV.le_refl _)) (fun r cs h=>by cases h)
  clear nf hp ow hw hm hr
  obtain⟨S,L,N⟩:=w
  obtain⟨fr,to,v,inp,gas,st⟩:=m
  (refine Q0n Tryz.func10 rfl (by rfl) ?_;simp only[Tryz.ntmps10,List.length_cons,List.length_nil,Nat.reduceAdd,Nat.reduceSub,List.replicate,List.cons_append,List.nil_append])
  (repeat(any_goals(first|((with_reducible refine Q0i ?_ ?_ ?_);rfl;rfl;intro K hK;((first|(apply Q0b (cw);rfl;rfl;rfl;rfl;exact Tryz.func6)|(apply Q0b (cm);rfl;rfl;rfl;rfl;exact Tryz.func46));kernel_rfl;rfl;(focus((simp only[go_sem]);(try rfl);done));(first|rfl));(simp only[go_sem];refine hK _ ?_;clear hK K))|((with_reducible refine Q0c ?_ ?_);rfl;intro K hK;simp only[go_sem];((repeat(refine ndI (by first|assumption) ?_));refine hK _ ?_;clear hK K))|(with_reducible first|(refine Q0d ?_;refine hR _ ?_;clear hR R)|((first|refine Q0e ?_);intro Ψ hΨ hΨ')|(refine Q0a ?_;intro R hR)|(refine hΨ _ ?_;clear hΨ hΨ' Ψ)|refine Q0j ?_|refine Q0h ?_)|((with_reducible refine hΨ' _ _ ?_ ?_);(focus(simp;done));clear hΨ hΨ' Ψ)|((with_reducible apply Q0f);rfl;rfl;all_goals(intro hc;first|(cases hc;done)|(try simp only at hc))))))
  all_goals(refine⟨by simp,⟨_,?_,AV.le_refl _⟩,Q0g (by simp[leH,hget])⟩;simp only[Tryz.results10,resL,ldA,Q0o,go_sem])
 |false=>
  rw[hb,if_neg (by simp)] at cm
  cases g with
  |false=>
   refine⟨⟨[],[],[]⟩,263,?_,fun h=>(by cases h),X3z⟩
   refine Fn.weaken (H1:=[]) ?_ (AV.le_tup2 wl_nil (AV.le_refl _)) (fun r cs h=>by cases h)
   clear hp ow hw hm hr hv
   obtain⟨S,L,N⟩:=w
   obtain⟨fr,to,v',inp,gas,st⟩:=m
   (refine Q0n Tryz.func10 rfl (by rfl) ?_;simp only[Tryz.ntmps10,List.length_cons,List.length_nil,Nat.reduceAdd,Nat.reduceSub,List.replicate,List.cons_append,List.nil_append])
   (repeat(any_goals(first|((with_reducible refine Q0i ?_ ?_ ?_);rfl;rfl;intro K hK;((first|(apply Q0b (cw);rfl;rfl;rfl;rfl;exact Tryz.func6)|(apply Q0b (cm);rfl;rfl;rfl;rfl;exact Tryz.func46)|(apply Q0b (nf);rfl;rfl;rfl;rfl;exact Tryz.func47));kernel_rfl;rfl;(focus((simp only[go_sem]);(try rfl);done));(first|rfl));(simp only[go_sem];refine hK _ ?_;clear hK K))|((with_reducible refine Q0c ?_ ?_);rfl;intro K hK;simp only[go_sem];((repeat(refine ndI (by first|assumption) ?_));refine hK _ ?_;clear hK K))|(with_reducible first|(refine Q0d ?_;refine hR _ ?_;clear hR R)|((first|refine Q0e ?_);intro Ψ hΨ hΨ')|(refine Q0a ?_;intro R hR)|(refine hΨ _ ?_;clear hΨ hΨ' Ψ)|refine Q0j ?_|refine Q0h ?_)|((with_reducible refine hΨ' _ _ ?_ ?_);(focus(simp;done));clear hΨ hΨ' Ψ)|((with_reducible apply Q0f);rfl;rfl;all_goals(intro hc;first|(cases hc;done)|(try simp only at hc))))))
   all_goals(refine⟨by simp,⟨_,?_,AV.le_refl _⟩,Q0g (by simp[leH,hget])⟩;simp only[Tryz.results10,resL,ldA,Q0o,go_sem])
  |true=>
   refine⟨v,0,?_,fun _=>hp rfl,hv⟩
   clear hp hw hm hr hv
   obtain⟨S,L,N⟩:=w
   obtain⟨vS,vL,vN⟩:=v
   obtain⟨fr,to,v',inp,gas,st⟩:=m
   (refine Q0n Tryz.func10 rfl (by rfl) ?_;simp only[Tryz.ntmps10,List.length_cons,List.length_nil,Nat.reduceAdd,Nat.reduceSub,List.replicate,List.cons_append,List.nil_append])
   (repeat(any_goals(first|((with_reducible refine Q0i ?_ ?_ ?_);rfl;rfl;intro K hK;((first|(apply Q0b (cw);rfl;rfl;rfl;rfl;exact Tryz.func6)|(apply Q0b (cm);rfl;rfl;rfl;rfl;exact Tryz.func46)|(apply Q0b (nf);rfl;rfl;rfl;rfl;exact Tryz.func47)|(apply Q0b (ow);rfl;rfl;rfl;rfl;exact Tryz.func48));kernel_rfl;rfl;(focus((simp only[go_sem]);(try rfl);done));(first|rfl));(simp only[go_sem];refine hK _ ?_;clear hK K))|((with_reducible refine Q0c ?_ ?_);rfl;intro K hK;simp only[go_sem];((repeat(refine ndI (by first|assumption) ?_));refine hK _ ?_;clear hK K))|(with_reducible first|(refine Q0d ?_;refine hR _ ?_;clear hR R)|((first|refine Q0e ?_);intro Ψ hΨ hΨ')|(refine Q0a ?_;intro R hR)|(refine hΨ _ ?_;clear hΨ hΨ' Ψ)|refine Q0j ?_|refine Q0h ?_)|((with_reducible apply Q0f);rfl;rfl;all_goals(intro hc;first|(cases hc;done)|(try simp only at hc))))))
   all_goals(refine⟨by simp,⟨_,?_,AV.le_refl _⟩,Q0g (by simp[leH,hget])⟩;simp only[Tryz.results10,resL,ldA,Q0o,go_sem])
end Go.Proofs.YtbmcdemnnbndeaaGreatDoor
namespace Go.Proofs.YtbmcdemnnbndeaaGreatDoor
open Go.RowKit
open Nat (reduceBEq)
set_option maxRecDepth 20000
set_option maxHeartbeats 4000000
theorem world_row(w:Wl)(hw:w.raw):Fn Tryz.prog 5 [wlA w] [] (.agg [.row 9 62 8 (cutW w).S.length,.c (hdV (cutW w).L),.c (noV (cutW w).N)]) [(9,rcS (cutW w).S)]:=by
 obtain⟨S,L,N⟩:=w
 obtain⟨⟨hs,os⟩,⟨hl,ol⟩,⟨hn,on'⟩⟩:=hw
 dsimp only at hs os hl ol hn on'
 have s8:S.length<9223372036854775808:=Nat.lt_succ_of_le hs
 have l8:L.length<9223372036854775808:=Nat.lt_succ_of_le hl
 have n8:N.length<9223372036854775808:=Nat.lt_succ_of_le hn
 have c1:=X1j false (S.take 45) (by rw[List.length_take];omega)
 have c4:=cloneHv false (L.take 40) (by rw[List.length_take];omega)
 have c5:=cloneNv false (N.take 70) (by rw[List.length_take];omega)
 have e1:(if (45:Int)<(S.length:Int) then(45:Int) else(S.length:Int))=((min S.length 45:Nat):Int):=X0v S.length 45
 have e2:(S.flatMap Ac.pv).take (min S.length 45*8)=(S.take 45).flatMap Ac.pv:=by rw[Q2u Q6a,Q5m]
 have e3:(S.take 45).length=min S.length 45:=by rw[List.length_take,Nat.min_comm]
 have e4:(if (40:Int)<(L.length:Int) then(40:Int) else(L.length:Int))=((min L.length 40:Nat):Int):=X0v L.length 40
 have e5:(L.flatMap lg.Hd.pv).take (min L.length 40*11)=(L.take 40).flatMap lg.Hd.pv:=by rw[Q2u lg.hd_len,Q5m]
 have e6:(L.take 40).length=min L.length 40:=by rw[List.length_take,Nat.min_comm]
 have e7:(if (70:Int)<(N.length:Int) then(70:Int) else(N.length:Int))=((min N.length 70:Nat):Int):=X0v N.length 70
 have e8:(N.flatMap nz.N6.pv).take (min N.length 70*6)=(N.take 70).flatMap nz.N6.pv:=by rw[Q2u nz.pv_len,Q5m]
 have e9:(N.take 70).length=min N.length 70:=by rw[List.length_take,Nat.min_comm]
 have os':∀x∈S.take 45,x.ok:=fun x hx=>os x (List.mem_of_mem_take hx)
 show Fn Tryz.prog 5 [wlA ⟨S,L,N⟩] [] (.agg [.row 9 62 8 ((S.take 45).map cutA).length,.c (hdV (L.take 40)),.c (noV (N.take 70))]) [(9,rcS ((S.take 45).map cutA))]
 have h45:(S.take 45).length≤45:=by rw[List.length_take];omega
 unfold acS at c1
 rw[e3] at c1
 unfold hdV at c4
 rw[e6] at c4
 unfold noV at c5
 rw[e9] at c5
 have m1:((S.take 45).map cutA).length=min S.length 45:=by rw[List.length_map,e3]
 unfold hdV noV
 rw[m1,e6,e9]
 rw[←e3] at e1 e2 c1 m1 ⊢
 generalize S.take 45=M at *
 have f1:∀d,AV.refsL d (rcS M)=false:=fun d=>Q0m d _
 have f2:∀r,AV.renL r (rcS M)=rcS M:=fun r=>Q0p r _
 have f3:∀r,AV.inNL r (rcS M)=true:=fun r=>Q0x r _
 have f4:=Q6j M
 (refine Q0n Tryz.func5 rfl (by rfl) ?_;simp only[Tryz.ntmps5,List.length_cons,List.length_nil,Nat.reduceAdd,Nat.reduceSub,List.replicate,List.cons_append,List.nil_append])
 (have W:=ndI e1 (ndI e2 (ndI f1 (ndI f2 (ndI f3 f4))));(repeat(any_goals(first|((with_reducible refine Q0i ?_ ?_ ?_);rfl;rfl;intro K hK;(apply Q0y (c1) (fun r=>9);rfl;rfl;rfl;rfl;exact Tryz.func16;kernel_rfl;rfl;rfl;(intro r hr q hq h;simp(disch:=omega) only[List.map_cons,List.map_nil,List.cons_append,List.nil_append,List.mem_cons,List.not_mem_nil,or_false] at hr hq;(try dsimp only at h);first|omega);(simp(disch:=omega) only[Q1e,Q1y,AV.ren,AV.renL,Q0p,List.mem_cons,List.not_mem_nil,forall_eq_or_imp,forall_eq,Q1v,List.contains_cons,List.contains_nil,AV.refsL,AV.refs,Q0m,AV.inN,AV.inNL,inH,Q0x,go_sem,W,Bool.false_and]));(simp(disch:=omega) only[Q0t,Q1w,renH,AV.ren,AV.renL,Q0p,go_sem,W,Bool.false_and];refine hK _ ?_;clear hK K))|((with_reducible refine Q0c ?_ ?_);rfl;intro K hK;simp(disch:=omega) only[go_sem,W,Bool.false_and];((repeat(refine ndI (by first|assumption|omega|rfl) ?_));refine hK _ ?_;clear hK K))|(with_reducible first|(refine Q0d ?_;refine hR _ ?_;clear hR R)|((first|refine Q0e ?_|refine Q0l ?_);intro Ψ hΨ hΨ')|(refine Q0a ?_;intro R hR)|(refine hΨ _ ?_;clear hΨ hΨ' Ψ))))))
 have rr:∀(A B:List Ac) (d:Nat),AV.refsL d (rcS (A++B))=false:=fun A B d=>Q0m d _
 refine Q3n M.length (fun i=>⟨[wlA ⟨S,L,N⟩,.ptr 1 0,.ptr 2 0,.any,.any,.any,.any,.any,.any,.any,.any,.any,.any,.any,.any,.any,.any,.any,.any,.any,vi .i64 M.length,vi .i64 (i:Int),.any,.any,.any,.any,.any,.any,.any,.any,.any,.any,.any,.any,.any,.any,.any,.any,.any,.any,.any,.any,.any,.any,.any,.any,.any,.any,.any,.any,.any,.any,.any,.any,.any,.any,.any,.any,.any,.any,.any,.any,.any,.any,.any,.any,.any,.any,.any,.any,.any,.any,.any,.any,.any,.any,.any,.any,.any,.any,.any,.any],[(1,[.row 9 62 8 M.length,.c (hdV L),.c (noV N)]),(2,[.c (.v (.slice none 0 0)),.c (.v (.slice none 0 0)),.c (.v (.slice none 0 0))]),(9,rcS ((M.take i).map cutA++M.drop i))]⟩) (St.le_of (by simp[leT]) (by simp[leH,hget])) ?_
 intro i hi Ψ hΨ hΨ'
 (try dsimp only at hΨ ⊢)
 have k8:M.length<9223372036854775808:=by omega
 rcases Nat.lt_or_ge i M.length with hlt|hge
 · obtain⟨y,hy⟩:∃x,M[i]? = some x:=⟨_,List.getElem?_eq_getElem hlt⟩
   have k1:(decide ((i:Int)<(M.length:Int)))=true:=decide_eq_true (by omega)
   have k7:(i:Int)+1=((i+1:Nat):Int):=by omega
   have hA:((M.take i).map cutA).length=i:=by rw[List.length_map,List.length_take];omega
   have d1:M.drop i=y::M.drop (i+1):=by
    rw[List.drop_eq_getElem_cons hlt]
    congr 1
    exact(List.getElem?_eq_some_iff.1 hy).2
   have d2:(M.take (i+1)).map cutA++M.drop (i+1)=(M.take i).map cutA++cutA y::M.drop (i+1):=by
    rw[List.take_add_one,hy,List.map_append];simp
   rw[d2] at hΨ
   rw[d1]
   have yo:=os' y (List.mem_of_getElem? hy)
   have y8:y.code.length<9223372036854775808:=Nat.lt_succ_of_le yo.2.2.2.1.1
   have z8:y.store.length<9223372036854775808:=Nat.lt_succ_of_le yo.2.2.2.2.1
   have b1:=cloneBv false (y.code.take 300) (by rw[List.length_take];omega)
   have b2:=clonePv false (y.store.take 40) (by rw[List.length_take];omega)
   have g1:(if (300:Int)<(y.code.length:Int) then(300:Int) else(y.code.length:Int))=((min y.code.length 300:Nat):Int):=X0v y.code.length 300
   have g2:(y.code.flatMap bpv).take (min y.code.length 300)=(y.code.take 300).flatMap bpv:=by
    have:=Q2u (f:=bpv) Q3f y.code (min y.code.length 300)
    rw[Nat.mul_one] at this
    rw[this,Q5m]
   have g3:(y.code.take 300).length=min y.code.length 300:=by rw[List.length_take,Nat.min_comm]
   have g4:(if (40:Int)<(y.store.length:Int) then(40:Int) else(y.store.length:Int))=((min y.store.length 40:Nat):Int):=X0v y.store.length 40
   have g5:(y.store.flatMap Pr.pv).take (min y.store.length 40*8)=(y.store.take 40).flatMap Pr.pv:=by rw[Q2u Q9d,Q5m]
   have g6:(y.store.take 40).length=min y.store.length 40:=by rw[List.length_take,Nat.min_comm]
   generalize (M.take i).map cutA=A at hA hΨ ⊢
   generalize M.drop (i+1)=B at hΨ ⊢
   obtain⟨u1,u2⟩:=acell (B:=B) (y:=y) hA
   have u3:=X7f (B:=B) (y:=y) hA (y.code.take 300)
   have u4:=X4f (B:=B) (y:=⟨y.a,y.b,y.n,y.code.take 300,y.store⟩) hA (y.store.take 40)
   have u5:=Q6j (A++y::B)
   have u6:=Q6j (A++⟨y.a,y.b,y.n,y.code.take 300,y.store⟩::B)
   have v1:i*8+8≤(rcS (A++y::B)).length:=by rw[u5,List.length_append,List.length_cons];omega
   have v2:i*8+8≤(rcS (A++⟨y.a,y.b,y.n,y.code.take 300,y.store⟩::B)).length:=by rw[u6,List.length_append,List.length_cons];omega
   unfold bsV at b1 u3
   unfold psV at b2 u4
   rw[g3] at b1 u3
   rw[g6] at b2 u4
   have q1:=rr A (y::B)
   have q2:=rr A (⟨y.a,y.b,y.n,y.code.take 300,y.store⟩::B)
   have q3:=rr A (⟨y.a,y.b,y.n,y.code.take 300,y.store.take 40⟩::B)
   (have W:=ndI k1 (ndI k7 (ndI g1 (ndI g2 (ndI g4 (ndI g5 (ndI u1 (ndI u2 (ndI u3 (ndI u4 (ndI q1 (ndI q2 (ndI q3 @wrI))))))))))));(repeat(any_goals(first|((with_reducible refine Q0c ?_ ?_);rfl;intro K hK;simp(disch:=omega) only[go_sem,W,Bool.false_and,Nat.mul_one];((repeat(refine ndI (by first|assumption|omega|rfl) ?_));refine hK _ ?_;clear hK K))|(with_reducible first|(refine Q0d ?_;refine hR _ ?_;clear hR R)|((first|refine Q0e ?_|refine Q0l ?_);intro Ψ hΨ hΨ')|(refine Q0a ?_;intro R hR)|(refine hΨ _ ?_;clear hΨ hΨ' Ψ)|refine Q0j ?_)|((with_reducible refine hΨ' _ _ ?_ ?_);(focus(simp;done));clear hΨ hΨ' Ψ)|((with_reducible apply Q0f);rfl;rfl;all_goals(intro hc;first|(cases hc;done)|(try simp only at hc)))|((with_reducible refine Q0v ?_ ?_);(apply Q5i);(focus(repeat(first|exact Sims.nil|((apply Sims.cons);(focus(first|((apply Ef.sim_row);assumption)|exact Ef.sim_refl _))))));kernel_rfl;(with_reducible refine hR _ ?_);clear hR R)|((first|((with_reducible apply Q1c);rfl;rfl;((first|(apply Q0r (b1);rfl;rfl;rfl;rfl;exact Tryz.func17)|(apply Q0r (b2);rfl;rfl;rfl;rfl;exact Tryz.func18));kernel_rfl;rfl;(focus((simp(disch:=omega) only[go_sem,W,Bool.false_and,Nat.mul_one]);(try rfl);done));(first|rfl)))|((with_reducible apply Q0w);rfl;rfl;(simp(disch:=omega) only[rdE,rdOf,go_sem,W,Bool.false_and,Nat.mul_one];rfl);(intro τ hA hQ hN;((try simp only[Q1a,Op.operands,Call.operands,go_sem,W,Bool.false_and,Nat.mul_one,go_sem,List.mem_cons,List.not_mem_nil,forall_eq_or_imp,forall_eq,List.append_toArray,Option.toArray] at hA);(try simp only[go_sem,W,Bool.false_and,Nat.mul_one,List.mem_cons,List.not_mem_nil,forall_eq_or_imp,forall_eq] at hQ hN);(first|(revert hA;intro hA));(first|(revert hQ;intro hQ));(first|(revert hN;intro hN));simp(disch:=omega) only[go_sem,W,Bool.false_and,Nat.mul_one,go_sem,hA,hQ,hN];(repeat(refine ndI (by first|assumption|omega|rfl) ?_));(first|apply Q0z|apply Q2g)))));(simp(disch:=omega) only[St.eff,setO,Q0t,go_sem,W,Bool.false_and,Nat.mul_one]))|((with_reducible refine Q0q ?_ ?_ ?_ ?_);kernel_rfl;kernel_rfl;(simp[Q1n,Q5f,St.free,Q2i,AV.refsL,AV.refs,q1]);intro R hR)))))
   all_goals exact hΨ _ hlt (St.le_of (by simp[leT]) (by simp[leH,hget,cutA]))
 · have k1:(decide ((i:Int)<(M.length:Int)))=false:=decide_eq_false (by omega)
   rw[List.take_of_length_le hge,List.drop_eq_nil_of_le hge,List.append_nil]
   have f5:∀d,AV.refsL d (rcS (M.map cutA))=false:=fun d=>Q0m d _
   (have W:=ndI k1 (ndI e4 (ndI e5 (ndI e7 (ndI e8 f5))));(repeat(any_goals(first|((with_reducible refine Q0i ?_ ?_ ?_);rfl;rfl;intro K hK;((first|(apply Q0b (c4);rfl;rfl;rfl;rfl;exact Tryz.func19)|(apply Q0b (c5);rfl;rfl;rfl;rfl;exact Tryz.func20));kernel_rfl;rfl;(focus((simp(disch:=omega) only[go_sem,W,Bool.false_and]);(try rfl);done));(first|rfl));(simp(disch:=omega) only[go_sem,W,Bool.false_and];refine hK _ ?_;clear hK K))|((with_reducible refine Q0c ?_ ?_);rfl;intro K hK;simp(disch:=omega) only[go_sem,W,Bool.false_and];((repeat(refine ndI (by first|assumption|omega|rfl) ?_));refine hK _ ?_;clear hK K))|(with_reducible first|(refine Q0d ?_;refine hR _ ?_;clear hR R)|((first|refine Q0e ?_);intro Ψ hΨ hΨ')|(refine Q0a ?_;intro R hR)|(refine hΨ _ ?_;clear hΨ hΨ' Ψ)|refine Q0h ?_|refine Q1f ?_)|((with_reducible refine hΨ' _ _ ?_ ?_);(focus(simp;done));clear hΨ hΨ' Ψ)|((with_reducible apply Q0f);rfl;rfl;all_goals(intro hc;first|(cases hc;done)|(try simp only at hc)))))))
   all_goals(refine⟨by simp,⟨_,?_,AV.le_refl _⟩,Q0g (by simp[leH,hget])⟩;simp only[Tryz.results5,resL,ldA,Q0o,go_sem])
theorem world_fn(w:Wl)(hw:w.raw):Fn Tryz.prog 5 [wlA w] [] (wlA (cutW w)) []:=by
 have k:=(world_row w hw).frzN (d:=9) (pcs:=(cutW w).S.flatMap Ac.pv) rfl
 have e1:((cutW w).S.flatMap Ac.pv).length=(cutW w).S.length*8:=Q0u Q6a _
 simpa [-List.length_flatMap,e1,AV.frz,AV.frzL,frzH,acV,vi] using k
end Go.Proofs.YtbmcdemnnbndeaaGreatDoor
namespace Go.Proofs.YtbmcdemnnbndeaaGreatDoor
open Go.RowKit
open Nat (reduceBEq)
set_option maxRecDepth 20000
set_option maxHeartbeats 4000000
def exN(w:Wl):Nat:=if Q1b w&&decide (Q2h w≤hasN w) then hasN w-Q2h w else 0
def exB(w:Wl):Bool:=Q1b w&&decide (Q2h w≤hasN w)
theorem excess_fn(w:Wl)(hw:w.ok):Fn Tryz.prog 12 [wlA w] [] (.tup [wN (exN w),vb (exB w)]) []:=by
 have f1:=has_fn w hw
 have f2:=X6f w hw
 have f3:=X0w false w hw
 have s:=X7e (hasN w) (Q2h w) (Q8x hw) (Q7r w)
 have e:¬hasN w<Q2h w→(hasN w+WW-Q2h w)%WW=hasN w-Q2h w:=fun h=>by
  have h1:=Q8x hw
  rw[show hasN w+WW-Q2h w=(hasN w-Q2h w)+WW by omega,Nat.add_mod_right,Nat.mod_eq_of_lt (by omega)]
 unfold exN exB
 by_cases h:hasN w<Q2h w
 · rw[decide_eq_true h] at s
   rw[decide_eq_false (show ¬Q2h w≤hasN w by omega),Bool.and_false]
   simp only[Bool.false_eq_true,if_false]
   generalize (hasN w+WW-Q2h w)%WW=m at s
   generalize hasN w=n1 at *
   generalize Q2h w=n2 at *
   (refine Q0n Tryz.func12 rfl (by rfl) ?_;simp only[Tryz.ntmps12,List.length_cons,List.length_nil,Nat.reduceAdd,Nat.reduceSub,List.replicate,List.cons_append,List.nil_append])
   (repeat(any_goals(first|((with_reducible refine Q0c ?_ ?_);rfl;intro K hK;simp only[go_sem];((repeat(refine ndI (by first|assumption) ?_));refine hK _ ?_;clear hK K))|(with_reducible first|(refine Q0d ?_;refine hR _ ?_;clear hR R)|((first|refine Q0e ?_);intro Ψ hΨ hΨ')|(refine Q0a ?_;intro R hR)|(refine hΨ _ ?_;clear hΨ hΨ' Ψ)|refine Q0h ?_)|((with_reducible refine hΨ' _ _ ?_ ?_);(focus(simp;done));clear hΨ hΨ' Ψ)|((with_reducible apply Q0s);rfl;rfl;rfl;all_goals(intro hb;first|(cases hb;done)|((try simp only[Bool.not_true,Bool.not_false] at hb);(first|((fail_if_success (with_reducible intro _));simp only[go_sem])))))|((with_reducible apply Q0f);rfl;rfl;all_goals(intro hc;first|(cases hc;done)|(try simp only at hc)))|((with_reducible refine Q0v ?_ ?_);kernel_rfl;(with_reducible refine hR _ ?_);clear hR R)|((first|((with_reducible apply Q1c);rfl;rfl;((first|(apply Q0r (f1);rfl;rfl;rfl;rfl;exact Tryz.func28)|(apply Q0r (f2);rfl;rfl;rfl;rfl;exact Tryz.func29)|(apply Q0r (s);rfl;rfl;rfl;rfl;exact Tryz.func52));kernel_rfl;rfl;(focus((simp only[go_sem]);(try rfl);done));(first|rfl)))|((with_reducible apply Q0w);rfl;rfl;(simp only[rdE,rdOf,go_sem];rfl);(intro τ hA hQ hN;((try simp only[Q1a,Op.operands,Call.operands,go_sem,List.mem_cons,List.not_mem_nil,forall_eq_or_imp,forall_eq,List.append_toArray,Option.toArray] at hA);(try simp only[go_sem,List.mem_cons,List.not_mem_nil,forall_eq_or_imp,forall_eq] at hQ hN);(first|(revert hA;intro hA));(first|(revert hQ;intro hQ));(first|(revert hN;intro hN));simp only[go_sem,hA,hQ,hN];(repeat(refine ndI (by first|assumption) ?_));(first|apply Q0z|apply Q2g))))|((first|((with_reducible apply Q4g);rfl;rfl;rfl));(intro τ hA hQ hN;((try simp only[Q1a,Op.operands,Call.operands,go_sem,List.mem_cons,List.not_mem_nil,forall_eq_or_imp,forall_eq,List.append_toArray,Option.toArray] at hA);(try simp only[go_sem,List.mem_cons,List.not_mem_nil,forall_eq_or_imp,forall_eq] at hQ);(first|(revert hA;intro hA));(first|(revert hQ;intro hQ));simp only[go_sem,hA,hQ,hN];(repeat(refine ndI (by first|assumption) ?_));exact Q5y _ _ _ _))));(simp only[St.eff,setO,Q0t,go_sem]))|((with_reducible refine Q0q ?_ ?_ ?_ ?_);kernel_rfl;kernel_rfl;(first|kernel_rfl);intro R hR))))
   all_goals(refine⟨by simp,⟨_,?_,AV.le_refl _⟩,Q0g (by simp[leH,hget])⟩;simp only[Tryz.results12,resL,ldA,Q0o,go_sem])
   all_goals rfl
 · rw[decide_eq_false h,e h] at s
   rw[decide_eq_true (show Q2h w≤hasN w by omega),Bool.and_true]
   generalize hasN w-Q2h w=m at s ⊢
   generalize hasN w=n1 at *
   generalize Q2h w=n2 at *
   generalize Q1b w=q at *
   cases q
   all_goals simp only[Bool.false_eq_true,if_false,if_true]
   all_goals(refine Q0n Tryz.func12 rfl (by rfl) ?_;simp only[Tryz.ntmps12,List.length_cons,List.length_nil,Nat.reduceAdd,Nat.reduceSub,List.replicate,List.cons_append,List.nil_append])
   all_goals(repeat(any_goals(first|((with_reducible refine Q0c ?_ ?_);rfl;intro K hK;simp only[go_sem];((repeat(refine ndI (by first|assumption) ?_));refine hK _ ?_;clear hK K))|(with_reducible first|(refine Q0d ?_;refine hR _ ?_;clear hR R)|((first|refine Q0e ?_);intro Ψ hΨ hΨ')|(refine Q0a ?_;intro R hR)|(refine hΨ _ ?_;clear hΨ hΨ' Ψ)|refine Q0j ?_|refine Q0h ?_)|((with_reducible refine hΨ' _ _ ?_ ?_);(focus(simp;done));clear hΨ hΨ' Ψ)|((with_reducible apply Q0s);rfl;rfl;rfl;all_goals(intro hb;first|(cases hb;done)|((try simp only[Bool.not_true,Bool.not_false] at hb);(first|((with_reducible intro K hK);(first|((apply Q5e (f3);rfl;rfl;rfl;rfl;exact Tryz.func24);kernel_rfl;rfl;(focus((simp only[AV.viewL,AV.view,Q4b,unC,Option.map_some,go_sem]);(try rfl)));rfl)|skip);simp only[go_sem];((repeat(refine ndI (by first|assumption) ?_));refine hK _ ?_;clear hK K))))))|((with_reducible apply Q0f);rfl;rfl;all_goals(intro hc;first|(cases hc;done)|(try simp only at hc)))|((with_reducible refine Q0v ?_ ?_);kernel_rfl;(with_reducible refine hR _ ?_);clear hR R)|((first|((with_reducible apply Q1c);rfl;rfl;((first|(apply Q0r (f1);rfl;rfl;rfl;rfl;exact Tryz.func28)|(apply Q0r (f2);rfl;rfl;rfl;rfl;exact Tryz.func29)|(apply Q0r (s);rfl;rfl;rfl;rfl;exact Tryz.func52));kernel_rfl;rfl;(focus((simp only[go_sem]);(try rfl);done));(first|rfl)))|((with_reducible apply Q0w);rfl;rfl;(simp only[rdE,rdOf,go_sem];rfl);(intro τ hA hQ hN;((try simp only[Q1a,Op.operands,Call.operands,go_sem,List.mem_cons,List.not_mem_nil,forall_eq_or_imp,forall_eq,List.append_toArray,Option.toArray] at hA);(try simp only[go_sem,List.mem_cons,List.not_mem_nil,forall_eq_or_imp,forall_eq] at hQ hN);(first|(revert hA;intro hA));(first|(revert hQ;intro hQ));(first|(revert hN;intro hN));simp only[go_sem,hA,hQ,hN];(repeat(refine ndI (by first|assumption) ?_));(first|apply Q0z|apply Q2g))))|((first|((with_reducible apply Q4g);rfl;rfl;rfl));(intro τ hA hQ hN;((try simp only[Q1a,Op.operands,Call.operands,go_sem,List.mem_cons,List.not_mem_nil,forall_eq_or_imp,forall_eq,List.append_toArray,Option.toArray] at hA);(try simp only[go_sem,List.mem_cons,List.not_mem_nil,forall_eq_or_imp,forall_eq] at hQ);(first|(revert hA;intro hA));(first|(revert hQ;intro hQ));simp only[go_sem,hA,hQ,hN];(repeat(refine ndI (by first|assumption) ?_));exact Q5y _ _ _ _))));(simp only[St.eff,setO,Q0t,go_sem]))|((with_reducible refine Q0q ?_ ?_ ?_ ?_);kernel_rfl;kernel_rfl;(first|kernel_rfl);intro R hR))))
   all_goals(refine⟨by simp,⟨_,?_,AV.le_refl _⟩,Q0g (by simp[leH,hget])⟩;simp only[Tryz.results12,resL,ldA,Q0o,go_sem])
   all_goals rfl
theorem findP_lt{l:List lg.Hd}(ok:∀h∈l,h.ok)(a:Int):(lg.findP l a).p<WW∧(lg.findP l a).s<WW:=by
 unfold lg.findP
 split
 · exact⟨by decide,by decide⟩
 · split
   · unfold lg.findH
     split
     · rename_i y hy
       split
       · have:=ok y (List.mem_of_getElem? hy)
         exact⟨this.2.1,this.2.2.1⟩
       · exact⟨(by decide:0<WW),(by decide:0<WW)⟩
     · exact⟨(by decide:0<WW),(by decide:0<WW)⟩
   · exact⟨by decide,by decide⟩
theorem wealth_fn(w:Wl)(hw:w.ok)(a:Int)(ua:U a):Fn Tryz.prog 14 [wlA w,vi .u64 a] [] (wN (X5x w a)) []:=by
 have f1:=X0w false w hw
 have f2:=X8b w hw a
 have f3:=lg.findF_fn false w.L (Nat.le_trans hw.l.1 (by decide)) hw.l.2 a
 have lt:=findP_lt hw.l.2 a
 have sm:=X0f false [(OfS w.S a).b,(lg.findP w.L a).p,(lg.findP w.L a).s] (by simp) (fun x hx=>by
  simp only[List.mem_cons,List.not_mem_nil,or_false] at hx
  rcases hx with rfl|rfl|rfl
  · exact of_lt hw a ua
  · exact lt.1
  · exact lt.2)
 unfold X5x
 by_cases h0:a=0
 · have k0:(a==0)=true:=by simpa using h0
   rw[if_pos h0]
   (refine Q0n Tryz.func14 rfl (by rfl) ?_;simp only[Tryz.ntmps14,List.length_cons,List.length_nil,Nat.reduceAdd,Nat.reduceSub,List.replicate,List.cons_append,List.nil_append])
   (repeat(any_goals(first|((with_reducible refine Q0c ?_ ?_);rfl;intro K hK;simp only[go_sem,k0];((repeat(refine ndI (by first|assumption) ?_));refine hK _ ?_;clear hK K))|(with_reducible first|(refine Q0d ?_;refine hR _ ?_;clear hR R)|((first|refine Q0e ?_);intro Ψ hΨ hΨ')|(refine Q0a ?_;intro R hR)|(refine hΨ _ ?_;clear hΨ hΨ' Ψ)|refine Q0h ?_)|((with_reducible refine hΨ' _ _ ?_ ?_);(focus(simp;done));clear hΨ hΨ' Ψ)|((with_reducible apply Q0s);rfl;rfl;rfl;all_goals(intro hb;first|(cases hb;done)|((try simp only[Bool.not_true,Bool.not_false] at hb);(first|((fail_if_success (with_reducible intro _));simp only[go_sem,k0])))))|((with_reducible apply Q0f);rfl;rfl;all_goals(intro hc;first|(cases hc;done)|(try simp only at hc))))))
   all_goals(refine⟨by simp,⟨_,?_,AV.le_refl _⟩,Q0g (by simp[leH,hget])⟩;simp only[Tryz.results14,resL,ldA,Q0o,go_sem])
   all_goals rfl
 have k0:(a==0)=false:=by simpa using h0
 rw[if_neg h0]
 generalize Q1b w=q at *
 cases q with
 |false=>
  simp only[Bool.false_eq_true,if_false]
  (refine Q0n Tryz.func14 rfl (by rfl) ?_;simp only[Tryz.ntmps14,List.length_cons,List.length_nil,Nat.reduceAdd,Nat.reduceSub,List.replicate,List.cons_append,List.nil_append])
  (repeat(any_goals(first|((with_reducible refine Q0c ?_ ?_);rfl;intro K hK;simp only[go_sem,k0];((repeat(refine ndI (by first|assumption) ?_));refine hK _ ?_;clear hK K))|(with_reducible first|(refine Q0d ?_;refine hR _ ?_;clear hR R)|((first|refine Q0e ?_);intro Ψ hΨ hΨ')|(refine Q0a ?_;intro R hR)|(refine hΨ _ ?_;clear hΨ hΨ' Ψ)|refine Q0h ?_)|((with_reducible refine hΨ' _ _ ?_ ?_);(focus(simp;done));clear hΨ hΨ' Ψ)|((with_reducible apply Q0s);rfl;rfl;rfl;all_goals(intro hb;first|(cases hb;done)|((try simp only[Bool.not_true,Bool.not_false] at hb);(first|((with_reducible intro K hK);(first|((apply Q5e (f1);rfl;rfl;rfl;rfl;exact Tryz.func24);kernel_rfl;rfl;(focus((simp only[AV.viewL,AV.view,Q4b,unC,Option.map_some,go_sem,k0]);(try rfl)));rfl)|skip);simp only[go_sem,k0];((repeat(refine ndI (by first|assumption) ?_));refine hK _ ?_;clear hK K))))))|((with_reducible apply Q0f);rfl;rfl;all_goals(intro hc;first|(cases hc;done)|(try simp only at hc))))))
  all_goals(refine⟨by simp,⟨_,?_,AV.le_refl _⟩,Q0g (by simp[leH,hget])⟩;simp only[Tryz.results14,resL,ldA,Q0o,go_sem])
  all_goals rfl
 |true=>
  simp only[if_true]
  generalize [(OfS w.S a).b,(lg.findP w.L a).p,(lg.findP w.L a).s].sum%WW=m at sm ⊢
  generalize decide (WW≤[(OfS w.S a).b,(lg.findP w.L a).p,(lg.findP w.L a).s].sum)=qo at sm
  generalize (OfS w.S a).b=n1 at *
  generalize lg.findP w.L a=h at *
  obtain⟨ha,hp,hs,hd,hf⟩:=h
  dsimp only at *
  unfold wsl wpv at sm
  simp only[List.flatMap_cons,List.flatMap_nil,List.cons_append,List.nil_append,List.length_cons,List.length_nil,Nat.reduceAdd] at sm
  (refine Q0n Tryz.func14 rfl (by rfl) ?_;simp only[Tryz.ntmps14,List.length_cons,List.length_nil,Nat.reduceAdd,Nat.reduceSub,List.replicate,List.cons_append,List.nil_append])
  (repeat(any_goals(first|((with_reducible refine Q0i ?_ ?_ ?_);rfl;rfl;intro K hK;((apply Q0b (f3);rfl;rfl;rfl;rfl;exact Tryz.func53);kernel_rfl;rfl;(focus((simp only[go_sem,k0]);(try rfl);done));(first|rfl));(simp only[go_sem,k0];refine hK _ ?_;clear hK K))|((with_reducible refine Q0c ?_ ?_);rfl;intro K hK;simp only[go_sem,k0];((repeat(refine ndI (by first|assumption) ?_));refine hK _ ?_;clear hK K))|(with_reducible first|(refine Q0d ?_;refine hR _ ?_;clear hR R)|((first|refine Q0e ?_);intro Ψ hΨ hΨ')|(refine Q0a ?_;intro R hR)|(refine hΨ _ ?_;clear hΨ hΨ' Ψ)|refine Q0j ?_|refine Q0h ?_)|((with_reducible apply Q0s);rfl;rfl;rfl;all_goals(intro hb;first|(cases hb;done)|((try simp only[Bool.not_true,Bool.not_false] at hb);(first|((with_reducible intro K hK);(first|((apply Q5e (f1);rfl;rfl;rfl;rfl;exact Tryz.func24);kernel_rfl;rfl;(focus((simp only[AV.viewL,AV.view,Q4b,unC,Option.map_some,go_sem,k0]);(try rfl)));rfl)|skip);simp only[go_sem,k0];((repeat(refine ndI (by first|assumption) ?_));refine hK _ ?_;clear hK K))))))|((with_reducible apply Q0f);rfl;rfl;all_goals(intro hc;first|(cases hc;done)|(try simp only at hc)))|((with_reducible refine Q0v ?_ ?_);kernel_rfl;(with_reducible refine hR _ ?_);clear hR R)|((first|((with_reducible apply Q1c);rfl;rfl;(first|((apply Q0r (f2);rfl;rfl;rfl;rfl;exact Tryz.func38);kernel_rfl;rfl;(focus((simp only[go_sem,k0]);(try rfl);done));(first|rfl))|((apply X4q (sm);rfl;rfl;rfl;rfl;exact Tryz.func36);kernel_rfl;rfl;(focus((simp only[AV.viewL,AV.view,Q4b,unC,Option.map_some,go_sem,k0]);(try rfl)));rfl;(simp only[AV.rowsL,AV.rows,go_sem,k0];rfl))))|((with_reducible apply Q0w);rfl;rfl;(simp only[rdE,rdOf,go_sem,k0];rfl);(intro τ hA hQ hN;((try simp only[Q1a,Op.operands,Call.operands,go_sem,k0,go_sem,List.mem_cons,List.not_mem_nil,forall_eq_or_imp,forall_eq,List.append_toArray,Option.toArray] at hA);(try simp only[go_sem,k0,List.mem_cons,List.not_mem_nil,forall_eq_or_imp,forall_eq] at hQ hN);(first|(revert hA;intro hA));(first|(revert hQ;intro hQ));(first|(revert hN;intro hN));simp only[go_sem,k0,go_sem,hA,hQ,hN];(repeat(refine ndI (by first|assumption) ?_));(first|apply Q0z|apply Q2g))))|((first|((with_reducible apply Q4g);rfl;rfl;rfl));(intro τ hA hQ hN;((try simp only[Q1a,Op.operands,Call.operands,go_sem,k0,go_sem,List.mem_cons,List.not_mem_nil,forall_eq_or_imp,forall_eq,List.append_toArray,Option.toArray] at hA);(try simp only[go_sem,k0,List.mem_cons,List.not_mem_nil,forall_eq_or_imp,forall_eq] at hQ);(first|(revert hA;intro hA));(first|(revert hQ;intro hQ));simp only[go_sem,k0,go_sem,hA,hQ,hN];(repeat(refine ndI (by first|assumption) ?_));exact Q5y _ _ _ _))));(simp only[St.eff,setO,Q0t,go_sem,k0]))|((with_reducible refine Q0q ?_ ?_ ?_ ?_);kernel_rfl;kernel_rfl;(first|kernel_rfl);intro R hR))))
  all_goals(refine⟨by simp,⟨_,?_,AV.le_refl _⟩,Q0g (by simp[leH,hget])⟩;simp only[Tryz.results14,resL,ldA,Q0o,go_sem])
end Go.Proofs.YtbmcdemnnbndeaaGreatDoor
namespace Go.Proofs.YtbmcdemnnbndeaaGreatDoor
open Go.RowKit
open Nat (reduceBEq)
set_option maxRecDepth 20000
set_option maxHeartbeats 4000000
def smW(d:Nat):Wl:=⟨[⟨1,9,0,[],[]⟩,⟨20,100,0,[],[]⟩],[⟨20,d,0,0,0⟩],[]⟩
abbrev nilA:AV:=.c (.v (.slice none 0 0))
abbrev smB(d:Nat):List PV:=[.v (.int .u64 20),.v (.int .u64 d),.v (.int .u64 0),.v (.int .u64 0),.v (.int .u64 0),.v (.int .u64 0),.v (.int .u64 0),.v (.int .u64 0),.v (.int .u64 0),.v (.int .u64 0),.v (.int .u64 0)]
theorem small_row(d:Nat):Fn Tryz.prog 13 [vi .u64 d] [] (.agg [.row 7 62 8 2,.row 12 70 11 1,nilA])
 [(7,[vi .u64 1,vi .u64 9,vi .u64 0,vi .u64 0,vi .u64 0,vi .u64 0,nilA,nilA,vi .u64 20,vi .u64 100,vi .u64 0,vi .u64 0,vi .u64 0,vi .u64 0,nilA,nilA]),(12,(smB d).map .c)]:=by
 (refine Q0n Tryz.func13 rfl (by rfl) ?_;simp only[Tryz.ntmps13,List.length_cons,List.length_nil,Nat.reduceAdd,Nat.reduceSub,List.replicate,List.cons_append,List.nil_append])
 (repeat(any_goals(first|((with_reducible refine Q0c ?_ ?_);rfl;intro K hK;simp only[go_sem];((repeat(refine ndI (by first|assumption) ?_));refine hK _ ?_;clear hK K))|(with_reducible first|(refine Q0d ?_;refine hR _ ?_;clear hR R)|((first|refine Q0e ?_);intro Ψ hΨ hΨ')|(refine Q0a ?_;intro R hR)|(refine hΨ _ ?_;clear hΨ hΨ' Ψ)|refine Q0h ?_))))
 all_goals(refine⟨by simp,⟨_,?_,AV.le_refl _⟩,Q0g (by simp[leH,hget])⟩;simp only[Tryz.results13,resL,ldA,Q0o,go_sem])
theorem X7g(d:Nat)(hd:d<18446744073709551616):Fn Tryz.prog 13 [vi .u64 d] [] (wlA (smW d)) []:=by
 have k1:=(small_row d).to (St.to.cells 7 (ds:=((smW d).S.flatMap Ac.pv).map .c) rfl (by
  simp only[smW,List.flatMap_cons,List.flatMap_nil,Ac.pv,List.cons_append,List.nil_append,List.map_cons,List.map_nil,leL]
  exact⟨AV.le_refl _,AV.le_refl _,AV.le_refl _,AV.le_refl _,AV.le_refl _,AV.le_refl _,AV.le_nil _ _,AV.le_nil _ _,AV.le_refl _,AV.le_refl _,AV.le_refl _,AV.le_refl _,AV.le_refl _,AV.le_refl _,AV.le_nil _ _,AV.le_nil _ _,trivial⟩))
 have k2:=k1.frzN (d:=7) (pcs:=(smW d).S.flatMap Ac.pv) rfl
 have e:smB d=(smW d).L.flatMap lg.Hd.pv:=by
  have h0:l0 d=(d:Int):=by unfold l0;rw[Nat.mod_eq_of_lt hd]
  have h1:l1 d=0:=by unfold l1;rw[Nat.div_eq_of_lt hd];rfl
  have h2:l2 d=0:=by unfold l2;rw[Nat.div_eq_of_lt hd];rfl
  have h3:l3 d=0:=by unfold l3;rw[Nat.div_eq_of_lt hd];rfl
  simp[smW,lg.Hd.pv,h0,h1,h2,h3,Q2q,Q2p,Q2o,Q2n]
 have k3:=k2.frzN (d:=12) (pcs:=smB d) rfl
 refine k3.weaken ?_ (fun r cs h=>by cases h)
 simp only[AV.frz,AV.frzL,if_true,eq_self,↓reduceIte,Nat.reduceEqDiff]
 rw[e]
 exact AV.le_agg ⟨AV.le_refl _,AV.le_refl _,AV.le_nil _ _,trivial⟩
theorem X4g(d:Nat)(hd:d<WW):(smW d).ok:=by
 have hu:∀x:Int,0≤x→x≤18446744073709551615→U x:=fun x h1 h2=>⟨h1,h2⟩
 refine⟨⟨(by decide:2≤60),fun x hx=>?_⟩,⟨(by decide:1≤60),fun x hx=>?_⟩,⟨(by decide:0≤70),fun x hx=>by cases hx⟩⟩
 · simp only[smW,List.mem_cons,List.not_mem_nil,or_false] at hx
   rcases hx with rfl|rfl
   · exact⟨⟨hu 1 (by decide) (by decide),(by decide:9<WW),hu 0 (by decide) (by decide),⟨Nat.zero_le _,fun c h=>by cases h⟩,Nat.zero_le _,fun p h=>by cases h⟩,Nat.zero_le _,Nat.zero_le _⟩
   · exact⟨⟨hu 20 (by decide) (by decide),(by decide:100<WW),hu 0 (by decide) (by decide),⟨Nat.zero_le _,fun c h=>by cases h⟩,Nat.zero_le _,fun p h=>by cases h⟩,Nat.zero_le _,Nat.zero_le _⟩
 · simp only[smW,List.mem_cons,List.not_mem_nil,or_false] at hx
   subst hx
   exact⟨hu 20 (by decide) (by decide),hd,(by decide:0<WW),hu 0 (by decide) (by decide),hu 0 (by decide) (by decide)⟩
def smT(a b:Nat):Tn:=⟨smW a,smW b,[],0,0,0⟩
theorem smT_ok{a b:Nat}(ha:a<WW)(hb:b<WW):(smT a b).ok:=⟨X4g a ha,X4g b hb,⟨Nat.zero_le _,fun x h=>by cases h⟩,⟨Int.le_refl 0,by show(0:Int)≤_;decide⟩,(by decide:0<WW),(by decide:0<WW)⟩
abbrev i0:AV:=.c (.v (.int .u64 0))
theorem smJ(a b:Nat)(ha:a<WW)(hb:b<WW)(n:Int)(hn:jdN (smT a b)=n)(he:jdE (smT a b)=0):Fn Tryz.prog 7 [.agg [.c (acV (smW a).S),.c (hdV (smW a).L),.c (noV (smW a).N),.c (acV (smW b).S),.c (hdV (smW b).L),.c (noV (smW b).N),nilA,i0,i0,i0,i0,i0,i0,i0,i0,i0]] [] (.tup [vi .i64 n,vi .i64 0]) []:=by
 have h:=X3k (smT a b) (smT_ok ha hb)
 rw[hn,he] at h
 unfold tnA smT at h
 simp only[Q2q,Q2p,Q2o,Q2n] at h
 exact h.args ⟨AV.le_agg ⟨AV.le_refl _,AV.le_refl _,AV.le_refl _,AV.le_refl _,AV.le_refl _,AV.le_refl _,AV.le_nil _ _,AV.le_refl _,AV.le_refl _,AV.le_refl _,AV.le_refl _,AV.le_refl _,AV.le_refl _,AV.le_refl _,AV.le_refl _,AV.le_refl _,trivial⟩,trivial⟩
abbrev c4W(x:Int):AV:=.agg [vi .u64 x,vi .u64 0,vi .u64 0,vi .u64 0]
theorem X4a:Fn Tryz.prog 4 [] [] (vb true) []:=by
 have s7:=X7g 7 (by decide)
 have s8:=X7g 8 (by decide)
 have g1:Fn Tryz.prog 12 [wlA (smW 7)] [] (.tup [c4W 2,vb true]) []:=by
  have h:=excess_fn (smW 7) (X4g 7 (by decide))
  rw[show exN (smW 7)=2 by kernel_rfl,show exB (smW 7)=true by kernel_rfl] at h
  exact h
 have g2:=smJ 7 8 (by decide) (by decide) 1 (by kernel_rfl) (by kernel_rfl)
 have g3:=smJ 8 7 (by decide) (by decide) 0 (by kernel_rfl) (by kernel_rfl)
 have g4:Fn Tryz.prog 14 [wlA (smW 7),vi .u64 20] [] (c4W 107) []:=by
  have h:=wealth_fn (smW 7) (X4g 7 (by decide)) 20 ⟨by decide,by decide⟩
  rw[show X5x (smW 7) 20=107 by kernel_rfl] at h
  exact h
 have g5:Fn Tryz.prog 15 [wlA (smW 7)] [] (c4W 109) []:=by
  have h:=X0e (smW 7) (X4g 7 (by decide))
  rw[show Q1l (smW 7)=109 by kernel_rfl] at h
  exact h
 generalize smW 7=a1 at *
 generalize smW 8=a2 at *
 (refine Q0n Tryz.func4 rfl (by rfl) ?_;simp only[Tryz.ntmps4,List.length_cons,List.length_nil,Nat.reduceAdd,Nat.reduceSub,List.replicate,List.cons_append,List.nil_append])
 (repeat(any_goals(first|((with_reducible refine Q0i ?_ ?_ ?_);rfl;rfl;intro K hK;(first|((apply Q0b (g1);rfl;rfl;rfl;rfl;exact Tryz.func12);kernel_rfl;rfl;(focus((simp only[go_sem]);(try rfl);done));(first|rfl))|((apply Q0b (s7);rfl;rfl;rfl;rfl;exact Tryz.func13);kernel_rfl;rfl;(focus((simp only[go_sem]);(try rfl);done));(first|rfl))|((apply Q0b (s8);rfl;rfl;rfl;rfl;exact Tryz.func13);kernel_rfl;rfl;(focus((simp only[go_sem]);(try rfl);done));(first|rfl))|((apply Q0b (g2);rfl;rfl;rfl;rfl;exact Tryz.func7);kernel_rfl;rfl;(focus((simp only[go_sem]);(try rfl);done));(first|rfl))|((apply Q0b (g3);rfl;rfl;rfl;rfl;exact Tryz.func7);kernel_rfl;rfl;(focus((simp only[go_sem]);(try rfl);done));(first|rfl)));(simp only[go_sem];refine hK _ ?_;clear hK K))|((with_reducible refine Q0c ?_ ?_);rfl;intro K hK;simp only[go_sem];((repeat(refine ndI (by first|assumption) ?_));refine hK _ ?_;clear hK K))|(with_reducible first|(refine Q0d ?_;refine hR _ ?_;clear hR R)|((first|refine Q0e ?_);intro Ψ hΨ hΨ')|(refine Q0a ?_;intro R hR)|(refine hΨ _ ?_;clear hΨ hΨ' Ψ)|refine Q0h ?_)|((with_reducible apply Q0s);rfl;rfl;rfl;all_goals(intro hb;first|(cases hb;done)|((try simp only[Bool.not_true,Bool.not_false] at hb);(first|((with_reducible intro K hK);(first|((first|(apply Q0b (g4);rfl;rfl;rfl;rfl;exact Tryz.func14)|(apply Q0b (g5);rfl;rfl;rfl;rfl;exact Tryz.func15));kernel_rfl;rfl;(focus((simp only[go_sem]);(try rfl);done));(first|rfl))|((apply Q0b (s7);rfl;rfl;rfl;rfl;exact Tryz.func13);kernel_rfl;rfl;(focus((simp only[go_sem]);(try rfl);done));(first|rfl))|skip);simp only[go_sem];((repeat(refine ndI (by first|assumption) ?_));refine hK _ ?_;clear hK K)))))))))
 all_goals(refine⟨by simp,⟨_,?_,AV.le_refl _⟩,Q0g (by simp[leH,hget])⟩;simp only[Tryz.results4,resL,ldA,Q0o,go_sem])
end Go.Proofs.YtbmcdemnnbndeaaGreatDoor
namespace Go.Proofs.YtbmcdemnnbndeaaGreatDoor
open Go.RowKit
set_option maxRecDepth 20000
set_option maxHeartbeats 4000000
theorem Q2w{w:Wl}:Q1b w=true↔okSt w.S=true∧lg.okL w.L=true∧nz.okTo w.N w.N.length=true:=by
 unfold Q1b
 simp only[Bool.and_eq_true]
 exact and_assoc
theorem X2g{w:Wl}(h:Q1b w=true):hasN w=(ofS w.S 1).b:=by
 unfold hasN OfS
 rw[if_pos h,if_pos (Q2w.1 h).1]
theorem Q8t{w:Wl}(h:Q1b w=true):Q2h w=lg.tot w.L:=by
 unfold Q2h lg.sumP
 rw[if_pos h,if_pos (Q2w.1 h).2.1]
theorem Q4z{w:Wl}(h:Q1b w=true):Q1l w=totS w.S:=by
 unfold Q1l X1v
 rw[if_pos h,if_pos (Q2w.1 h).1,Nat.mod_eq_of_lt (Q2x.1 (Q2w.1 h).1).2.2.1]
theorem wh_of{w v:Wl}{f:Int}{a b:Nat}(hw:Q1b w=true)(hv:Q1b v=true)(h1:hasN w+Q2h v≤hasN v+Q2h w)(h2:Q1l v+b=Q1l w+a)(h3:f=0∨(balN w f≤balN v f∧balN w f<WW)):whB ⟨w,v,[],f,a,b⟩=true:=by
 unfold whB
 rw[hw,hv,brk_of]
 · rfl
 · unfold brkE;exact decide_eq_false (by show ¬(hasN v+Q2h w<hasN w+Q2h v);omega)
 · unfold brkS;rw[decide_eq_true h2];rfl
 · rfl
 · unfold brkF
   rcases h3 with h|⟨h3,h4⟩
   · rw[decide_eq_true (show _ from h)];rfl
   · have e:(csL ([]:List Rp)++[balN w f]).sum=balN w f:=by simp[csL]
     dsimp only
     rw[e,decide_eq_false (show ¬WW≤balN w f by omega),Nat.mod_eq_of_lt h4,decide_eq_false (show ¬balN v f<balN w f by omega)]
     simp
theorem X7o{w:Wl}(hw:w.ok):w.S.length≤700∧∀y∈w.S,Okx y:=⟨by have:=hw.s.1;omega,fun y hy=>by have:=hw.s.2 y hy;exact⟨this.1,by have:=this.2.1;omega,by have:=this.2.2;omega⟩⟩
theorem X8i{w:Wl}(hw:w.ok)(hr:Q1b w=true){fr to:Int}(uf:U fr)(ut:U to)(h1:fr≠1){n:Nat}{s:List Ac}(h:Q2l w.S fr to n=(s,0)):whB ⟨w,⟨s,w.L,w.N⟩,[],0,0,0⟩=true:=by
 obtain⟨k1,k2,k3,k4⟩:=Q8a h
 obtain⟨r1,r2,r3⟩:=Q2w.1 hr
 have hv:Q1b ⟨s,w.L,w.N⟩=true:=Q2w.2 ⟨k2,r2,r3⟩
 have hb:=X3h (X7o hw).1 (X7o hw).2 uf ut h
 have e:(ofS w.S 1).b≤(ofS s 1).b:=by
  rcases hb with⟨_,rfl⟩|⟨hne,_,b2⟩
  · exact Nat.le_refl _
  · by_cases ht:to=1
    · subst ht;omega
    · rw[k3 1 (fun e=>h1 e.symm) (fun e=>ht e.symm)];exact Nat.le_refl _
 refine wh_of hr hv ?_ ?_ (.inl rfl)
 · rw[X2g hr,X2g hv,Q8t hr,Q8t hv];dsimp only;omega
 · rw[Q4z hr,Q4z hv];dsimp only;omega
theorem X4b{w v:Wl}(hw:w.ok)(hs:w.S.length≤45)(hr:Q1b w=true){m:Ms}(hm:m.ok)(h1:m.fr≠1)(h:NatP w m v):whB ⟨w,v,[],0,0,0⟩=true:=by
 obtain⟨s1,bk,m1,m2,⟨l1,l2,l3,l4⟩,hN⟩:=h
 obtain⟨k1,k2,k3,k4⟩:=Q8a m1
 obtain⟨j1,j2,j3,j4⟩:=Q8a m2
 obtain⟨r1,r2,r3⟩:=Q2w.1 hr
 have hv:Q1b v=true:=Q2w.2 ⟨j2,l1,by rw[hN];exact r3⟩
 have a1:=Q8b X9f Q9a (Q:=AcQ) (A:=w.S) hw.s.2 (Q3z hm.fr) (Q3z u1) m.v
 rw[m1] at a1
 have b1:=X3h (X7o hw).1 (X7o hw).2 hm.fr u1 m1
 have b2:=X3h (A:=s1) (by have:=a1.1;dsimp only at this;omega) (fun y hy=>by have:=a1.2 y hy;exact⟨this.1,by have:=this.2.1;omega,by have:=this.2.2;omega⟩) u1 hm.fr m2
 rcases b1 with⟨e,_⟩|⟨_,c1,c2⟩
 · exact absurd e h1
 rcases b2 with⟨e,_⟩|⟨_,d1,d2⟩
 · exact absurd e.symm h1
 refine wh_of hr hv ?_ ?_ (.inl rfl)
 · rw[X2g hr,X2g hv,Q8t hr,Q8t hv];omega
 · rw[Q4z hr,Q4z hv];omega
theorem X8j{w:Wl}(hw:w.ok)(hr:Q1b w=true){to:Int}{n:Nat}{s:List Ac}(h:Q7d w.S to n=(s,0)) :
 Q1b ⟨s,w.L,w.N⟩=true∧whB ⟨w,⟨s,w.L,w.N⟩,[],0,n,0⟩=true∧((brk ⟨w,⟨s,w.L,w.N⟩,[],0,0,0⟩==2) = !decide (n=0)):=by
 obtain⟨k1,k2,k3,k4,k5⟩:=mint_kept h
 obtain⟨r1,r2,r3⟩:=Q2w.1 hr
 have hv:Q1b ⟨s,w.L,w.N⟩=true:=Q2w.2 ⟨k2,r2,r3⟩
 have e:(ofS w.S 1).b≤(ofS s 1).b:=by
  by_cases ht:to=1
  · subst ht;omega
  · rw[k3 1 (fun e=>ht e.symm)];exact Nat.le_refl _
 have eh:hasN w+Q2h ⟨s,w.L,w.N⟩≤hasN ⟨s,w.L,w.N⟩+Q2h w:=by
  rw[X2g hr,X2g hv,Q8t hr,Q8t hv];dsimp only;omega
 have es:Q1l ⟨s,w.L,w.N⟩=Q1l w+n:=by
  rw[Q4z hr,Q4z hv];exact k4
 refine⟨hv,wh_of hr hv eh (by omega) (.inl rfl),?_⟩
 unfold brk
 have e1:brkE ⟨w,⟨s,w.L,w.N⟩,[],0,0,0⟩=false:=by
  unfold brkE;exact decide_eq_false (by dsimp only;omega)
 have e3:brkC ⟨w,⟨s,w.L,w.N⟩,[],0,0,0⟩=false:=rfl
 have e4:brkF ⟨w,⟨s,w.L,w.N⟩,[],0,0,0⟩=false:=rfl
 have e2:brkS ⟨w,⟨s,w.L,w.N⟩,[],0,0,0⟩ = !decide (n=0):=by
  unfold brkS
  dsimp only
  congr 1
  exact decide_eq_decide.2 ⟨fun h=>by omega,fun h=>by omega⟩
 rw[e1,e2,e3,e4]
 cases decide (n=0)<;>rfl
theorem X1x{w:Wl}(hw:w.ok)(hr:Q1b w=true){f:Int}(uf:U f)(n:Nat):whB ⟨w,w,[],f,n,n⟩=true:=
 wh_of hr hr (Nat.le_refl _) rfl (.inr ⟨Nat.le_refl _,of_lt hw f uf⟩)
abbrev tnB(w v:Wl)(f:Int)(a b:Nat):AV:=.agg [.c (acV w.S),.c (hdV w.L),.c (noV w.N),.c (acV v.S),.c (hdV v.L),.c (noV v.N),nilA,vi .u64 f,vi .u64 (l0 a),vi .u64 (l1 a),vi .u64 (l2 a),vi .u64 (l3 a),vi .u64 (l0 b),vi .u64 (l1 b),vi .u64 (l2 b),vi .u64 (l3 b)]
theorem tn_nil(w v:Wl)(f:Int)(a b:Nat):leL [tnB w v f a b] [tnA ⟨w,v,[],f,a,b⟩]:=
 ⟨AV.le_agg ⟨AV.le_refl _,AV.le_refl _,AV.le_refl _,AV.le_refl _,AV.le_refl _,AV.le_refl _,AV.le_nil _ _,AV.le_refl _,AV.le_refl _,AV.le_refl _,AV.le_refl _,AV.le_refl _,AV.le_refl _,AV.le_refl _,AV.le_refl _,AV.le_refl _,trivial⟩,trivial⟩
theorem tn_ok{w v:Wl}(hw:w.ok)(hv:v.ok){f:Int}(uf:U f){a b:Nat}(ha:a<WW)(hb:b<WW):(⟨w,v,[],f,a,b⟩:Tn).ok:=⟨hw,hv,⟨Nat.zero_le _,fun x h=>by cases h⟩,uf,ha,hb⟩
theorem Q6c{w v:Wl}(hw:w.ok)(hv:v.ok){f:Int}(uf:U f){a b:Nat}(ha:a<WW)(hb:b<WW){r:Bool}(hr:whB ⟨w,v,[],f,a,b⟩=r):Fn Tryz.prog 8 [tnB w v f a b] [] (vb r) []:=by
 have h:=whole_fn _ (tn_ok hw hv uf ha hb)
 rw[hr] at h
 exact h.args (tn_nil w v f a b)
theorem X5b{w v:Wl}(hw:w.ok)(hv:v.ok):Fn Tryz.prog 7 [tnB w v 0 0 0] [] (.tup [vi .i64 (jdN ⟨w,v,[],0,0,0⟩),vi .i64 (jdE ⟨w,v,[],0,0,0⟩)]) []:=
 (X3k _ (tn_ok hw hv ⟨Int.le_refl 0,by show(0:Int)≤_;decide⟩ (by decide) (by decide))).args (tn_nil w v 0 0 0)
end Go.Proofs.YtbmcdemnnbndeaaGreatDoor
namespace Go.Proofs.YtbmcdemnnbndeaaGreatDoor
open Go.RowKit
open Nat (reduceBEq)
set_option maxRecDepth 20000
set_option maxHeartbeats 8000000
theorem stays_no(x w:Wl)(m:Ms)(now:Int)(hm:m.inp.length≤maxLen)
 (wf:Fn Tryz.prog 5 [wlA x] [] (wlA w) []) (cw:Fn Tryz.prog 6 [wlA w] [] (vi .i64 200) [])
 (jd:Fn Tryz.prog 7 [tnB w w 0 0 0] [] (.tup [vi .i64 0,vi .i64 200]) []):Fn Tryz.prog 3 [wlA x,msA m,vi .u64 now] [] (vb true) []:=by
 have wk:=X4a
 obtain⟨xS,xL,xN⟩:=x
 obtain⟨S,L,N⟩:=w
 obtain⟨fr,to,v,inp,gas,st⟩:=m
 dsimp only at *
 have g1:(if (1100:Int)<(inp.length:Int) then(1100:Int) else(inp.length:Int))=((min inp.length 1100:Nat):Int):=X0v inp.length 1100
 have g2:(inp.flatMap bpv).take (min inp.length 1100)=(inp.take 1100).flatMap bpv:=by
  have:=Q2u (f:=bpv) Q3f inp (min inp.length 1100)
  rw[Nat.mul_one] at this
  rw[this,Q5m]
 have g3:(inp.take 1100).length=min inp.length 1100:=by rw[List.length_take,Nat.min_comm]
 have g8:inp.length<9223372036854775808:=Nat.lt_succ_of_le hm
 have g9:(inp.take 1100).length≤inp.length:=by rw[List.length_take];omega
 rw[←g3] at g1 g2
 clear g3 hm
 generalize inp.take 1100=P at *
 simp only[tnB,Q2q,Q2p,Q2o,Q2n] at jd
 (refine Q0n Tryz.func3 rfl (by rfl) ?_;simp only[Tryz.ntmps3,List.length_cons,List.length_nil,Nat.reduceAdd,Nat.reduceSub,List.replicate,List.cons_append,List.nil_append])
 (repeat(any_goals(first|((with_reducible refine Q0i ?_ ?_ ?_);rfl;rfl;intro K hK;((first|(apply Q0b (wk);rfl;rfl;rfl;rfl;exact Tryz.func4)|(apply Q0b (wf);rfl;rfl;rfl;rfl;exact Tryz.func5)|(apply Q0b (cw);rfl;rfl;rfl;rfl;exact Tryz.func6)|(apply Q0b (jd);rfl;rfl;rfl;rfl;exact Tryz.func7));kernel_rfl;rfl;(focus((simp(disch:=omega) only[go_sem,g1,g2,Nat.mul_one]);(try rfl);done));(first|rfl));(simp(disch:=omega) only[go_sem,g1,g2,Nat.mul_one];refine hK _ ?_;clear hK K))|((with_reducible refine Q0c ?_ ?_);rfl;intro K hK;simp(disch:=omega) only[go_sem,g1,g2,Nat.mul_one];((repeat(refine ndI (by first|assumption|omega|rfl) ?_));refine hK _ ?_;clear hK K))|(with_reducible first|(refine Q0d ?_;refine hR _ ?_;clear hR R)|((first|refine Q0e ?_);intro Ψ hΨ hΨ')|(refine Q0a ?_;intro R hR)|(refine hΨ _ ?_;clear hΨ hΨ' Ψ)|refine Q0j ?_|refine Q0h ?_)|((with_reducible refine hΨ' _ _ ?_ ?_);(focus(simp;done));clear hΨ hΨ' Ψ)|((with_reducible apply Q0s);rfl;rfl;rfl;all_goals(intro hb;first|(cases hb;done)|((try simp only[Bool.not_true,Bool.not_false] at hb);(first|((with_reducible intro K hK);simp(disch:=omega) only[go_sem,g1,g2,Nat.mul_one];((repeat(refine ndI (by first|assumption) ?_));refine hK _ ?_;clear hK K))))))|((with_reducible apply Q0f);rfl;rfl;all_goals(intro hc;first|(cases hc;done)|(try simp only at hc))))))
 all_goals(refine⟨by simp,⟨_,?_,AV.le_refl _⟩,Q0g (by simp[leH,hget])⟩;simp only[Tryz.results3,resL,ldA,Q0o,go_sem])
theorem stays_yes(x w:Wl)(m:Ms)(now:Int)(hm:m.inp.length≤maxLen)
 (wf:Fn Tryz.prog 5 [wlA x] [] (wlA w) []) (cw:Fn Tryz.prog 6 [wlA w] [] (vi .i64 0) [])
 (w0:Fn Tryz.prog 8 [tnB w w 0 m.v m.v] [] (vb true) [])
 (s:List Ac) (e1:Int) (mv:Fn Tryz.prog 9 [stA false w.S,vi .u64 m.fr,vi .u64 m.to,wN m.v] [] (.tup [stA false s,vi .i64 e1]) [])
 (r1:Bool) (w1:Fn Tryz.prog 8 [tnB w ⟨s,w.L,w.N⟩ 0 0 0] [] (vb r1) []) (q1:e1=0→m.fr≠1→r1=true)
 (u:Wl) (e2:Int) (nt:Fn Tryz.prog 10 [wlA w,msA ⟨m.fr,m.to,m.v,m.inp.take 1100,m.gas,m.st⟩,vi .u64 now] [] (.tup [wlA u,vi .i64 e2]) [])
 (r2:Bool) (w2:Fn Tryz.prog 8 [tnB w u 0 0 0] [] (vb r2) []) (q2:e2=0→m.fr≠1→r2=true)
 (s3:List Ac) (e3:Int) (mn:Fn Tryz.prog 11 [stA false w.S,vi .u64 m.to,wN m.v] [] (.tup [stA false s3,vi .i64 e3]) [])
 (n e4:Int) (jd:Fn Tryz.prog 7 [tnB w ⟨s3,w.L,w.N⟩ 0 0 0] [] (.tup [vi .i64 n,vi .i64 e4]) []) (qn:e3=0→(n==2)=vNe m.v)
 (r3:Bool) (w3:Fn Tryz.prog 8 [tnB w ⟨s3,w.L,w.N⟩ 0 m.v 0] [] (vb r3) []) (q3:e3=0→r3=true)
 (r4:Bool) (w4:Fn Tryz.prog 8 [tnB ⟨s3,w.L,w.N⟩ ⟨s3,w.L,w.N⟩ m.to 0 0] [] (vb r4) []) (q4:e3=0→r4=true) :
 Fn Tryz.prog 3 [wlA x,msA m,vi .u64 now] [] (vb true) []:=by
 have wk:=X4a
 obtain⟨xS,xL,xN⟩:=x
 obtain⟨S,L,N⟩:=w
 obtain⟨uS,uL,uN⟩:=u
 obtain⟨fr,to,v,inp,gas,st⟩:=m
 dsimp only at *
 have g1:(if (1100:Int)<(inp.length:Int) then(1100:Int) else(inp.length:Int))=((min inp.length 1100:Nat):Int):=X0v inp.length 1100
 have g2:(inp.flatMap bpv).take (min inp.length 1100)=(inp.take 1100).flatMap bpv:=by
  have:=Q2u (f:=bpv) Q3f inp (min inp.length 1100)
  rw[Nat.mul_one] at this
  rw[this,Q5m]
 have g3:(inp.take 1100).length=min inp.length 1100:=by rw[List.length_take,Nat.min_comm]
 have g8:inp.length<9223372036854775808:=Nat.lt_succ_of_le hm
 have g9:(inp.take 1100).length≤inp.length:=by rw[List.length_take];omega
 rw[←g3] at g1 g2
 clear g3 hm
 generalize inp.take 1100=P at *
 simp only[tnB,Q2q,Q2p,Q2o,Q2n] at w0 w1 w2 w3 w4 jd
 obtain⟨b2,z2⟩:∃b,(fr != 1)=b:=⟨_,rfl⟩
 obtain⟨b1,z1⟩:∃b,(e1==0)=b:=⟨_,rfl⟩
 obtain⟨b3,z3⟩:∃b,(e2==0)=b:=⟨_,rfl⟩
 have h1:r1=((b1&&b2)||r1):=by
  cases b1<;>cases b2<;>simp only[Bool.false_and,Bool.and_false,Bool.true_and,Bool.false_or,Bool.true_or]
  exact q1 (by simpa using z1) (by simpa using z2)
 have h2:r2=((b3&&b2)||r2):=by
  cases b3<;>cases b2<;>simp only[Bool.false_and,Bool.and_false,Bool.true_and,Bool.false_or,Bool.true_or]
  exact q2 (by simpa using z3) (by simpa using z2)
 rw[h1] at w1
 rw[h2] at w2
 clear h1 h2 q1 q2
 obtain⟨z,hz⟩:∃z,(l0 v==0&&(l1 v==0&&(l2 v==0&&l3 v==0)))=z:=⟨_,rfl⟩
 have kz:((!z)==(!z))=true:=by cases z<;>rfl
 by_cases h3:e3=0
 · have b4:(e3 != 0)=false:=by simpa using h3
   obtain rfl:=q3 h3
   obtain rfl:=q4 h3
   have kn:(n==2) = !z:=by
    rw[qn h3]
    unfold vNe
    rw[hz]
   clear q3 q4 qn h3
   cases b1<;>cases b2<;>cases b3
   all_goals simp only[Bool.false_and,Bool.and_false,Bool.true_and,Bool.false_or,Bool.true_or] at w1 w2
   all_goals(refine Q0n Tryz.func3 rfl (by rfl) ?_;simp only[Tryz.ntmps3,List.length_cons,List.length_nil,Nat.reduceAdd,Nat.reduceSub,List.replicate,List.cons_append,List.nil_append])
   all_goals(have W:=ndI g1 (ndI g2 (ndI z1 (ndI z2 (ndI z3 (ndI b4 kn)))));(repeat(any_goals(first|((with_reducible refine Q0i ?_ ?_ ?_);rfl;rfl;intro K hK;(first|((first|(apply Q0b (wk);rfl;rfl;rfl;rfl;exact Tryz.func4)|(apply Q0b (wf);rfl;rfl;rfl;rfl;exact Tryz.func5)|(apply Q0b (cw);rfl;rfl;rfl;rfl;exact Tryz.func6)|(apply Q0b (mv);rfl;rfl;rfl;rfl;exact Tryz.func9)|(apply Q0b (nt);rfl;rfl;rfl;rfl;exact Tryz.func10)|(apply Q0b (mn);rfl;rfl;rfl;rfl;exact Tryz.func11)|(apply Q0b (jd);rfl;rfl;rfl;rfl;exact Tryz.func7));kernel_rfl;rfl;(focus((simp(disch:=omega) only[go_sem,W,hz,kz,Nat.mul_one]);(try rfl);done));(first|rfl))|((apply Q0b (w0);rfl;rfl;rfl;rfl;exact Tryz.func8);kernel_rfl;rfl;(focus((simp(disch:=omega) only[go_sem,W,hz,kz,Nat.mul_one]);(try rfl);done));(first|rfl))|((apply Q0b (w1);rfl;rfl;rfl;rfl;exact Tryz.func8);kernel_rfl;rfl;(focus((simp(disch:=omega) only[go_sem,W,hz,kz,Nat.mul_one]);(try rfl);done));(first|rfl))|((apply Q0b (w3);rfl;rfl;rfl;rfl;exact Tryz.func8);kernel_rfl;rfl;(focus((simp(disch:=omega) only[go_sem,W,hz,kz,Nat.mul_one]);(try rfl);done));(first|rfl)));(simp(disch:=omega) only[go_sem,W,hz,kz,Nat.mul_one];refine hK _ ?_;clear hK K))|((with_reducible refine Q0c ?_ ?_);rfl;intro K hK;simp(disch:=omega) only[go_sem,W,hz,kz,Nat.mul_one];((repeat(refine ndI (by first|assumption|omega|rfl) ?_));refine hK _ ?_;clear hK K))|(with_reducible first|(refine Q0d ?_;refine hR _ ?_;clear hR R)|((first|refine Q0e ?_);intro Ψ hΨ hΨ')|(refine Q0a ?_;intro R hR)|(refine hΨ _ ?_;clear hΨ hΨ' Ψ)|refine Q0j ?_|refine Q0h ?_)|((with_reducible apply Q0s);rfl;rfl;rfl;all_goals(intro hb;first|(cases hb;done)|((try simp only[Bool.not_true,Bool.not_false] at hb);(first|((with_reducible intro K hK);(first|((apply Q0b (w2);rfl;rfl;rfl;rfl;exact Tryz.func8);kernel_rfl;rfl;(focus((simp(disch:=omega) only[go_sem,W,hz,kz,Nat.mul_one]);(try rfl);done));(first|rfl))|((apply Q0b (w4);rfl;rfl;rfl;rfl;exact Tryz.func8);kernel_rfl;rfl;(focus((simp(disch:=omega) only[go_sem,W,hz,kz,Nat.mul_one]);(try rfl);done));(first|rfl))|skip);simp(disch:=omega) only[go_sem,W,hz,kz,Nat.mul_one];((repeat(refine ndI (by first|assumption|rfl) ?_));refine hK _ ?_;clear hK K))|((fail_if_success (with_reducible intro _));simp(disch:=omega) only[go_sem,W,hz,kz,Nat.mul_one])))))|((with_reducible apply Q0f);rfl;rfl;all_goals(intro hc;first|(cases hc;done)|(try simp only at hc)))))))
   all_goals(refine⟨by simp,⟨_,?_,AV.le_refl _⟩,Q0g (by simp[leH,hget])⟩;simp only[Tryz.results3,resL,ldA,Q0o,go_sem])
 · have b4:(e3 != 0)=true:=by simpa using h3
   clear q3 q4 qn h3 jd w3 w4
   cases b1<;>cases b2<;>cases b3
   all_goals simp only[Bool.false_and,Bool.and_false,Bool.true_and,Bool.false_or,Bool.true_or] at w1 w2
   all_goals(refine Q0n Tryz.func3 rfl (by rfl) ?_;simp only[Tryz.ntmps3,List.length_cons,List.length_nil,Nat.reduceAdd,Nat.reduceSub,List.replicate,List.cons_append,List.nil_append])
   all_goals(have W:=ndI g1 (ndI g2 (ndI z1 (ndI z2 (ndI z3 b4))));(repeat(any_goals(first|((with_reducible refine Q0i ?_ ?_ ?_);rfl;rfl;intro K hK;(first|((first|(apply Q0b (wk);rfl;rfl;rfl;rfl;exact Tryz.func4)|(apply Q0b (wf);rfl;rfl;rfl;rfl;exact Tryz.func5)|(apply Q0b (cw);rfl;rfl;rfl;rfl;exact Tryz.func6)|(apply Q0b (mv);rfl;rfl;rfl;rfl;exact Tryz.func9)|(apply Q0b (nt);rfl;rfl;rfl;rfl;exact Tryz.func10)|(apply Q0b (mn);rfl;rfl;rfl;rfl;exact Tryz.func11));kernel_rfl;rfl;(focus((simp(disch:=omega) only[go_sem,W,Nat.mul_one]);(try rfl);done));(first|rfl))|((apply Q0b (w0);rfl;rfl;rfl;rfl;exact Tryz.func8);kernel_rfl;rfl;(focus((simp(disch:=omega) only[go_sem,W,Nat.mul_one]);(try rfl);done));(first|rfl))|((apply Q0b (w1);rfl;rfl;rfl;rfl;exact Tryz.func8);kernel_rfl;rfl;(focus((simp(disch:=omega) only[go_sem,W,Nat.mul_one]);(try rfl);done));(first|rfl)));(simp(disch:=omega) only[go_sem,W,Nat.mul_one];refine hK _ ?_;clear hK K))|((with_reducible refine Q0c ?_ ?_);rfl;intro K hK;simp(disch:=omega) only[go_sem,W,Nat.mul_one];((repeat(refine ndI (by first|assumption|omega|rfl) ?_));refine hK _ ?_;clear hK K))|(with_reducible first|(refine Q0d ?_;refine hR _ ?_;clear hR R)|((first|refine Q0e ?_);intro Ψ hΨ hΨ')|(refine Q0a ?_;intro R hR)|(refine hΨ _ ?_;clear hΨ hΨ' Ψ)|refine Q0j ?_|refine Q0h ?_)|((with_reducible refine hΨ' _ _ ?_ ?_);(focus(simp;done));clear hΨ hΨ' Ψ)|((with_reducible apply Q0s);rfl;rfl;rfl;all_goals(intro hb;first|(cases hb;done)|((try simp only[Bool.not_true,Bool.not_false] at hb);(first|((with_reducible intro K hK);(first|((apply Q0b (w2);rfl;rfl;rfl;rfl;exact Tryz.func8);kernel_rfl;rfl;(focus((simp(disch:=omega) only[go_sem,W,Nat.mul_one]);(try rfl);done));(first|rfl))|skip);simp(disch:=omega) only[go_sem,W,Nat.mul_one];((repeat(refine ndI (by first|assumption|rfl) ?_));refine hK _ ?_;clear hK K))|((fail_if_success (with_reducible intro _));simp(disch:=omega) only[go_sem,W,Nat.mul_one])))))|((with_reducible apply Q0f);rfl;rfl;all_goals(intro hc;first|(cases hc;done)|(try simp only at hc)))))))
   all_goals(refine⟨by simp,⟨_,?_,AV.le_refl _⟩,Q0g (by simp[leH,hget])⟩;simp only[Tryz.results3,resL,ldA,Q0o,go_sem])
end Go.Proofs.YtbmcdemnnbndeaaGreatDoor
namespace Go.Proofs.YtbmcdemnnbndeaaGreatDoor
open Go.RowKit
set_option maxRecDepth 20000
set_option maxHeartbeats 4000000
theorem decV_bool{P:Program}{t:TypeId}(ht:P.underlying t=some .bool)(hc:P.cellsOf t=1):DecV P t 1 (fun b:Bool=>[PV.v (.bool b)]) (fun _=>True):=
 ⟨hc,fun H enc w base spare held fuel cs x h=>by
   obtain⟨b,rfl,_⟩:=DataW.trod_bool ht h
   refine⟨b,rfl,rfl,fun j u y hu hy=>?_,trivial⟩
   match j with
   |0=>cases hu;cases hy;exact .v _ rfl
   |j+1=>simp at hu⟩
theorem decVH:DecV Tryz.prog 70 11 lg.Hd.pv lg.Hd.ok:=
 (Q3s (sz:=1+(4+(4+(1+1)))) Tryz.underlying70 (by kernel_rfl) (Q1x Q8k rfl (Q1x Q5k rfl (Q1x Q5k rfl (Q1x X0a rfl (Q4y X0a rfl)))))).map fun x hx=>⟨⟨x.1,x.2.1,x.2.2.1,x.2.2.2.1,x.2.2.2.2⟩,rfl,hx⟩
theorem decVHs:DecV Tryz.prog 25 1 (fun l:List lg.Hd=>[hdV l]) (fun l=>l.length≤maxLen∧∀h∈l,h.ok):=
 Q5l Tryz.underlying25 (by kernel_rfl) decVH (by omega) lg.hd_len
theorem decVL:DecV Tryz.prog 27 1 (fun l:List lg.Hd=>[hdV l]) (fun l=>l.length≤maxLen∧∀h∈l,h.ok):=
 Q3s Tryz.underlying27 (by kernel_rfl) (Q4y decVHs rfl)
theorem decVS:DecV Tryz.prog 24 1 (fun l:List Ac=>[acV l]) (fun l=>l.length≤maxLen∧∀h∈l,h.ok):=
 Q3s Tryz.underlying24 (by kernel_rfl) (Q4y X3r rfl)
theorem decVN:DecV Tryz.prog 73 6 nz.N6.pv nz.N6.ok:=
 (X6x (s0:=1) (s1:=4) (s2:=1) Tryz.underlying73 (by kernel_rfl) (Q9z Tryz.underlying32 (by kernel_rfl)) (decV_w4 Tryz.underlying34 (by kernel_rfl) Tryz.underlying31 (by kernel_rfl)) (Q9z Tryz.underlying31 (by kernel_rfl)) rfl rfl rfl).map
   fun v ⟨h1,⟨h2,h3,h4,h5⟩,h6⟩=>⟨⟨v.1,v.2.1.1,v.2.1.2.1,v.2.1.2.2.1,v.2.1.2.2.2,v.2.2⟩,rfl,h1,h2,h3,h4,h5,h6⟩
theorem decVNs:DecV Tryz.prog 28 1 (fun l:List nz.N6=>[noV l]) (fun l=>l.length≤maxLen∧∀n∈l,n.ok):=
 Q5l Tryz.underlying28 (by kernel_rfl) decVN (by omega) (fun _=>rfl)
theorem decVW:DecV Tryz.prog 30 3 Wl.pv Wl.raw:=
 (Q3s (sz:=1+(1+1)) Tryz.underlying30 (by kernel_rfl) (Q1x decVS rfl (Q1x decVL rfl (Q4y decVNs rfl)))).map fun x hx=>⟨⟨x.1,x.2.1,x.2.2⟩,rfl,hx.1,hx.2.1,hx.2.2⟩
end Go.Proofs.YtbmcdemnnbndeaaGreatDoor
namespace Go.Proofs.YtbmcdemnnbndeaaGreatDoor
open Go.RowKit
set_option maxRecDepth 20000
theorem laid_ints{P:Program}{w:World}{t e:TypeId}{N fuel:Nat}{k:IntKind}{cs:List Value}{L:List Int}{p:List MemPlace}(ht:P.underlying t=some (.array N e))(he:P.underlying e=some (.int k))(hc:P.cellsOf e=1)(hN:L.length=N)
 (hd:DataW.trod (fun _=>()) P w 0 (fun _=>true) false fuel t cs=some (.agg (L.map fun n=>.lit (.int k n)),p)):∀(j:Nat) (n:Int),L[j]? = some n→cs[j]? = some (Value.int k n):=by
 obtain⟨xs,m,_,ex,_,hl,hel⟩:=DataW.trod_array ht hd
 intro j n hj
 have hjN:j<N:=by rw[←hN];exact(List.getElem?_eq_some_iff.1 hj).1
 have hE:=hel j hjN
 rw[hc,Nat.mul_one,List.getElem?_eq_getElem (by omega)] at hE
 obtain⟨z,e1,e2,_⟩:=DataW.trod_int he hE
 have e3:xs.map (·.1)=L.map fun n=>.lit (.int k n):=(DataW.agg.inj (Prod.mk.inj ex).1).symm
 have e4:(xs.map (·.1))[j]? = (L.map fun n=>(DataW.lit (.int k n):DataW Unit))[j]?:=by rw[e3]
 rw[List.getElem?_map,List.getElem?_map,List.getElem?_eq_getElem (by omega:j<xs.length),hj,e2] at e4
 have hz:z=n:=by
  simp only[Option.map_some,Option.some.injEq,DataW.lit.injEq,Lit.int.injEq,true_and] at e4
  exact e4
 have h0:((cs.drop j).take 1)[0]? = some (.int k z):=by rw[e1];rfl
 rw[←hz]
 simpa using h0
theorem globs_ok{W:World}(h:laidMetH Tryz.prog Rows.idealStaysRow.laid W):GlobOK W (fun _=>True) (fun _=>(0,0,0)) []:=by
 rw[MakeChecks.laidMetH_plain _ _ _ (by kernel_rfl)] at h
 obtain⟨ps,⟨g,t,cs,fuel,p,q,hg,ht,hv,hd,_,_⟩,_,_⟩:=h
 obtain rfl:=Option.some.inj ((show Tryz.prog.globalNamed "sheafer/vm.long"=some 0 by kernel_rfl).symm.trans hg)
 obtain rfl:=Option.some.inj ((show(Tryz.prog.globals[0]?).map (·.type)=some 149 by kernel_rfl).symm.trans ht)
 have k1:=laid_ints (L:=[9,33,9,1,1,0]) Tryz.underlying149 Tryz.underlying3 (by kernel_rfl) rfl hd
 intro g cs0 hgl
 unfold globV globs at hgl
 simp only[globsV,List.find?_cons,List.find?_nil] at hgl
 split at hgl
 · rename_i e
   have e:0=g:=by simpa using e
   subst e
   cases hgl
   refine⟨trivial,fun r hr=>(by cases hr),by decide,by decide,fun j u hu=>?_⟩
   rw[World.var?_cell hg hv j]
   change (([9,33,9,1,1,0]:List Int).map fun n=>Value.int .i64 n)[j]? = some u at hu
   rw[List.getElem?_map] at hu
   cases hj:([9,33,9,1,1,0]:List Int)[j]? with
   |none=>rw[hj] at hu;cases hu
   |some n=>
    rw[hj] at hu
    cases hu
    have:=k1 j n hj
    simpa using this
 · cases hgl
theorem mint_all{Q:Ac→Prop}(hq:∀x,Q x→x.b<WW)(hb:∀(x:Ac) (b:Nat),b<WW→Q x→Q {x with b:=b}){A:List Ac}(hA:∀y∈A,Q y){a:Int}(h0:Q ⟨a,0,0,[],[]⟩)(n:Nat):(Q7d A a n).1.length≤A.length+1∧∀y∈(Q7d A a n).1,Q y:=by
 have n0:∀{k:Int},(([],k):List Ac×Int).1.length≤A.length+1∧∀y∈(([],k):List Ac×Int).1,Q y:=⟨Nat.zero_le _,fun y hy=>by cases hy⟩
 have qa:=X6k hA h0
 unfold Q7d Q4j
 split
 · exact n0
 split
 · exact n0
 split
 · exact n0
 unfold putS
 split
 · exact n0
 split
 · exact n0
 split
 · exact n0
 · refine⟨Q2m _ _,fun y hy=>?_⟩
   rcases Q6n hy with rfl|h
   · exact hb _ _ (Nat.mod_lt _ (by decide)) qa
   · exact hA y h
theorem istays_fn(x:Wl)(hx:x.raw)(m:Ms)(hm:m.ok)(now:Int)(un:U now):Fn Tryz.prog 3 [wlA x,msA m,vi .u64 now] [] (vb true) []:=by
 have hw:=cutW_ok hx
 have wf:=world_fn x hx
 have hs:(cutW x).S.length≤45:=by
  show((x.S.take 45).map cutA).length≤45
  rw[List.length_map,List.length_take];omega
 generalize cutW x=w at hw wf hs
 have cw:=X1k w hw
 have jd0:=X5b hw hw
 have u0:U 0:=⟨Int.le_refl 0,by show(0:Int)≤_;decide⟩
 have z0:(0:Nat)<WW:=by decide
 cases hr:Q1b w with
 |false=>
  rw[hr,if_neg (by simp)] at cw
  have e1:jdN ⟨w,w,[],0,0,0⟩=0:=by unfold jdN;simp[hr]
  have e2:jdE ⟨w,w,[],0,0,0⟩=200:=by unfold jdE;simp[hr]
  rw[e1,e2] at jd0
  exact stays_no x w m now hm.inp.1 wf cw jd0
 |true=>
  rw[hr,if_pos rfl] at cw
  have hok:=X6z (L:=w.S) (by omega) hw.s.2
  have hm':(⟨m.fr,m.to,m.v,m.inp.take 1100,m.gas,m.st⟩:Ms).ok:=⟨hm.fr,hm.to,hm.v,⟨by show(m.inp.take 1100).length≤maxLen;rw[List.length_take];have:=hm.inp.1;omega,fun b hb=>hm.inp.2 b (List.mem_of_mem_take hb)⟩,hm.gas⟩
  have a1:=Q8b X9f Q9a (Q:=AcQ) (A:=w.S) hw.s.2 (Q3z hm.fr) (Q3z hm.to) m.v
  have v1:(⟨(Q2l w.S m.fr m.to m.v).1,w.L,w.N⟩:Wl).ok:=⟨⟨by dsimp only;omega,a1.2⟩,hw.l,hw.n⟩
  have a3:=mint_all X9f Q9a (Q:=AcQ) (A:=w.S) hw.s.2 (Q3z hm.to) m.v
  have v3:(⟨(Q7d w.S m.to m.v).1,w.L,w.N⟩:Wl).ok:=⟨⟨by dsimp only;omega,a3.2⟩,hw.l,hw.n⟩
  obtain⟨u,e2,nt,np,hu⟩:=Native_fn w hw hr hs _ hm' now un
  have sm:=fun h=>X8j hw hr (to:=m.to) (n:=m.v) (s:=(Q7d w.S m.to m.v).1) (Prod.ext rfl h)
  exact stays_yes x w m now hm.inp.1 wf cw (Q6c hw hw u0 hm.v hm.v (X1x hw hr u0 m.v)) _ _ (X6m false w.S hok m.fr m.to hm.fr hm.to m.v hm.v)
   _ (Q6c hw v1 u0 z0 z0 rfl) (fun h h1=>X8i hw hr hm.fr hm.to h1 (Prod.ext rfl h))
   u e2 nt _ (Q6c hw hu u0 z0 z0 rfl) (fun h h1=>X4b hw hs hr hm' h1 (np h))
   _ _ (mint_fn false w.S hok m.to hm.to m.v hm.v) _ _ (X5b hw v3) (fun h=>by
     have e:jdN ⟨w,⟨(Q7d w.S m.to m.v).1,w.L,w.N⟩,[],0,0,0⟩=brk ⟨w,⟨(Q7d w.S m.to m.v).1,w.L,w.N⟩,[],0,0,0⟩:=by
      unfold jdN
      rw[hr,(sm h).1]
      rfl
     rw[e,vNe_eq hm.v]
     exact(sm h).2.2)
   _ (Q6c hw v3 u0 hm.v z0 rfl) (fun h=>(sm h).2.1) _ (Q6c v3 v3 hm.to z0 z0 rfl) (fun h=>X1x v3 (sm h).1 hm.to 0)
theorem decVM:DecV Tryz.prog 37 9 Ms.pv Ms.ok:=
 (Q3s (sz:=1+(1+(4+(1+(1+1))))) Tryz.underlying37 (by kernel_rfl) (Q1x Q8k rfl (Q1x Q8k rfl (Q1x Q5k rfl (Q1x X2k rfl (Q1x X0a rfl (Q4y (decV_bool Tryz.underlying4 (by kernel_rfl)) rfl))))))).map fun x hx=>
   ⟨⟨x.1,x.2.1,x.2.2.1,x.2.2.2.1,x.2.2.2.2.1,x.2.2.2.2.2⟩,rfl,⟨hx.1,hx.2.1,hx.2.2.1,hx.2.2.2.1,hx.2.2.2.2.1⟩⟩
theorem law_stays{x:Wl}{m:Ms}{now:Int}{v0 v1:Value}{W:World}(hL:laidMetH Tryz.prog Rows.idealStaysRow.laid W)(h0:RV (fun _=>True) (fun _=>(0,0,0)) W v0 (.agg (x.pv.map .c)))(g0:x.raw)(h1:RV (fun _=>True) (fun _=>(0,0,0)) W v1 (.agg (m.pv.map .c)))(g1:m.ok)(un:U now):Calls Tryz.prog 3 #[v0,v1,.int .u64 now] W (RetT W true):=by
 refine Fn.law (istays_fn x g0 m g1 now un) (vs:=[_,_,_]) rfl (fun j v y hj hy=>?_) (globs_ok hL)
 rcases j with _|_|_|j
 · cases hj;cases hy;exact h0
 · cases hj;cases hy;exact h1
 · cases hj;cases hy;exact .c _ _ (.v _ rfl)
 · simp at hj
end Go.Proofs.YtbmcdemnnbndeaaGreatDoor
namespace Go.Proofs.YtbmcdemnnbndeaaGreatDoor.idealStaysDone
open Go.RowKit Go.ChangeShapes Go.WideShapes Go.ChangeAt
theorem own:ownKnob Tryz.prog.godebug=none:=by kernel_rfl
theorem laidOut:laidOutB Tryz.prog=true:=by kernel_rfl
theorem reads:∀t∈Tryz.f3.params.toList,Tryz.prog.readableRec t=true∧t<Tryz.prog.types.size:=by
 rw[Tryz.params3]
 intro t ht
 simp only[List.mem_cons,List.not_mem_nil,or_false] at ht
 rcases ht with rfl|rfl|rfl
 · exact⟨by kernel_rfl,of_decide_eq_true (by kernel_rfl)⟩
 · exact⟨by kernel_rfl,of_decide_eq_true (by kernel_rfl)⟩
 · exact⟨by kernel_rfl,of_decide_eq_true (by kernel_rfl)⟩
set_option maxRecDepth 100000 in
theorem lifted(os:Os)(started:os.Started)(H:Type)(enc:TypeId×Value→H) :
 ReturnsInHanded {} Tryz.checked os 3 .any (fun w args=>(Rows.idealStaysSpec.pre enc Tryz.prog Tryz.f3 Rows.idealStaysRow.domain false w args∧laidMetH Tryz.prog Rows.idealStaysRow.laid w)∧sizedMet enc Tryz.prog Tryz.f3 (OpenSpec.ofChange Rows.idealStaysSpec) false w args)
  (Rows.idealStaysSpec.post enc Tryz.prog Tryz.f3 false true false false):=by
 refine returnsInHanded_of_change_and (C:=Tryz.checked) (X:=fun w _=>laidMetH Tryz.prog Rows.idealStaysRow.laid w) (fun _ _ _ hh h=>h.of_heap hh) own started (by kernel_rfl) Tryz.func3
  (ChangeSpec.witness_shaped (enc:=enc) (C:=Tryz.checked) (os:=os) (X:=fun w _=>laidMetH Tryz.prog Rows.idealStaysRow.laid w) false (World.laidAll Tryz.prog os Rows.idealStaysRow.laid) #[.agg #[.slice none 0 0,.slice none 0 0,.slice none 0 0],.agg #[.int .u64 0,.int .u64 0,.int .u64 0,.int .u64 0,.int .u64 0,.int .u64 0,.slice none 0 0,.int .u64 0,.bool false],.int .u64 0] 8 (World.laidAll_os _ _ _)
    (World.shaped_of_ZipB (by kernel_rfl) (by kernel_rfl)) (by kernel_rfl) (by kernel_rfl) (by kernel_rfl)
    (by rw[MakeChecks.laidMetH_plain _ _ _ (by kernel_rfl)];exact laidMet_laidAll _ (by kernel_rfl) (by kernel_rfl))) ?_
 intro W base args ds gs before hval0 hW hc _ hL _
 have hval:∀(j:Nat) t v,Tryz.f3.params[j]? = some t→args[j]? = some v→Value.okWide Tryz.prog W .any base t v:=hval0
 refine law_post (P:=Tryz.prog) laidOut rfl Tryz.underlying4 rfl reads (fun ds hds=>by
  match ds,hds with
  |[d1,d2,d3],_=>rfl) hW ?_
 obtain⟨p,q,hA0,hV,rfl,hfz,hnd⟩:=hW
 have hA:DataW.TrodAll enc Tryz.prog W 0 (fun _=>true) true Tryz.f3.params.toList args.toList ds p:=hA0
 rw[Tryz.params3] at hA hval
 obtain⟨v0,vs0,d0,ds0,p0,q0,hargs,rfl,rfl,h0,r0⟩:=trodAll_cons hA
 obtain⟨v1,vs1,d1,ds1,p1,q1,rfl,rfl,rfl,h1,r1⟩:=trodAll_cons r0
 obtain⟨v2,vs2,d2,ds2,p2,q2,rfl,rfl,rfl,h2,r2⟩:=trodAll_cons r1
 obtain⟨rfl,rfl,rfl⟩:=trodAll_nil r2
 obtain rfl:args = #[v0,v1,v2]:=by cases args;simp_all
 obtain⟨cs0,rfl⟩:=Q7y Tryz.underlying30 (hval 0 30 v0 rfl rfl)
 obtain⟨l0,hr0,hg0⟩:=open_VA decVW h0 (fun _=>(0,0,0))
 obtain⟨cs1,rfl⟩:=Q7y Tryz.underlying37 (hval 1 37 v1 rfl rfl)
 obtain⟨l1,hr1,hg1⟩:=open_VA decVM h1 (fun _=>(0,0,0))
 obtain⟨x2,rfl,rfl,rfl,wx2⟩:=open_int Tryz.underlying31 (hval 2 31 v2 rfl rfl) h2
 have ux2:U x2:=by have:=X7b wx2;exact⟨by omega,by omega⟩
 exact law_stays hL hr0 hg0 hr1 hg1 ux2
theorem over:Rows.idealStaysRow.holds Tryz.pinned (OpenSpec.ofChange Rows.idealStaysSpec):=
 OpenClaim.holds_of_wide 3 Tryz.f3 rfl rfl rfl rfl rfl rfl rfl ⟨rfl,rfl,rfl,rfl,rfl⟩ rfl rfl rfl rfl rfl (by kernel_rfl) Tryz.func3 (by kernel_rfl)
  (of_decide_eq_true (by kernel_rfl)) (by unfold Func.isWrapper;first|(rw[if_neg (by decide +kernel)];exact⟨rfl,rfl⟩))
  (fun os started H enc _=>lifted os started H enc)
theorem proved:Rows.IdealStaysCardSaid:=
 Claim7.holds_tied_plain_at .later [] [.data] true (true,"01950bc35a1afa572723cfcf40283f714b974934abe4bbb942ca7572f38f9608") false over (fun _ h=>by cases h) (by kernel_rfl) (fun _ h=>by cases h) idealStays_row_tie rfl ⟨rfl,rfl⟩ (by kernel_rfl) rfl
  (fun f fn hf hfn=>by
    obtain rfl:f=3:=Option.some.inj ((show Tryz.prog.funcNamed "sheafer/sheaferlaw28.IdealStays"=some 3 by kernel_rfl).symm.trans hf) |>.symm
    obtain rfl:fn=Tryz.f3:=(Option.some.inj (Tryz.func3.symm.trans hfn)).symm
    exact⟨by kernel_rfl,fun j t ht=>by
     rw[Tryz.params3] at ht
     have hm:t∈[30,37,31]:=by simpa using Array.mem_of_getElem? ht
     have hall:([30,37,31].all fun u=>!Tryz.prog.wantsStandIn u)=true:=by kernel_rfl
     exact(show Tryz.prog.wantsStandIn t=false by simpa using List.all_eq_true.1 hall t hm)⟩)
  (by kernel_rfl)
end Go.Proofs.YtbmcdemnnbndeaaGreatDoor.idealStaysDone
