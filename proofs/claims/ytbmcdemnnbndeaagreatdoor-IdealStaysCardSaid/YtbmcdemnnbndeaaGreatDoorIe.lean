/-
  What a turn breaks; reckoned.
-/
import Derived.Test.YtbmcdemnnbndeaaGreatDoorAvCe
import Derived.Test.YtbmcdemnnbndeaaGreatDoorLf
import Derived.Test.YtbmcdemnnbndeaaGreatDoorLb
import Derived.MapKept
import Derived.WideKeyMaps
namespace Go.Proofs.YtbmcdemnnbndeaaGreatDoor
set_option linter.unusedSimpArgs false
set_option linter.unusedVariables false
section
open Go.RowKit
open Nat (reduceBEq)
set_option maxRecDepth 20000
set_option maxHeartbeats 4000000
theorem ownW_row(w:Wl)(hw:w.ok):Fn Tryz.prog 48 [wlA w] [] (.agg [.row 8 62 8 w.S.length,.c (hdV w.L),.c (noV w.N)]) [(8,rcS w.S)]:=by
 obtain⟨S,L,N⟩:=w
 obtain⟨⟨hs,os⟩,⟨hl,ol⟩,⟨hn,on'⟩⟩:=hw
 dsimp only at hs os hl ol hn on'
 have c1:=X1j false S (by omega)
 have c4:=cloneHv false L (by omega)
 have c5:=cloneNv false N (by omega)
 have r1:∀d,AV.refsL d (rcS S)=false:=fun d=>Q0m d _
 have r2:∀r,AV.renL r (rcS S)=rcS S:=fun r=>Q0p r _
 have r3:∀r,AV.inNL r (rcS S)=true:=fun r=>Q0x r _
 have r4:=Q6j S
 show Fn Tryz.prog 48 [wlA ⟨S,L,N⟩] [] (.agg [.row 8 62 8 S.length,.c (hdV L),.c (noV N)]) [(8,rcS S)]
 (refine Q0n Tryz.func48 rfl (by rfl) ?_;simp only[Tryz.ntmps48,List.length_cons,List.length_nil,Nat.reduceAdd,Nat.reduceSub,List.replicate,List.cons_append,List.nil_append])
 (have W:=ndI r1 (ndI r2 (ndI r3 r4));(repeat(any_goals(first|((with_reducible refine Q0i ?_ ?_ ?_);rfl;rfl;intro K hK;(apply Q0y (c1) (fun r=>8);rfl;rfl;rfl;rfl;exact Tryz.func16;kernel_rfl;rfl;rfl;(intro r hr q hq h;simp(disch:=omega) only[List.map_cons,List.map_nil,List.cons_append,List.nil_append,List.mem_cons,List.not_mem_nil,or_false] at hr hq;(try dsimp only at h);first|omega);(simp(disch:=omega) only[Q1e,Q1y,AV.ren,AV.renL,Q0p,List.mem_cons,List.not_mem_nil,forall_eq_or_imp,forall_eq,Q1v,List.contains_cons,List.contains_nil,AV.refsL,AV.refs,Q0m,AV.inN,AV.inNL,inH,Q0x,go_sem,W]));(simp(disch:=omega) only[Q0t,Q1w,renH,AV.ren,AV.renL,Q0p,go_sem,W];refine hK _ ?_;clear hK K))|((with_reducible refine Q0c ?_ ?_);rfl;intro K hK;simp(disch:=omega) only[go_sem,W];((repeat(refine ndI (by first|assumption|rfl) ?_));refine hK _ ?_;clear hK K))|(with_reducible first|(refine Q0d ?_;refine hR _ ?_;clear hR R)|((first|refine Q0e ?_|refine Q0l ?_);intro Ψ hΨ hΨ')|(refine Q0a ?_;intro R hR)|(refine hΨ _ ?_;clear hΨ hΨ' Ψ))))))
 refine Q3n S.length (fun i=>⟨[.any,.ptr 1 0,.ptr 2 0,.any,.any,.any,.any,.any,.any,.any,.any,.any,.any,.any,vi .i64 S.length,vi .i64 (i:Int),.any,.any,.any,.any,.any,.any,.any,.any,.any,.any,.any,.any,.any,.any,.any,.any,.any,.any,.any,.any,.any,.any,.any,.any,.any,.any,.any,.any,.any,.any,.any,.any,.any,.any,.any],[(1,[.row 8 62 8 S.length,.c (hdV L),.c (noV N)]),(2,[.c (.v (.slice none 0 0)),.c (.v (.slice none 0 0)),.c (.v (.slice none 0 0))]),(8,rcS S)]⟩) (St.le_of (by simp[leT]) (by simp[leH,hget])) ?_
 intro i hi Ψ hΨ hΨ'
 (try dsimp only at hΨ ⊢)
 have k8:S.length<9223372036854775808:=by omega
 rcases Nat.lt_or_ge i S.length with hlt|hge
 · obtain⟨y,hy⟩:∃x,S[i]? = some x:=⟨_,List.getElem?_eq_getElem hlt⟩
   have k1:(decide ((i:Int)<(S.length:Int)))=true:=decide_eq_true (by omega)
   have k7:(i:Int)+1=((i+1:Nat):Int):=by omega
   have hA:(S.take i).length=i:=by rw[List.length_take];omega
   have d1:S=S.take i++y::S.drop (i+1):=by
    have h1:S.drop i=y::S.drop (i+1):=by
     rw[List.drop_eq_getElem_cons hlt]
     congr 1
     exact(List.getElem?_eq_some_iff.1 hy).2
    rw[←h1,List.take_append_drop]
   have yo:=os y (List.mem_of_getElem? hy)
   have y8:y.code.length<9223372036854775808:=by have:=yo.2.1;omega
   have z8:y.store.length<9223372036854775808:=by have:=yo.2.2;omega
   have b1:=cloneBv false y.code (by have:=yo.2.1;omega)
   have b2:=clonePv false y.store (by have:=yo.2.2;omega)
   obtain⟨u1,u2⟩:=acell (B:=S.drop (i+1)) (y:=y) hA
   have u3:=X7f (B:=S.drop (i+1)) (y:=y) hA y.code
   have u4:=X4f (B:=S.drop (i+1)) (y:=y) hA y.store
   rw[show(⟨y.a,y.b,y.n,y.code,y.store⟩:Ac)=y from rfl,←d1] at u3 u4
   rw[←d1] at u1 u2
   have v1:i*8+8≤(rcS S).length:=by rw[r4];omega
   (have W:=ndI k1 (ndI k7 (ndI u1 (ndI u2 (ndI u3 (ndI u4 (ndI r1 @wrI))))));(repeat(any_goals(first|((with_reducible refine Q0c ?_ ?_);rfl;intro K hK;simp(disch:=omega) only[go_sem,W,Nat.mul_one];((repeat(refine ndI (by first|assumption|omega|rfl) ?_));refine hK _ ?_;clear hK K))|(with_reducible first|(refine Q0d ?_;refine hR _ ?_;clear hR R)|((first|refine Q0e ?_|refine Q0l ?_);intro Ψ hΨ hΨ')|(refine Q0a ?_;intro R hR)|(refine hΨ _ ?_;clear hΨ hΨ' Ψ)|refine Q0j ?_)|((with_reducible refine hΨ' _ _ ?_ ?_);(focus(simp;done));clear hΨ hΨ' Ψ)|((with_reducible apply Q0f);rfl;rfl;all_goals(intro hc;first|(cases hc;done)|(try simp only at hc)))|((with_reducible refine Q0v ?_ ?_);(apply Q5i);(focus(repeat(first|exact Sims.nil|((apply Sims.cons);(focus(first|((apply Ef.sim_row);assumption)|exact Ef.sim_refl _))))));kernel_rfl;(with_reducible refine hR _ ?_);clear hR R)|((first|((with_reducible apply Q1c);rfl;rfl;((first|(apply Q0r (b1);rfl;rfl;rfl;rfl;exact Tryz.func17)|(apply Q0r (b2);rfl;rfl;rfl;rfl;exact Tryz.func18));kernel_rfl;rfl;(focus((simp(disch:=omega) only[go_sem,W,Nat.mul_one]);(try rfl);done));(first|rfl)))|((with_reducible apply Q0w);rfl;rfl;(simp(disch:=omega) only[rdE,rdOf,go_sem,W,Nat.mul_one];rfl);(intro τ hA hQ hN;((try simp only[Q1a,Op.operands,Call.operands,go_sem,W,Nat.mul_one,go_sem,List.mem_cons,List.not_mem_nil,forall_eq_or_imp,forall_eq,List.append_toArray,Option.toArray] at hA);(try simp only[go_sem,W,Nat.mul_one,List.mem_cons,List.not_mem_nil,forall_eq_or_imp,forall_eq] at hQ hN);(first|(revert hA;intro hA));(first|(revert hQ;intro hQ));(first|(revert hN;intro hN));simp(disch:=omega) only[go_sem,W,Nat.mul_one,go_sem,hA,hQ,hN];(repeat(refine ndI (by first|assumption|omega|rfl) ?_));(first|apply Q0z|apply Q2g)))));(simp(disch:=omega) only[St.eff,setO,Q0t,go_sem,W,Nat.mul_one]))|((with_reducible refine Q0q ?_ ?_ ?_ ?_);kernel_rfl;kernel_rfl;(simp[Q1n,Q5f,St.free,Q2i,AV.refsL,AV.refs,r1]);intro R hR)))))
   all_goals exact hΨ _ hlt (St.le_of (by simp[leT]) (by simp[leH,hget]))
 · have k1:(decide ((i:Int)<(S.length:Int)))=false:=decide_eq_false (by omega)
   (repeat(any_goals(first|((with_reducible refine Q0c ?_ ?_);rfl;intro K hK;simp only[go_sem,k1,r1];((repeat(refine ndI (by first|assumption) ?_));refine hK _ ?_;clear hK K))|(with_reducible first|(refine Q0d ?_;refine hR _ ?_;clear hR R)|((first|refine Q0e ?_);intro Ψ hΨ hΨ')|(refine Q0a ?_;intro R hR)|(refine hΨ _ ?_;clear hΨ hΨ' Ψ)|refine Q0h ?_|refine Q1f ?_)|((with_reducible refine hΨ' _ _ ?_ ?_);(focus(simp;done));clear hΨ hΨ' Ψ)|((with_reducible apply Q0f);rfl;rfl;all_goals(intro hc;first|(cases hc;done)|(try simp only at hc)))|((with_reducible refine Q0v ?_ ?_);(apply Q5i);(focus(repeat(first|exact Sims.nil|((apply Sims.cons);(focus(first|exact Ef.sim_refl _))))));kernel_rfl;(with_reducible refine hR _ ?_);clear hR R)|((first|((with_reducible apply Q1c);rfl;rfl;((first|(apply Q0r (c4);rfl;rfl;rfl;rfl;exact Tryz.func19)|(apply Q0r (c5);rfl;rfl;rfl;rfl;exact Tryz.func20));kernel_rfl;rfl;(focus((simp only[go_sem,k1,r1]);(try rfl);done));(first|rfl)))|((with_reducible apply Q0w);rfl;rfl;(simp only[rdE,rdOf,go_sem,k1,r1];rfl);(intro τ hA hQ hN;((try simp only[Q1a,Op.operands,Call.operands,go_sem,k1,r1,go_sem,List.mem_cons,List.not_mem_nil,forall_eq_or_imp,forall_eq,List.append_toArray,Option.toArray] at hA);(try simp only[go_sem,k1,r1,List.mem_cons,List.not_mem_nil,forall_eq_or_imp,forall_eq] at hQ hN);(first|(revert hA;intro hA));(first|(revert hQ;intro hQ));(first|(revert hN;intro hN));simp only[go_sem,k1,r1,go_sem,hA,hQ,hN];(repeat(refine ndI (by first|assumption) ?_));(first|apply Q0z|apply Q2g)))));(simp only[St.eff,setO,Q0t,go_sem,k1,r1]))|((with_reducible refine Q0q ?_ ?_ ?_ ?_);kernel_rfl;kernel_rfl;(simp[Q1n,Q5f,St.free,Q2i,AV.refsL,AV.refs,r1]);intro R hR))))
   all_goals(refine⟨by simp,⟨_,?_,AV.le_refl _⟩,Q0g (by simp[leH,hget])⟩;simp only[Tryz.results48,resL,ldA,Q0o,go_sem])
theorem ownW_fn(w:Wl)(hw:w.ok):Fn Tryz.prog 48 [wlA w] [] (wlA w) []:=by
 have k:=(ownW_row w hw).frzN (d:=8) (pcs:=w.S.flatMap Ac.pv) rfl
 have e1:(w.S.flatMap Ac.pv).length=w.S.length*8:=Q0u Q6a _
 simpa [-List.length_flatMap,e1,AV.frz,AV.frzL,frzH,acV,vi] using k
structure Ms where
 fr:Int
 to:Int
 v:Nat
 inp:List Nat
 gas:Int
 st:Bool
structure Ms.ok (m:Ms):Prop where
 fr:U m.fr
 to:U m.to
 v:m.v<WW
 inp:m.inp.length≤maxLen∧∀b∈m.inp,b<256
 gas:U m.gas
def Ms.pv(m:Ms):List PV:=[.v (.int .u64 m.fr),.v (.int .u64 m.to),.v (.int .u64 (l0 m.v)),.v (.int .u64 (l1 m.v)),.v (.int .u64 (l2 m.v)),.v (.int .u64 (l3 m.v)),.sl false 1 m.inp.length (m.inp.flatMap bpv),.v (.int .u64 m.gas),.v (.bool m.st)]
abbrev msL(m:Ms):List AV:=[vi .u64 m.fr,vi .u64 m.to,vi .u64 (l0 m.v),vi .u64 (l1 m.v),vi .u64 (l2 m.v),vi .u64 (l3 m.v),bsl false m.inp,vi .u64 m.gas,vb m.st]
abbrev msA(m:Ms):AV:=.agg (msL m)
def vNe(n:Nat):Bool:=!(l0 n==0&&(l1 n==0&&(l2 n==0&&l3 n==0)))
theorem vNe_eq{n:Nat}(hn:n<WW):vNe n = !decide (n=0):=by
 have h:=X0c hn
 unfold vNe
 rw[h]
def msB(m:Ms):Bool:=(m.fr==0)||(m.to==0)||decide ((m.inp.length:Int)>1024)||decide (m.gas>20000)||(m.st&&vNe m.v)
theorem ckM_fn(m:Ms)(hm:m.ok):Fn Tryz.prog 46 [msA m] [] (vi .i64 (if msB m then 260 else 0)) []:=by
 obtain⟨b1,h1⟩:∃b,(m.fr==0)=b:=⟨_,rfl⟩
 obtain⟨b2,h2⟩:∃b,(m.to==0)=b:=⟨_,rfl⟩
 obtain⟨b3,h3⟩:∃b,decide ((m.inp.length:Int)>1024)=b:=⟨_,rfl⟩
 obtain⟨b4,h4⟩:∃b,decide (m.gas>20000)=b:=⟨_,rfl⟩
 obtain⟨b5,h5⟩:∃b,(l0 m.v==0&&(l1 m.v==0&&(l2 m.v==0&&l3 m.v==0)))=b:=⟨_,rfl⟩
 have e:msB m=(b1||b2||b3||b4||(m.st && !b5)):=by unfold msB vNe;rw[h1,h2,h3,h4,h5]
 rw[e]
 obtain⟨fr,to,v,inp,gas,st⟩:=m
 dsimp only at h1 h2 h3 h4 h5 ⊢
 clear e hm
 cases b1 with
 |true=>
  (refine Q0n Tryz.func46 rfl (by rfl) ?_;simp only[Tryz.ntmps46,List.length_cons,List.length_nil,Nat.reduceAdd,Nat.reduceSub,List.replicate,List.cons_append,List.nil_append])
  (have W:=ndI h1 (ndI h2 (ndI h3 (ndI h4 h5)));(repeat(any_goals(first|((with_reducible refine Q0c ?_ ?_);rfl;intro K hK;simp only[go_sem,W];((repeat(refine ndI (by first|assumption) ?_));refine hK _ ?_;clear hK K))|(with_reducible first|(refine Q0d ?_;refine hR _ ?_;clear hR R)|((first|refine Q0e ?_);intro Ψ hΨ hΨ')|(refine Q0a ?_;intro R hR)|(refine hΨ _ ?_;clear hΨ hΨ' Ψ)|refine Q0h ?_)|((with_reducible refine hΨ' _ _ ?_ ?_);(focus(simp;done));clear hΨ hΨ' Ψ)|((with_reducible apply Q2v);rfl;rfl;rfl;(try simp only[go_sem,W]))|((with_reducible apply Q0s);rfl;rfl;rfl;all_goals(intro hb;first|(cases hb;done)|((try simp only[Bool.not_true,Bool.not_false] at hb);(first|((fail_if_success (with_reducible intro _));simp only[go_sem,W])))))|((with_reducible apply Q0f);rfl;rfl;all_goals(intro hc;first|(cases hc;done)|(try simp only at hc)))))))
  all_goals(refine⟨by simp,⟨_,?_,AV.le_refl _⟩,Q0g (by simp[leH,hget])⟩;simp only[Tryz.results46,resL,ldA,Q0o,go_sem])
  all_goals rfl
 |false=>
  cases b2 with
  |true=>
   (refine Q0n Tryz.func46 rfl (by rfl) ?_;simp only[Tryz.ntmps46,List.length_cons,List.length_nil,Nat.reduceAdd,Nat.reduceSub,List.replicate,List.cons_append,List.nil_append])
   (have W:=ndI h1 (ndI h2 (ndI h3 (ndI h4 h5)));(repeat(any_goals(first|((with_reducible refine Q0c ?_ ?_);rfl;intro K hK;simp only[go_sem,W];((repeat(refine ndI (by first|assumption) ?_));refine hK _ ?_;clear hK K))|(with_reducible first|(refine Q0d ?_;refine hR _ ?_;clear hR R)|((first|refine Q0e ?_);intro Ψ hΨ hΨ')|(refine Q0a ?_;intro R hR)|(refine hΨ _ ?_;clear hΨ hΨ' Ψ)|refine Q0h ?_)|((with_reducible refine hΨ' _ _ ?_ ?_);(focus(simp;done));clear hΨ hΨ' Ψ)|((with_reducible apply Q2v);rfl;rfl;rfl;(try simp only[go_sem,W]))|((with_reducible apply Q0s);rfl;rfl;rfl;all_goals(intro hb;first|(cases hb;done)|((try simp only[Bool.not_true,Bool.not_false] at hb);(first|((with_reducible intro K hK);simp only[go_sem,W];((repeat(refine ndI (by first|assumption) ?_));refine hK _ ?_;clear hK K))|((fail_if_success (with_reducible intro _));simp only[go_sem,W])))))|((with_reducible apply Q0f);rfl;rfl;all_goals(intro hc;first|(cases hc;done)|(try simp only at hc)))))))
   all_goals(refine⟨by simp,⟨_,?_,AV.le_refl _⟩,Q0g (by simp[leH,hget])⟩;simp only[Tryz.results46,resL,ldA,Q0o,go_sem])
   all_goals rfl
  |false=>
   cases b3 with
   |true=>
    (refine Q0n Tryz.func46 rfl (by rfl) ?_;simp only[Tryz.ntmps46,List.length_cons,List.length_nil,Nat.reduceAdd,Nat.reduceSub,List.replicate,List.cons_append,List.nil_append])
    (have W:=ndI h1 (ndI h2 (ndI h3 (ndI h4 h5)));(repeat(any_goals(first|((with_reducible refine Q0c ?_ ?_);rfl;intro K hK;simp only[go_sem,W];((repeat(refine ndI (by first|assumption) ?_));refine hK _ ?_;clear hK K))|(with_reducible first|(refine Q0d ?_;refine hR _ ?_;clear hR R)|((first|refine Q0e ?_);intro Ψ hΨ hΨ')|(refine Q0a ?_;intro R hR)|(refine hΨ _ ?_;clear hΨ hΨ' Ψ)|refine Q0h ?_)|((with_reducible refine hΨ' _ _ ?_ ?_);(focus(simp;done));clear hΨ hΨ' Ψ)|((with_reducible apply Q2v);rfl;rfl;rfl;(try simp only[go_sem,W]))|((with_reducible apply Q0s);rfl;rfl;rfl;all_goals(intro hb;first|(cases hb;done)|((try simp only[Bool.not_true,Bool.not_false] at hb);(first|((with_reducible intro K hK);simp only[go_sem,W];((repeat(refine ndI (by first|assumption) ?_));refine hK _ ?_;clear hK K))|((fail_if_success (with_reducible intro _));simp only[go_sem,W])))))|((with_reducible apply Q0f);rfl;rfl;all_goals(intro hc;first|(cases hc;done)|(try simp only at hc)))))))
    all_goals(refine⟨by simp,⟨_,?_,AV.le_refl _⟩,Q0g (by simp[leH,hget])⟩;simp only[Tryz.results46,resL,ldA,Q0o,go_sem])
    all_goals rfl
   |false=>
    cases b4 with
    |true=>
     (refine Q0n Tryz.func46 rfl (by rfl) ?_;simp only[Tryz.ntmps46,List.length_cons,List.length_nil,Nat.reduceAdd,Nat.reduceSub,List.replicate,List.cons_append,List.nil_append])
     (have W:=ndI h1 (ndI h2 (ndI h3 (ndI h4 h5)));(repeat(any_goals(first|((with_reducible refine Q0c ?_ ?_);rfl;intro K hK;simp only[go_sem,W];((repeat(refine ndI (by first|assumption) ?_));refine hK _ ?_;clear hK K))|(with_reducible first|(refine Q0d ?_;refine hR _ ?_;clear hR R)|((first|refine Q0e ?_);intro Ψ hΨ hΨ')|(refine Q0a ?_;intro R hR)|(refine hΨ _ ?_;clear hΨ hΨ' Ψ)|refine Q0h ?_)|((with_reducible refine hΨ' _ _ ?_ ?_);(focus(simp;done));clear hΨ hΨ' Ψ)|((with_reducible apply Q2v);rfl;rfl;rfl;(try simp only[go_sem,W]))|((with_reducible apply Q0s);rfl;rfl;rfl;all_goals(intro hb;first|(cases hb;done)|((try simp only[Bool.not_true,Bool.not_false] at hb);(first|((with_reducible intro K hK);simp only[go_sem,W];((repeat(refine ndI (by first|assumption) ?_));refine hK _ ?_;clear hK K))|((fail_if_success (with_reducible intro _));simp only[go_sem,W])))))|((with_reducible apply Q0f);rfl;rfl;all_goals(intro hc;first|(cases hc;done)|(try simp only at hc)))))))
     all_goals(refine⟨by simp,⟨_,?_,AV.le_refl _⟩,Q0g (by simp[leH,hget])⟩;simp only[Tryz.results46,resL,ldA,Q0o,go_sem])
     all_goals rfl
    |false=>
     cases st with
     |false=>
      (refine Q0n Tryz.func46 rfl (by rfl) ?_;simp only[Tryz.ntmps46,List.length_cons,List.length_nil,Nat.reduceAdd,Nat.reduceSub,List.replicate,List.cons_append,List.nil_append])
      (have W:=ndI h1 (ndI h2 (ndI h3 (ndI h4 h5)));(repeat(any_goals(first|((with_reducible refine Q0c ?_ ?_);rfl;intro K hK;simp only[go_sem,W];((repeat(refine ndI (by first|assumption) ?_));refine hK _ ?_;clear hK K))|(with_reducible first|(refine Q0d ?_;refine hR _ ?_;clear hR R)|((first|refine Q0e ?_);intro Ψ hΨ hΨ')|(refine Q0a ?_;intro R hR)|(refine hΨ _ ?_;clear hΨ hΨ' Ψ)|refine Q0j ?_|refine Q0h ?_)|((with_reducible apply Q0s);rfl;rfl;rfl;all_goals(intro hb;first|(cases hb;done)|((try simp only[Bool.not_true,Bool.not_false] at hb);(first|((with_reducible intro K hK);simp only[go_sem,W];((repeat(refine ndI (by first|assumption) ?_));refine hK _ ?_;clear hK K))|((fail_if_success (with_reducible intro _));simp only[go_sem,W])))))|((with_reducible apply Q0f);rfl;rfl;all_goals(intro hc;first|(cases hc;done)|(try simp only at hc)))))))
      all_goals(refine⟨by simp,⟨_,?_,AV.le_refl _⟩,Q0g (by simp[leH,hget])⟩;simp only[Tryz.results46,resL,ldA,Q0o,go_sem])
      all_goals rfl
     |true=>
      cases b5 with
      |false=>
       (refine Q0n Tryz.func46 rfl (by rfl) ?_;simp only[Tryz.ntmps46,List.length_cons,List.length_nil,Nat.reduceAdd,Nat.reduceSub,List.replicate,List.cons_append,List.nil_append])
       (have W:=ndI h1 (ndI h2 (ndI h3 (ndI h4 h5)));(repeat(any_goals(first|((with_reducible refine Q0c ?_ ?_);rfl;intro K hK;simp only[go_sem,W];((repeat(refine ndI (by first|assumption) ?_));refine hK _ ?_;clear hK K))|(with_reducible first|(refine Q0d ?_;refine hR _ ?_;clear hR R)|((first|refine Q0e ?_);intro Ψ hΨ hΨ')|(refine Q0a ?_;intro R hR)|(refine hΨ _ ?_;clear hΨ hΨ' Ψ)|refine Q0h ?_)|((with_reducible refine hΨ' _ _ ?_ ?_);(focus(simp;done));clear hΨ hΨ' Ψ)|((with_reducible apply Q0s);rfl;rfl;rfl;all_goals(intro hb;first|(cases hb;done)|((try simp only[Bool.not_true,Bool.not_false] at hb);(first|((with_reducible intro K hK);simp only[go_sem,W];((repeat(refine ndI (by first|assumption) ?_));refine hK _ ?_;clear hK K))))))|((with_reducible apply Q0f);rfl;rfl;all_goals(intro hc;first|(cases hc;done)|(try simp only at hc)))))))
       all_goals(refine⟨by simp,⟨_,?_,AV.le_refl _⟩,Q0g (by simp[leH,hget])⟩;simp only[Tryz.results46,resL,ldA,Q0o,go_sem])
       all_goals rfl
      |true=>
       (refine Q0n Tryz.func46 rfl (by rfl) ?_;simp only[Tryz.ntmps46,List.length_cons,List.length_nil,Nat.reduceAdd,Nat.reduceSub,List.replicate,List.cons_append,List.nil_append])
       (have W:=ndI h1 (ndI h2 (ndI h3 (ndI h4 h5)));(repeat(any_goals(first|((with_reducible refine Q0c ?_ ?_);rfl;intro K hK;simp only[go_sem,W];((repeat(refine ndI (by first|assumption) ?_));refine hK _ ?_;clear hK K))|(with_reducible first|(refine Q0d ?_;refine hR _ ?_;clear hR R)|((first|refine Q0e ?_);intro Ψ hΨ hΨ')|(refine Q0a ?_;intro R hR)|(refine hΨ _ ?_;clear hΨ hΨ' Ψ)|refine Q0j ?_|refine Q0h ?_)|((with_reducible apply Q0s);rfl;rfl;rfl;all_goals(intro hb;first|(cases hb;done)|((try simp only[Bool.not_true,Bool.not_false] at hb);(first|((with_reducible intro K hK);simp only[go_sem,W];((repeat(refine ndI (by first|assumption) ?_));refine hK _ ?_;clear hK K))))))|((with_reducible apply Q0f);rfl;rfl;all_goals(intro hc;first|(cases hc;done)|(try simp only at hc)))))))
       all_goals(refine⟨by simp,⟨_,?_,AV.le_refl _⟩,Q0g (by simp[leH,hget])⟩;simp only[Tryz.results46,resL,ldA,Q0o,go_sem])
       all_goals rfl
def X3i(k:Nat):Int:=if k=0 then 9 else if k=1 then 33 else if k=2 then 9 else if k=3 then 1 else if k=4 then 1 else 0
def askK(l:List Nat):Nat:=match l with|[]=>5|b::_=>b
def askB(l:List Nat):Bool:=decide (askK l<6)&&((l.length:Int)==X3i (askK l))
theorem asked_fn(l:List Nat)(hl:l.length≤maxLen)(hb:∀b∈l,b<256):Fn Tryz.prog 73 [bsl false l] [] (.tup [vi .i64 (askK l:Int),vb (askB l)]) []:=by
 cases l with
 |nil=>
  show Fn _ _ _ _ (.tup [vi .i64 5,vb true]) _
  (refine Q0n Tryz.func73 rfl (by rfl) ?_;simp only[Tryz.ntmps73,List.length_cons,List.length_nil,Nat.reduceAdd,Nat.reduceSub,List.replicate,List.cons_append,List.nil_append])
  (repeat(any_goals(first|((with_reducible refine Q0c ?_ ?_);rfl;intro K hK;simp only[go_sem,decide_true];((repeat(refine ndI (by first|assumption) ?_));refine hK _ ?_;clear hK K))|(with_reducible first|(refine Q0d ?_;refine hR _ ?_;clear hR R)|((first|refine Q0e ?_);intro Ψ hΨ hΨ')|(refine Q0a ?_;intro R hR)|(refine hΨ _ ?_;clear hΨ hΨ' Ψ)|refine Q0j ?_|refine Q0h ?_)|((with_reducible apply Q0f);rfl;rfl;all_goals(intro hc;first|(cases hc;done)|(try simp only at hc)))|((with_reducible refine Q0v ?_ ?_);kernel_rfl;(with_reducible refine hR _ ?_);clear hR R)|((first|((first|((with_reducible apply Q0w);rfl;rfl)|((with_reducible apply Q1u);rfl;rfl;rfl;rfl;rfl));(simp only[rdE,rdOf,go_sem,decide_true];rfl);(intro τ hA hQ hN;((try simp only[Q1a,Op.operands,Call.operands,go_sem,decide_true,go_sem,List.mem_cons,List.not_mem_nil,forall_eq_or_imp,forall_eq,List.append_toArray,Option.toArray] at hA);(try simp only[go_sem,decide_true,List.mem_cons,List.not_mem_nil,forall_eq_or_imp,forall_eq] at hQ hN);(first|(revert hA;intro hA));(first|(revert hQ;intro hQ));(first|(revert hN;intro hN));simp only[go_sem,decide_true,go_sem,hA,hQ,hN];(repeat(refine ndI (by first|assumption) ?_));(first|apply Q0z))))|((first|((with_reducible apply Q6r);rfl;rfl;rfl;rfl));apply Q3c;rfl;rfl;rfl;rfl;rfl;(focus(simp only[go_sem];try rfl));(first|omega);(first|(focus(simp[spl];done)))));(simp only[St.eff,setO,Q0t,go_sem,decide_true]))|((with_reducible refine Q0q ?_ ?_ ?_ ?_);kernel_rfl;kernel_rfl;(first|kernel_rfl);intro R hR))))
  all_goals(refine⟨by simp,⟨_,?_,AV.le_refl _⟩,Q0g (by simp[leH,hget])⟩;simp only[Tryz.results73,resL,ldA,Q0o,go_sem])
  all_goals rfl
 |cons b l=>
  have hb0:=hb b (by simp)
  have g1:decide (((b::l).length:Int)>0)=true:=decide_eq_true (by simp)
  have g2:((b::l).flatMap bpv).take 1=[.v (.int .u8 (b:Int))]:=rfl
  have g4:0<(b::l).length:=by simp
  have e1:askK (b::l)=b:=rfl
  obtain⟨q,hq⟩:∃q,((b::l).length:Int)=q:=⟨_,rfl⟩
  have w1:IntKind.i64.wrap (b:Int)=(b:Int):=wrI (by omega) (by omega)
  unfold askB
  rw[hq] at g1
  rw[e1,hq]
  generalize hC:b::l=C at *
  clear hC e1 hb hl
  by_cases h6:b<6
  · rw[decide_eq_true h6,Bool.true_and]
    rcases(by omega:b=0∨b=1∨b=2∨b=3∨b=4∨b=5) with h|h|h|h|h|h
    · subst h
      have e2:X3i 0=9:=rfl
      rw[e2]
      obtain⟨r,hr⟩:∃r,(q==9)=r:=⟨_,rfl⟩
      rw[hr]
      replace g2:(C.flatMap bpv).take 1=[.v (.int .u8 (0:Int))]:=g2
      replace w1:IntKind.i64.wrap (0:Int)=(0:Int):=w1
      show Fn _ _ _ _ (.tup [vi .i64 (0:Int),vb r]) _
      clear h6
      (refine Q0n Tryz.func73 rfl (by rfl) ?_;simp only[Tryz.ntmps73,List.length_cons,List.length_nil,Nat.reduceAdd,Nat.reduceSub,List.replicate,List.cons_append,List.nil_append])
      (have W:=ndI g1 (ndI g2 (ndI w1 hr));(repeat(any_goals(first|((with_reducible refine Q0c ?_ ?_);rfl;intro K hK;simp(disch:=omega) only[go_sem,W,hq,decide_true];((repeat(refine ndI (by first|assumption|omega|rfl) ?_));refine hK _ ?_;clear hK K))|(with_reducible first|(refine Q0d ?_;refine hR _ ?_;clear hR R)|((first|refine Q0e ?_);intro Ψ hΨ hΨ')|(refine Q0a ?_;intro R hR)|(refine hΨ _ ?_;clear hΨ hΨ' Ψ)|refine Q0h ?_)|((with_reducible apply Q0f);rfl;rfl;all_goals(intro hc;first|(cases hc;done)|(try simp only at hc)))|((with_reducible refine Q0v ?_ ?_);kernel_rfl;(with_reducible refine hR _ ?_);clear hR R)|((first|((first|((with_reducible apply Q0w);rfl;rfl)|((with_reducible apply Q1u);rfl;rfl;rfl;rfl;rfl));(simp(disch:=omega) only[rdE,rdOf,go_sem,W,hq,decide_true];rfl);(intro τ hA hQ hN;((try simp only[Q1a,Op.operands,Call.operands,go_sem,W,hq,decide_true,go_sem,List.mem_cons,List.not_mem_nil,forall_eq_or_imp,forall_eq,List.append_toArray,Option.toArray] at hA);(try simp only[go_sem,W,hq,decide_true,List.mem_cons,List.not_mem_nil,forall_eq_or_imp,forall_eq] at hQ hN);(first|(revert hA;intro hA));(first|(revert hQ;intro hQ));(first|(revert hN;intro hN));simp(disch:=omega) only[go_sem,W,hq,decide_true,go_sem,hA,hQ,hN];(repeat(refine ndI (by first|assumption|rfl) ?_));(first|apply Q0z))))|((first|((with_reducible apply Q6r);rfl;rfl;rfl;rfl));apply Q3c;rfl;rfl;rfl;rfl;rfl;(focus(simp only[go_sem];try rfl));(first|omega);(first|(focus(simp[spl];done)))));(simp(disch:=omega) only[St.eff,setO,Q0t,go_sem,W,hq,decide_true]))|((with_reducible refine Q0q ?_ ?_ ?_ ?_);kernel_rfl;kernel_rfl;(first|kernel_rfl);intro R hR)))))
      all_goals(refine⟨by simp,⟨_,?_,AV.le_refl _⟩,Q0g (by simp[leH,hget])⟩;simp only[Tryz.results73,resL,ldA,Q0o,go_sem])
      all_goals rfl
    · subst h
      have e2:X3i 1=33:=rfl
      rw[e2]
      obtain⟨r,hr⟩:∃r,(q==33)=r:=⟨_,rfl⟩
      rw[hr]
      replace g2:(C.flatMap bpv).take 1=[.v (.int .u8 (1:Int))]:=g2
      replace w1:IntKind.i64.wrap (1:Int)=(1:Int):=w1
      show Fn _ _ _ _ (.tup [vi .i64 (1:Int),vb r]) _
      clear h6
      (refine Q0n Tryz.func73 rfl (by rfl) ?_;simp only[Tryz.ntmps73,List.length_cons,List.length_nil,Nat.reduceAdd,Nat.reduceSub,List.replicate,List.cons_append,List.nil_append])
      (have W:=ndI g1 (ndI g2 (ndI w1 hr));(repeat(any_goals(first|((with_reducible refine Q0c ?_ ?_);rfl;intro K hK;simp(disch:=omega) only[go_sem,W,hq,decide_true];((repeat(refine ndI (by first|assumption|omega|rfl) ?_));refine hK _ ?_;clear hK K))|(with_reducible first|(refine Q0d ?_;refine hR _ ?_;clear hR R)|((first|refine Q0e ?_);intro Ψ hΨ hΨ')|(refine Q0a ?_;intro R hR)|(refine hΨ _ ?_;clear hΨ hΨ' Ψ)|refine Q0h ?_)|((with_reducible apply Q0f);rfl;rfl;all_goals(intro hc;first|(cases hc;done)|(try simp only at hc)))|((with_reducible refine Q0v ?_ ?_);kernel_rfl;(with_reducible refine hR _ ?_);clear hR R)|((first|((first|((with_reducible apply Q0w);rfl;rfl)|((with_reducible apply Q1u);rfl;rfl;rfl;rfl;rfl));(simp(disch:=omega) only[rdE,rdOf,go_sem,W,hq,decide_true];rfl);(intro τ hA hQ hN;((try simp only[Q1a,Op.operands,Call.operands,go_sem,W,hq,decide_true,go_sem,List.mem_cons,List.not_mem_nil,forall_eq_or_imp,forall_eq,List.append_toArray,Option.toArray] at hA);(try simp only[go_sem,W,hq,decide_true,List.mem_cons,List.not_mem_nil,forall_eq_or_imp,forall_eq] at hQ hN);(first|(revert hA;intro hA));(first|(revert hQ;intro hQ));(first|(revert hN;intro hN));simp(disch:=omega) only[go_sem,W,hq,decide_true,go_sem,hA,hQ,hN];(repeat(refine ndI (by first|assumption|rfl) ?_));(first|apply Q0z))))|((first|((with_reducible apply Q6r);rfl;rfl;rfl;rfl));apply Q3c;rfl;rfl;rfl;rfl;rfl;(focus(simp only[go_sem];try rfl));(first|omega);(first|(focus(simp[spl];done)))));(simp(disch:=omega) only[St.eff,setO,Q0t,go_sem,W,hq,decide_true]))|((with_reducible refine Q0q ?_ ?_ ?_ ?_);kernel_rfl;kernel_rfl;(first|kernel_rfl);intro R hR)))))
      all_goals(refine⟨by simp,⟨_,?_,AV.le_refl _⟩,Q0g (by simp[leH,hget])⟩;simp only[Tryz.results73,resL,ldA,Q0o,go_sem])
      all_goals rfl
    · subst h
      have e2:X3i 2=9:=rfl
      rw[e2]
      obtain⟨r,hr⟩:∃r,(q==9)=r:=⟨_,rfl⟩
      rw[hr]
      replace g2:(C.flatMap bpv).take 1=[.v (.int .u8 (2:Int))]:=g2
      replace w1:IntKind.i64.wrap (2:Int)=(2:Int):=w1
      show Fn _ _ _ _ (.tup [vi .i64 (2:Int),vb r]) _
      clear h6
      (refine Q0n Tryz.func73 rfl (by rfl) ?_;simp only[Tryz.ntmps73,List.length_cons,List.length_nil,Nat.reduceAdd,Nat.reduceSub,List.replicate,List.cons_append,List.nil_append])
      (have W:=ndI g1 (ndI g2 (ndI w1 hr));(repeat(any_goals(first|((with_reducible refine Q0c ?_ ?_);rfl;intro K hK;simp(disch:=omega) only[go_sem,W,hq,decide_true];((repeat(refine ndI (by first|assumption|omega|rfl) ?_));refine hK _ ?_;clear hK K))|(with_reducible first|(refine Q0d ?_;refine hR _ ?_;clear hR R)|((first|refine Q0e ?_);intro Ψ hΨ hΨ')|(refine Q0a ?_;intro R hR)|(refine hΨ _ ?_;clear hΨ hΨ' Ψ)|refine Q0h ?_)|((with_reducible apply Q0f);rfl;rfl;all_goals(intro hc;first|(cases hc;done)|(try simp only at hc)))|((with_reducible refine Q0v ?_ ?_);kernel_rfl;(with_reducible refine hR _ ?_);clear hR R)|((first|((first|((with_reducible apply Q0w);rfl;rfl)|((with_reducible apply Q1u);rfl;rfl;rfl;rfl;rfl));(simp(disch:=omega) only[rdE,rdOf,go_sem,W,hq,decide_true];rfl);(intro τ hA hQ hN;((try simp only[Q1a,Op.operands,Call.operands,go_sem,W,hq,decide_true,go_sem,List.mem_cons,List.not_mem_nil,forall_eq_or_imp,forall_eq,List.append_toArray,Option.toArray] at hA);(try simp only[go_sem,W,hq,decide_true,List.mem_cons,List.not_mem_nil,forall_eq_or_imp,forall_eq] at hQ hN);(first|(revert hA;intro hA));(first|(revert hQ;intro hQ));(first|(revert hN;intro hN));simp(disch:=omega) only[go_sem,W,hq,decide_true,go_sem,hA,hQ,hN];(repeat(refine ndI (by first|assumption|rfl) ?_));(first|apply Q0z))))|((first|((with_reducible apply Q6r);rfl;rfl;rfl;rfl));apply Q3c;rfl;rfl;rfl;rfl;rfl;(focus(simp only[go_sem];try rfl));(first|omega);(first|(focus(simp[spl];done)))));(simp(disch:=omega) only[St.eff,setO,Q0t,go_sem,W,hq,decide_true]))|((with_reducible refine Q0q ?_ ?_ ?_ ?_);kernel_rfl;kernel_rfl;(first|kernel_rfl);intro R hR)))))
      all_goals(refine⟨by simp,⟨_,?_,AV.le_refl _⟩,Q0g (by simp[leH,hget])⟩;simp only[Tryz.results73,resL,ldA,Q0o,go_sem])
      all_goals rfl
    · subst h
      have e2:X3i 3=1:=rfl
      rw[e2]
      obtain⟨r,hr⟩:∃r,(q==1)=r:=⟨_,rfl⟩
      rw[hr]
      replace g2:(C.flatMap bpv).take 1=[.v (.int .u8 (3:Int))]:=g2
      replace w1:IntKind.i64.wrap (3:Int)=(3:Int):=w1
      show Fn _ _ _ _ (.tup [vi .i64 (3:Int),vb r]) _
      clear h6
      (refine Q0n Tryz.func73 rfl (by rfl) ?_;simp only[Tryz.ntmps73,List.length_cons,List.length_nil,Nat.reduceAdd,Nat.reduceSub,List.replicate,List.cons_append,List.nil_append])
      (have W:=ndI g1 (ndI g2 (ndI w1 hr));(repeat(any_goals(first|((with_reducible refine Q0c ?_ ?_);rfl;intro K hK;simp(disch:=omega) only[go_sem,W,hq,decide_true];((repeat(refine ndI (by first|assumption|omega|rfl) ?_));refine hK _ ?_;clear hK K))|(with_reducible first|(refine Q0d ?_;refine hR _ ?_;clear hR R)|((first|refine Q0e ?_);intro Ψ hΨ hΨ')|(refine Q0a ?_;intro R hR)|(refine hΨ _ ?_;clear hΨ hΨ' Ψ)|refine Q0h ?_)|((with_reducible apply Q0f);rfl;rfl;all_goals(intro hc;first|(cases hc;done)|(try simp only at hc)))|((with_reducible refine Q0v ?_ ?_);kernel_rfl;(with_reducible refine hR _ ?_);clear hR R)|((first|((first|((with_reducible apply Q0w);rfl;rfl)|((with_reducible apply Q1u);rfl;rfl;rfl;rfl;rfl));(simp(disch:=omega) only[rdE,rdOf,go_sem,W,hq,decide_true];rfl);(intro τ hA hQ hN;((try simp only[Q1a,Op.operands,Call.operands,go_sem,W,hq,decide_true,go_sem,List.mem_cons,List.not_mem_nil,forall_eq_or_imp,forall_eq,List.append_toArray,Option.toArray] at hA);(try simp only[go_sem,W,hq,decide_true,List.mem_cons,List.not_mem_nil,forall_eq_or_imp,forall_eq] at hQ hN);(first|(revert hA;intro hA));(first|(revert hQ;intro hQ));(first|(revert hN;intro hN));simp(disch:=omega) only[go_sem,W,hq,decide_true,go_sem,hA,hQ,hN];(repeat(refine ndI (by first|assumption|rfl) ?_));(first|apply Q0z))))|((first|((with_reducible apply Q6r);rfl;rfl;rfl;rfl));apply Q3c;rfl;rfl;rfl;rfl;rfl;(focus(simp only[go_sem];try rfl));(first|omega);(first|(focus(simp[spl];done)))));(simp(disch:=omega) only[St.eff,setO,Q0t,go_sem,W,hq,decide_true]))|((with_reducible refine Q0q ?_ ?_ ?_ ?_);kernel_rfl;kernel_rfl;(first|kernel_rfl);intro R hR)))))
      all_goals(refine⟨by simp,⟨_,?_,AV.le_refl _⟩,Q0g (by simp[leH,hget])⟩;simp only[Tryz.results73,resL,ldA,Q0o,go_sem])
      all_goals rfl
    · subst h
      have e2:X3i 4=1:=rfl
      rw[e2]
      obtain⟨r,hr⟩:∃r,(q==1)=r:=⟨_,rfl⟩
      rw[hr]
      replace g2:(C.flatMap bpv).take 1=[.v (.int .u8 (4:Int))]:=g2
      replace w1:IntKind.i64.wrap (4:Int)=(4:Int):=w1
      show Fn _ _ _ _ (.tup [vi .i64 (4:Int),vb r]) _
      clear h6
      (refine Q0n Tryz.func73 rfl (by rfl) ?_;simp only[Tryz.ntmps73,List.length_cons,List.length_nil,Nat.reduceAdd,Nat.reduceSub,List.replicate,List.cons_append,List.nil_append])
      (have W:=ndI g1 (ndI g2 (ndI w1 hr));(repeat(any_goals(first|((with_reducible refine Q0c ?_ ?_);rfl;intro K hK;simp(disch:=omega) only[go_sem,W,hq,decide_true];((repeat(refine ndI (by first|assumption|omega|rfl) ?_));refine hK _ ?_;clear hK K))|(with_reducible first|(refine Q0d ?_;refine hR _ ?_;clear hR R)|((first|refine Q0e ?_);intro Ψ hΨ hΨ')|(refine Q0a ?_;intro R hR)|(refine hΨ _ ?_;clear hΨ hΨ' Ψ)|refine Q0h ?_)|((with_reducible apply Q0f);rfl;rfl;all_goals(intro hc;first|(cases hc;done)|(try simp only at hc)))|((with_reducible refine Q0v ?_ ?_);kernel_rfl;(with_reducible refine hR _ ?_);clear hR R)|((first|((first|((with_reducible apply Q0w);rfl;rfl)|((with_reducible apply Q1u);rfl;rfl;rfl;rfl;rfl));(simp(disch:=omega) only[rdE,rdOf,go_sem,W,hq,decide_true];rfl);(intro τ hA hQ hN;((try simp only[Q1a,Op.operands,Call.operands,go_sem,W,hq,decide_true,go_sem,List.mem_cons,List.not_mem_nil,forall_eq_or_imp,forall_eq,List.append_toArray,Option.toArray] at hA);(try simp only[go_sem,W,hq,decide_true,List.mem_cons,List.not_mem_nil,forall_eq_or_imp,forall_eq] at hQ hN);(first|(revert hA;intro hA));(first|(revert hQ;intro hQ));(first|(revert hN;intro hN));simp(disch:=omega) only[go_sem,W,hq,decide_true,go_sem,hA,hQ,hN];(repeat(refine ndI (by first|assumption|rfl) ?_));(first|apply Q0z))))|((first|((with_reducible apply Q6r);rfl;rfl;rfl;rfl));apply Q3c;rfl;rfl;rfl;rfl;rfl;(focus(simp only[go_sem];try rfl));(first|omega);(first|(focus(simp[spl];done)))));(simp(disch:=omega) only[St.eff,setO,Q0t,go_sem,W,hq,decide_true]))|((with_reducible refine Q0q ?_ ?_ ?_ ?_);kernel_rfl;kernel_rfl;(first|kernel_rfl);intro R hR)))))
      all_goals(refine⟨by simp,⟨_,?_,AV.le_refl _⟩,Q0g (by simp[leH,hget])⟩;simp only[Tryz.results73,resL,ldA,Q0o,go_sem])
      all_goals rfl
    · subst h
      have e2:X3i 5=0:=rfl
      rw[e2]
      obtain⟨r,hr⟩:∃r,(q==0)=r:=⟨_,rfl⟩
      rw[hr]
      replace g2:(C.flatMap bpv).take 1=[.v (.int .u8 (5:Int))]:=g2
      replace w1:IntKind.i64.wrap (5:Int)=(5:Int):=w1
      show Fn _ _ _ _ (.tup [vi .i64 (5:Int),vb r]) _
      clear h6
      (refine Q0n Tryz.func73 rfl (by rfl) ?_;simp only[Tryz.ntmps73,List.length_cons,List.length_nil,Nat.reduceAdd,Nat.reduceSub,List.replicate,List.cons_append,List.nil_append])
      (have W:=ndI g1 (ndI g2 (ndI w1 hr));(repeat(any_goals(first|((with_reducible refine Q0c ?_ ?_);rfl;intro K hK;simp(disch:=omega) only[go_sem,W,hq,decide_true];((repeat(refine ndI (by first|assumption|omega|rfl) ?_));refine hK _ ?_;clear hK K))|(with_reducible first|(refine Q0d ?_;refine hR _ ?_;clear hR R)|((first|refine Q0e ?_);intro Ψ hΨ hΨ')|(refine Q0a ?_;intro R hR)|(refine hΨ _ ?_;clear hΨ hΨ' Ψ)|refine Q0h ?_)|((with_reducible apply Q0f);rfl;rfl;all_goals(intro hc;first|(cases hc;done)|(try simp only at hc)))|((with_reducible refine Q0v ?_ ?_);kernel_rfl;(with_reducible refine hR _ ?_);clear hR R)|((first|((first|((with_reducible apply Q0w);rfl;rfl)|((with_reducible apply Q1u);rfl;rfl;rfl;rfl;rfl));(simp(disch:=omega) only[rdE,rdOf,go_sem,W,hq,decide_true];rfl);(intro τ hA hQ hN;((try simp only[Q1a,Op.operands,Call.operands,go_sem,W,hq,decide_true,go_sem,List.mem_cons,List.not_mem_nil,forall_eq_or_imp,forall_eq,List.append_toArray,Option.toArray] at hA);(try simp only[go_sem,W,hq,decide_true,List.mem_cons,List.not_mem_nil,forall_eq_or_imp,forall_eq] at hQ hN);(first|(revert hA;intro hA));(first|(revert hQ;intro hQ));(first|(revert hN;intro hN));simp(disch:=omega) only[go_sem,W,hq,decide_true,go_sem,hA,hQ,hN];(repeat(refine ndI (by first|assumption|rfl) ?_));(first|apply Q0z))))|((first|((with_reducible apply Q6r);rfl;rfl;rfl;rfl));apply Q3c;rfl;rfl;rfl;rfl;rfl;(focus(simp only[go_sem];try rfl));(first|omega);(first|(focus(simp[spl];done)))));(simp(disch:=omega) only[St.eff,setO,Q0t,go_sem,W,hq,decide_true]))|((with_reducible refine Q0q ?_ ?_ ?_ ?_);kernel_rfl;kernel_rfl;(first|kernel_rfl);intro R hR)))))
      all_goals(refine⟨by simp,⟨_,?_,AV.le_refl _⟩,Q0g (by simp[leH,hget])⟩;simp only[Tryz.results73,resL,ldA,Q0o,go_sem])
      all_goals rfl
  · rw[decide_eq_false h6,Bool.false_and]
    have d1:decide ((b:Int)<6)=false:=decide_eq_false (by omega)
    (refine Q0n Tryz.func73 rfl (by rfl) ?_;simp only[Tryz.ntmps73,List.length_cons,List.length_nil,Nat.reduceAdd,Nat.reduceSub,List.replicate,List.cons_append,List.nil_append])
    (have W:=ndI g1 (ndI g2 (ndI w1 d1));(repeat(any_goals(first|((with_reducible refine Q0c ?_ ?_);rfl;intro K hK;simp(disch:=omega) only[go_sem,W,hq];((repeat(refine ndI (by first|assumption|omega|rfl) ?_));refine hK _ ?_;clear hK K))|(with_reducible first|(refine Q0d ?_;refine hR _ ?_;clear hR R)|((first|refine Q0e ?_);intro Ψ hΨ hΨ')|(refine Q0a ?_;intro R hR)|(refine hΨ _ ?_;clear hΨ hΨ' Ψ)|refine Q0h ?_)|((with_reducible apply Q0f);rfl;rfl;all_goals(intro hc;first|(cases hc;done)|(try simp only at hc)))|((with_reducible refine Q0v ?_ ?_);kernel_rfl;(with_reducible refine hR _ ?_);clear hR R)|((first|((with_reducible apply Q2y);rfl;rfl;rfl;rfl)|((first|((with_reducible apply Q0w);rfl;rfl));(simp(disch:=omega) only[rdE,rdOf,go_sem,W,hq];rfl);(intro τ hA hQ hN;((try simp only[Q1a,Op.operands,Call.operands,go_sem,W,hq,go_sem,List.mem_cons,List.not_mem_nil,forall_eq_or_imp,forall_eq,List.append_toArray,Option.toArray] at hA);(try simp only[go_sem,W,hq,List.mem_cons,List.not_mem_nil,forall_eq_or_imp,forall_eq] at hQ hN);(first|(revert hA;intro hA));(first|(revert hQ;intro hQ));(first|(revert hN;intro hN));simp(disch:=omega) only[go_sem,W,hq,go_sem,hA,hQ,hN];(repeat(refine ndI (by first|assumption|rfl) ?_));(first|apply Q0z)))));(simp(disch:=omega) only[St.eff,setO,Q0t,go_sem,W,hq]))|((with_reducible refine Q0q ?_ ?_ ?_ ?_);kernel_rfl;kernel_rfl;(first|kernel_rfl);intro R hR)))))
    all_goals(refine⟨by simp,⟨_,?_,AV.le_refl _⟩,Q0g (by simp[leH,hget])⟩;simp only[Tryz.results73,resL,ldA,Q0o,go_sem])
end
section
open Go.RowKit
open Nat (reduceBEq)
set_option maxRecDepth 20000
set_option maxHeartbeats 2000000
def ixB{α : Type}(p:α→Bool)(l:List α):Int:=match l.findIdx? p with|some i=>(i:Int)|none=>-1
theorem ixB_at{α : Type}{p:α→Bool}{l:List α}{i:Nat}{y:α}(hno:∀j,j<i→∀n,l[j]? = some n→p n=false)(hy:l[i]? = some y)(hp:p y=true):ixB p l=(i:Int):=by
 have h:l.findIdx? p=some i:=by
  rw[List.findIdx?_eq_some_iff_getElem]
  obtain⟨hi,e⟩:=List.getElem?_eq_some_iff.1 hy
  refine⟨hi,by rw[e];exact hp,fun j hj=>?_⟩
  rw[hno j hj _ (List.getElem?_eq_getElem (by omega))]
  decide
 unfold ixB
 rw[h]
theorem X7t{α : Type}{p:α→Bool}{l:List α}(hno:∀j,j<l.length→∀n,l[j]? = some n→p n=false):ixB p l = -1:=by
 have h:l.findIdx? p=none:=by
  rw[List.findIdx?_eq_none_iff]
  intro x hx
  obtain⟨j,hj⟩:=List.getElem?_of_mem hx
  exact hno j (List.getElem?_eq_some_iff.1 hj).1 x hj
 unfold ixB
 rw[h]
theorem ixB_any{α : Type}(p:α→Bool)(l:List α):decide (ixB p l≥0)=l.any p:=by
 unfold ixB
 cases h:l.findIdx? p with
 |none=>
  rw[List.findIdx?_eq_none_iff] at h
  have:l.any p=false:=by
   rw[List.any_eq_false]
   intro x hx
   rw[h x hx];decide
  rw[this];rfl
 |some i=>
  rw[List.findIdx?_eq_some_iff_getElem] at h
  obtain⟨hi,hp,_⟩:=h
  have:l.any p=true:=by
   rw[List.any_eq_true]
   exact⟨_,List.getElem_mem hi,hp⟩
  rw[this]
  simp
theorem mayl_fn(w:Wl)(hw:w.ok):Fn Tryz.prog 63 [wlA w] [] (vb (!Q1b w)) []:=by
 have f:=X1k w hw
 cases e:Q1b w<;>simp only[e,if_true,if_false,Bool.false_eq_true] at f ⊢
 all_goals(refine Q0n Tryz.func63 rfl (by rfl) ?_;simp only[Tryz.ntmps63,List.length_cons,List.length_nil,Nat.reduceAdd,Nat.reduceSub,List.replicate,List.cons_append,List.nil_append])
 all_goals(repeat(any_goals(first|((with_reducible refine Q0i ?_ ?_ ?_);rfl;rfl;intro K hK;((apply Q0b (f);rfl;rfl;rfl;rfl;exact Tryz.func6);kernel_rfl;rfl;(focus((simp only[go_sem]);(try rfl);done));(first|rfl));(simp only[go_sem];refine hK _ ?_;clear hK K))|((with_reducible refine Q0c ?_ ?_);rfl;intro K hK;simp only[go_sem];((repeat(refine ndI (by first|assumption) ?_));refine hK _ ?_;clear hK K))|(with_reducible first|(refine Q0d ?_;refine hR _ ?_;clear hR R)|((first|refine Q0e ?_);intro Ψ hΨ hΨ')|(refine Q0a ?_;intro R hR)|(refine hΨ _ ?_;clear hΨ hΨ' Ψ)|refine Q0h ?_))))
 all_goals(refine⟨by simp,⟨_,?_,AV.le_refl _⟩,Q0g (by simp[leH,hget])⟩;simp only[Tryz.results63,resL,ldA,Q0o,go_sem])
 all_goals rfl
theorem wl_len(w:Wl):w.pv.length=3:=rfl
abbrev wls(ex:Bool)(l:List Wl):AV:=.c (.sl ex 3 l.length (l.flatMap Wl.pv))
theorem wls_at{l:List Wl}{i:Nat}{w:Wl}(h:l[i]? = some w):((l.flatMap Wl.pv).drop (i*3)).take 3=[acV w.S,hdV w.L,noV w.N]:=Q5t wl_len h
theorem indexW_fn(ex:Bool)(l:List Wl)(hl:l.length≤1000)(ok:∀w∈l,w.ok):Fn Tryz.prog 89 [wls ex l,.fn 63 []] [] (vi .i64 (ixB (fun w=>!Q1b w) l)) []:=by
 obtain⟨tr,htr⟩:∃r:Int,ixB (fun w=>!Q1b w) l=r:=⟨_,rfl⟩
 rw[htr]
 (refine Q0n Tryz.func89 rfl (by rfl) ?_;simp only[Tryz.ntmps89,List.length_cons,List.length_nil,Nat.reduceAdd,Nat.reduceSub,List.replicate,List.cons_append,List.nil_append])
 (repeat(any_goals(first|((with_reducible refine Q0c ?_ ?_);rfl;intro K hK;simp only[go_sem];((repeat(refine ndI (by first|assumption) ?_));refine hK _ ?_;clear hK K))|(with_reducible first|(refine Q0d ?_;refine hR _ ?_;clear hR R)|((first|refine Q0e ?_|refine Q0l ?_);intro Ψ hΨ hΨ')|(refine Q0a ?_;intro R hR)|(refine hΨ _ ?_;clear hΨ hΨ' Ψ)))))
 refine Q5v (α:={i:Nat // i≤l.length∧∀j,j<i→∀n,l[j]? = some n→(!Q1b n)=false}) (fun p=>⟨[wls ex l,.fn 63 [],.any,.any,.any,.any,wls ex l,vi .i64 l.length,vi .i64 p.1,.any,.any,.any,.any,.any,.any,.any,.any,.any,.any],[]⟩) (fun p=>l.length-p.1) ⟨0,Nat.zero_le _,fun j hj=>by omega⟩ (St.le_of (by simp[leT]) (by simp[leH,hget])) ?_
 rintro ⟨i,hi,hno⟩ Ψ hΨ hΨ'
 dsimp only at hi hΨ ⊢
 rcases Nat.lt_or_ge i l.length with hlt|hge
 · obtain⟨y,hy⟩:∃y,l[i]? = some y:=⟨l[i],List.getElem?_eq_getElem hlt⟩
   have k1:(decide ((i:Int)<(l.length:Int)))=true:=by simpa using hlt
   have k2:=wls_at hy
   have k7:(i:Int)+1=((i+1:Nat):Int):=by omega
   have pl:=mayl_fn y (ok y (List.mem_of_getElem? hy))
   cases hm:(!Q1b y)
   · rw[hm] at pl
     (have W:=ndI k1 (ndI k2 (ndI k7 @wrI));(repeat(any_goals(first|((with_reducible refine Q0i ?_ ?_ ?_);rfl;rfl;intro K hK;((apply Q0b (pl);rfl;rfl;rfl;rfl;exact Tryz.func63);kernel_rfl;rfl;(focus((simp(disch:=omega) only[go_sem,W]);(try rfl);done));(first|rfl));(simp(disch:=omega) only[go_sem,W];refine hK _ ?_;clear hK K))|((with_reducible refine Q0c ?_ ?_);rfl;intro K hK;simp(disch:=omega) only[go_sem,W];((repeat(refine ndI (by first|assumption|omega|rfl) ?_));refine hK _ ?_;clear hK K))|(with_reducible first|(refine Q0d ?_;refine hR _ ?_;clear hR R)|((first|refine Q0e ?_|refine Q0l ?_);intro Ψ hΨ hΨ')|(refine Q0a ?_;intro R hR)|(refine hΨ _ ?_;clear hΨ hΨ' Ψ)|refine Q0j ?_)|((with_reducible refine hΨ' _ _ ?_ ?_);(focus(simp;done));clear hΨ hΨ' Ψ)|((with_reducible apply Q0f);rfl;rfl;all_goals(intro hc;first|(cases hc;done)|(try simp only at hc)))))))
     refine hΨ _ ⟨i+1,hlt,fun j hj n hn=>?_⟩ (by simp only;omega) (St.le_of (by simp[leT]) (by simp[leH,hget]))
     rcases Nat.lt_or_ge j i with h'|h'
     · exact hno j h' n hn
     · obtain rfl:j=i:=by omega
       rw[hy] at hn;cases hn;exact hm
   · rw[hm] at pl
     have hp:=ixB_at (p:=fun w=>!Q1b w) hno hy hm
     rw[hp] at htr
     (have W:=ndI k1 (ndI k2 (ndI k7 @wrI));(repeat(any_goals(first|((with_reducible refine Q0i ?_ ?_ ?_);rfl;rfl;intro K hK;((apply Q0b (pl);rfl;rfl;rfl;rfl;exact Tryz.func63);kernel_rfl;rfl;(focus((simp(disch:=omega) only[go_sem,W]);(try rfl);done));(first|rfl));(simp(disch:=omega) only[go_sem,W];refine hK _ ?_;clear hK K))|((with_reducible refine Q0c ?_ ?_);rfl;intro K hK;simp(disch:=omega) only[go_sem,W];((repeat(refine ndI (by first|assumption|omega|rfl) ?_));refine hK _ ?_;clear hK K))|(with_reducible first|(refine Q0d ?_;refine hR _ ?_;clear hR R)|((first|refine Q0e ?_|refine Q0l ?_);intro Ψ hΨ hΨ')|(refine Q0a ?_;intro R hR)|(refine hΨ _ ?_;clear hΨ hΨ' Ψ)|refine Q0j ?_|refine Q0h ?_)|((with_reducible refine hΨ' _ _ ?_ ?_);(focus(simp;done));clear hΨ hΨ' Ψ)|((with_reducible apply Q0f);rfl;rfl;all_goals(intro hc;first|(cases hc;done)|(try simp only at hc)))))))
     all_goals(refine⟨by simp,⟨_,?_,AV.le_refl _⟩,Q0g (by simp[leH,hget])⟩;simp only[Tryz.results89,resL,ldA,Q0o,go_sem])
     all_goals rw[htr]
 · have k1:(decide ((i:Int)<(l.length:Int)))=false:=by simpa using hge
   have hp:=X7t (p:=fun w=>!Q1b w) (l:=l) fun j hj=>hno j (by omega)
   rw[hp] at htr
   (repeat(any_goals(first|((with_reducible refine Q0c ?_ ?_);rfl;intro K hK;simp only[go_sem,k1];((repeat(refine ndI (by first|assumption) ?_));refine hK _ ?_;clear hK K))|(with_reducible first|(refine Q0d ?_;refine hR _ ?_;clear hR R)|((first|refine Q0e ?_);intro Ψ hΨ hΨ')|(refine Q0a ?_;intro R hR)|(refine hΨ _ ?_;clear hΨ hΨ' Ψ)|refine Q0h ?_|refine Q1f ?_)|((with_reducible refine hΨ' _ _ ?_ ?_);(focus(simp;done));clear hΨ hΨ' Ψ)|((with_reducible apply Q0f);rfl;rfl;all_goals(intro hc;first|(cases hc;done)|(try simp only at hc))))))
   all_goals(refine⟨by simp,⟨_,?_,AV.le_refl _⟩,Q0g (by simp[leH,hget])⟩;simp only[Tryz.results89,resL,ldA,Q0o,go_sem])
   all_goals rw[←htr]
theorem X5q(ex:Bool)(l:List Wl)(hl:l.length≤1000)(ok:∀w∈l,w.ok):Fn Tryz.prog 62 [wls ex l,.fn 63 []] [] (vb (l.any fun w=>!Q1b w)) []:=by
 have f:=indexW_fn ex l hl ok
 have e:=ixB_any (fun w=>!Q1b w) l
 (refine Q0n Tryz.func62 rfl (by rfl) ?_;simp only[Tryz.ntmps62,List.length_cons,List.length_nil,Nat.reduceAdd,Nat.reduceSub,List.replicate,List.cons_append,List.nil_append])
 (repeat(any_goals(first|((with_reducible refine Q0i ?_ ?_ ?_);rfl;rfl;intro K hK;((apply Q0b (f);rfl;rfl;rfl;rfl;exact Tryz.func89);kernel_rfl;rfl;(focus((simp only[go_sem,e]);(try rfl);done));(first|rfl));(simp only[go_sem,e];refine hK _ ?_;clear hK K))|((with_reducible refine Q0c ?_ ?_);rfl;intro K hK;simp only[go_sem,e];((repeat(refine ndI (by first|assumption) ?_));refine hK _ ?_;clear hK K))|(with_reducible first|(refine Q0d ?_;refine hR _ ?_;clear hR R)|((first|refine Q0e ?_);intro Ψ hΨ hΨ')|(refine Q0a ?_;intro R hR)|(refine hΨ _ ?_;clear hΨ hΨ' Ψ)|refine Q0h ?_))))
 all_goals(refine⟨by simp,⟨_,?_,AV.le_refl _⟩,Q0g (by simp[leH,hget])⟩;simp only[Tryz.results62,resL,ldA,Q0o,go_sem])
theorem may_fn(ex:Bool)(l:List Wl)(hl:l.length≤1000)(ok:∀w∈l,w.ok):Fn Tryz.prog 24 [wls ex l] [] (vb (l.all Q1b)) []:=by
 have f:=X5q ex l hl ok
 have e:(!l.any fun w=>!Q1b w)=l.all Q1b:=by rw[List.not_any_eq_all_not];simp
 rw[←e]
 (refine Q0n Tryz.func24 rfl (by rfl) ?_;simp only[Tryz.ntmps24,List.length_cons,List.length_nil,Nat.reduceAdd,Nat.reduceSub,List.replicate,List.cons_append,List.nil_append])
 (repeat(any_goals(first|((with_reducible refine Q0i ?_ ?_ ?_);rfl;rfl;intro K hK;((apply Q0b (f);rfl;rfl;rfl;rfl;exact Tryz.func62);kernel_rfl;rfl;(focus((simp only[go_sem]);(try rfl);done));(first|rfl));(simp only[go_sem];refine hK _ ?_;clear hK K))|((with_reducible refine Q0c ?_ ?_);rfl;intro K hK;simp only[go_sem];((repeat(refine ndI (by first|assumption) ?_));refine hK _ ?_;clear hK K))|(with_reducible first|(refine Q0d ?_;refine hR _ ?_;clear hR R)|((first|refine Q0e ?_);intro Ψ hΨ hΨ')|(refine Q0a ?_;intro R hR)|(refine hΨ _ ?_;clear hΨ hΨ' Ψ)|refine Q0h ?_))))
 all_goals(refine⟨by simp,⟨_,?_,AV.le_refl _⟩,Q0g (by simp[leH,hget])⟩;simp only[Tryz.results24,resL,ldA,Q0o,go_sem])
theorem X0w(ex:Bool)(w:Wl)(hw:w.ok):Fn Tryz.prog 24 [.c (.sl ex 3 1 [acV w.S,hdV w.L,noV w.N])] [] (vb (Q1b w)) []:=by
 have f:=may_fn ex [w] (by simp) (by simpa using hw)
 have e:[w].all Q1b=Q1b w:=by simp
 rw[e] at f
 exact f
theorem may2_fn(ex:Bool)(w v:Wl)(hw:w.ok)(hv:v.ok):Fn Tryz.prog 24 [.c (.sl ex 3 2 [acV w.S,hdV w.L,noV w.N,acV v.S,hdV v.L,noV v.N])] [] (vb (Q1b w&&Q1b v)) []:=by
 have f:=may_fn ex [w,v] (by simp) (by simp[hw,hv])
 have e:[w,v].all Q1b=(Q1b w&&Q1b v):=by simp
 rw[e] at f
 exact f
end
namespace lg
open Go.RowKit
open Nat (reduceBEq)
set_option maxRecDepth 20000
set_option maxHeartbeats 2000000
theorem X1h{d delay:Int}(h:dly d delay=false):(delay==0)=false∧decide (delay>1073741824)=false∧decide (delay<d)=false:=by
 unfold dly at h
 simp only[Bool.or_eq_false_iff] at h
 exact h
theorem X9e(ex:Bool)(l:List Hd)(a:Int)(p s:Nat)(d f:Int)(n:Nat)(delay:Int)(hs:s<WW)(hn:n<WW)(h:dly d delay=false)(h0:(decide (s=0)&&decide (n=0))=true):Fn Tryz.prog 98 [.ptr 1005 0,.ptr 1101 0,.ptr 1102 0] [(1005,tl a p s d f (hsl ex l)),(1101,[vi .u64 delay]),(1102,cW n)] (vi .i64 172) [(1005,tl a p s d f (hsl ex l)),(1101,[vi .u64 delay]),(1102,cW n)]:=by
 obtain⟨e1,e2,e3⟩:=X1h h
 have n1:=Q4f s hs
 have n2:=Q4f n hn
 rw[Bool.and_eq_true] at h0
 rw[h0.1] at n1
 rw[h0.2] at n2
 (refine Q0n Tryz.func98 rfl (by rfl) ?_;simp only[Tryz.ntmps98,List.length_cons,List.length_nil,Nat.reduceAdd,Nat.reduceSub,List.replicate,List.cons_append,List.nil_append])
 (have W:=ndI e1 (ndI e2 e3);(repeat(any_goals(first|((with_reducible refine Q0i ?_ ?_ ?_);rfl;rfl;intro K hK;(first|((apply Q0b (n1);rfl;rfl;rfl;rfl;exact Tryz.func86);kernel_rfl;rfl;(focus((simp only[go_sem,W]);(try rfl);done));(first|rfl)));(simp only[go_sem,W];refine hK _ ?_;clear hK K))|((with_reducible refine Q0c ?_ ?_);rfl;intro K hK;simp only[go_sem,W];((repeat(refine ndI (by first|assumption) ?_));refine hK _ ?_;clear hK K))|(with_reducible first|(refine Q0d ?_;refine hR _ ?_;clear hR R)|((first|refine Q0e ?_|refine Q0l ?_);intro Ψ hΨ hΨ')|(refine Q0a ?_;intro R hR)|(refine hΨ _ ?_;clear hΨ hΨ' Ψ)|refine Q0h ?_)|((with_reducible refine hΨ' _ _ ?_ ?_);(focus(simp;done));clear hΨ hΨ' Ψ)|((with_reducible apply Q0s);rfl;rfl;rfl;all_goals(intro hb;first|(cases hb;done)|((try simp only[Bool.not_true,Bool.not_false] at hb);(first|((with_reducible intro K hK);(first|((apply Q0b (n2);rfl;rfl;rfl;rfl;exact Tryz.func86);kernel_rfl;rfl;(focus((simp only[go_sem,W]);(try rfl);done));(first|rfl))|skip);simp only[go_sem,W];((repeat(refine ndI (by first|assumption) ?_));refine hK _ ?_;clear hK K))))))|((with_reducible apply Q0f);rfl;rfl;all_goals(intro hc;first|(cases hc;done)|(try simp only at hc)))|((with_reducible refine Q0v ?_ ?_);kernel_rfl;(with_reducible refine hR _ ?_);clear hR R)|((first|((first|((with_reducible apply Q0w);rfl;rfl)|((with_reducible apply Q1u);rfl;rfl;rfl;rfl;rfl));(simp only[rdE,rdOf,go_sem,W];rfl);(intro τ hA hQ hN;((try simp only[Q1a,Op.operands,Call.operands,go_sem,W,go_sem,List.mem_cons,List.not_mem_nil,forall_eq_or_imp,forall_eq,List.append_toArray,Option.toArray] at hA);(try simp only[go_sem,W,List.mem_cons,List.not_mem_nil,forall_eq_or_imp,forall_eq] at hQ hN);(first|(revert hA;intro hA));(first|(revert hQ;intro hQ));(first|(revert hN;intro hN));simp only[go_sem,W,go_sem,hA,hQ,hN];(repeat(refine ndI (by first|assumption) ?_));(first|apply Q0z)))));(simp only[St.eff,setO,Q0t,go_sem,W]))|((with_reducible refine Q0q ?_ ?_ ?_ ?_);kernel_rfl;kernel_rfl;(first|kernel_rfl);intro R hR)))))
 all_goals(refine⟨by simp,⟨_,?_,AV.le_refl _⟩,Q0g (by simp[leH,hget])⟩;simp only[Tryz.results98,resL,ldA,Q0o,go_sem])
theorem X7z(ex:Bool)(l:List Hd)(hl:l.length≤400)(ok:∀h∈l,h.ok)(a:Int)(p s:Nat)(d f:Int)(n:Nat)(delay:Int)(hs:s<WW)(hn:n<WW)(h:dly d delay=false)(h0:(decide (s=0)&&decide (n=0))=false):Fn Tryz.prog 98 [.ptr 1005 0,.ptr 1101 0,.ptr 1102 0] [(1005,tl a p s d f (hsl ex l)),(1101,[vi .u64 delay]),(1102,cW n)] (vi .i64 (fitsE l a n)) [(1005,tl a p ((s+n)%WW) delay 0 (hsl ex l)),(1101,[vi .u64 delay]),(1102,cW n)]:=by
 obtain⟨e1,e2,e3⟩:=X1h h
 have n1:=Q4f s hs
 have n2:=Q4f n hn
 have ad:=X2m s n hs hn
 have ft:=fits_fn ex l hl ok a p ((s+n)%WW) delay 0 n hn
 generalize decide (WW≤s+n)=q at ad
 generalize (s+n)%WW=s' at ad ft
 generalize fitsE l a n=e at ft
 generalize decide (s=0)=q1 at n1 h0
 generalize decide (n=0)=q2 at n2 h0
 cases q1<;>cases q2<;>first|(cases h0;done)|skip
 all_goals(refine Q0n Tryz.func98 rfl (by rfl) ?_;simp only[Tryz.ntmps98,List.length_cons,List.length_nil,Nat.reduceAdd,Nat.reduceSub,List.replicate,List.cons_append,List.nil_append])
 all_goals(have W:=ndI e1 (ndI e2 e3);(repeat(any_goals(first|((with_reducible refine Q0i ?_ ?_ ?_);rfl;rfl;intro K hK;(first|((apply Q0b (n1);rfl;rfl;rfl;rfl;exact Tryz.func86);kernel_rfl;rfl;(focus((simp only[go_sem,W]);(try rfl);done));(first|rfl))|(apply Q0y (ft) (fun r=>r);rfl;rfl;rfl;rfl;exact Tryz.func96;kernel_rfl;rfl;rfl;(intro r hr q hq h;simp only[List.map_cons,List.map_nil,List.cons_append,List.nil_append,List.mem_cons,List.not_mem_nil,or_false] at hr hq;(try dsimp only at h);first|omega);(simp only[Q1e,Q1y,AV.ren,AV.renL,Q0p,List.mem_cons,List.not_mem_nil,forall_eq_or_imp,forall_eq,Q1v,List.contains_cons,List.contains_nil,AV.refsL,AV.refs,Q0m,AV.inN,AV.inNL,inH,Q0x,go_sem,W])));(simp only[Q0t,Q1w,renH,AV.ren,AV.renL,Q0p,go_sem,W];refine hK _ ?_;clear hK K))|((with_reducible refine Q0c ?_ ?_);rfl;intro K hK;simp only[go_sem,W];((repeat(refine ndI (by first|assumption) ?_));refine hK _ ?_;clear hK K))|(with_reducible first|(refine Q0d ?_;refine hR _ ?_;clear hR R)|((first|refine Q0e ?_|refine Q0l ?_);intro Ψ hΨ hΨ')|(refine Q0a ?_;intro R hR)|(refine hΨ _ ?_;clear hΨ hΨ' Ψ)|refine Q0j ?_|refine Q0h ?_)|((with_reducible refine hΨ' _ _ ?_ ?_);(focus(simp;done));clear hΨ hΨ' Ψ)|((with_reducible apply Q0s);rfl;rfl;rfl;all_goals(intro hb;first|(cases hb;done)|((try simp only[Bool.not_true,Bool.not_false] at hb);(first|((with_reducible intro K hK);(first|((apply Q0b (n2);rfl;rfl;rfl;rfl;exact Tryz.func86);kernel_rfl;rfl;(focus((simp only[go_sem,W]);(try rfl);done));(first|rfl))|skip);simp only[go_sem,W];((repeat(refine ndI (by first|assumption) ?_));refine hK _ ?_;clear hK K))|((fail_if_success (with_reducible intro _));simp only[go_sem,W])))))|((with_reducible apply Q0f);rfl;rfl;all_goals(intro hc;first|(cases hc;done)|(try simp only at hc)))|((with_reducible refine Q0v ?_ ?_);kernel_rfl;(with_reducible refine hR _ ?_);clear hR R)|((first|((first|((with_reducible apply Q1c);rfl;rfl));((apply Q0r (ad);rfl;rfl;rfl;rfl;exact Tryz.func45);kernel_rfl;rfl;(focus((simp only[go_sem,W]);(try rfl);done));(first|rfl)))|((first|((with_reducible apply Q0w);rfl;rfl)|((with_reducible apply Q1u);rfl;rfl;rfl;rfl;rfl));(simp only[rdE,rdOf,go_sem,W];rfl);(intro τ hA hQ hN;((try simp only[Q1a,Op.operands,Call.operands,go_sem,W,go_sem,List.mem_cons,List.not_mem_nil,forall_eq_or_imp,forall_eq,List.append_toArray,Option.toArray] at hA);(try simp only[go_sem,W,List.mem_cons,List.not_mem_nil,forall_eq_or_imp,forall_eq] at hQ hN);(first|(revert hA;intro hA));(first|(revert hQ;intro hQ));(first|(revert hN;intro hN));simp only[go_sem,W,go_sem,hA,hQ,hN];(repeat(refine ndI (by first|assumption) ?_));(first|apply Q0z|apply Q2g)))));(simp only[St.eff,setO,Q0t,go_sem,W]))|((with_reducible refine Q0q ?_ ?_ ?_ ?_);kernel_rfl;kernel_rfl;(first|kernel_rfl);intro R hR)))))
 all_goals(refine⟨by simp,⟨_,?_,AV.le_refl _⟩,Q0g (by simp[leH,hget])⟩;simp only[Tryz.results98,resL,ldA,Q0o,go_sem])
theorem rel1_late(ex:Bool)(l:List Hd)(a:Int)(p s:Nat)(d f:Int)(now:Int)(h:now>1099511627776):Fn Tryz.prog 101 [.ptr 1005 0,.ptr 1101 0,.ptr 1102 0] [(1005,tl a p s d f (hsl ex l)),(1101,[vi .u64 now]),(1102,cW 0)] (vi .i64 2) [(1005,tl a p s d f (hsl ex l)),(1101,[vi .u64 now]),(1102,cW 0)]:=by
 have e:=decide_eq_true h
 (refine Q0n Tryz.func101 rfl (by rfl) ?_;simp only[Tryz.ntmps101,List.length_cons,List.length_nil,Nat.reduceAdd,Nat.reduceSub,List.replicate,List.cons_append,List.nil_append])
 (repeat(any_goals(first|((with_reducible refine Q0c ?_ ?_);rfl;intro K hK;simp only[go_sem,e];((repeat(refine ndI (by first|assumption) ?_));refine hK _ ?_;clear hK K))|(with_reducible first|(refine Q0d ?_;refine hR _ ?_;clear hR R)|((first|refine Q0e ?_|refine Q0l ?_);intro Ψ hΨ hΨ')|(refine Q0a ?_;intro R hR)|(refine hΨ _ ?_;clear hΨ hΨ' Ψ)|refine Q0h ?_)|((with_reducible refine hΨ' _ _ ?_ ?_);(focus(simp;done));clear hΨ hΨ' Ψ)|((with_reducible apply Q0f);rfl;rfl;all_goals(intro hc;first|(cases hc;done)|(try simp only at hc))))))
 all_goals(refine⟨by simp,⟨_,?_,AV.le_refl _⟩,Q0g (by simp[leH,hget])⟩;simp only[Tryz.results101,resL,ldA,Q0o,go_sem])
theorem rel1_none(ex:Bool)(l:List Hd)(a:Int)(p s:Nat)(d f:Int)(now:Int)(hs:s<WW)(h:¬now>1099511627776)(h0:s=0):Fn Tryz.prog 101 [.ptr 1005 0,.ptr 1101 0,.ptr 1102 0] [(1005,tl a p s d f (hsl ex l)),(1101,[vi .u64 now]),(1102,cW 0)] (vi .i64 172) [(1005,tl a p s d f (hsl ex l)),(1101,[vi .u64 now]),(1102,cW 0)]:=by
 have e:=decide_eq_false h
 have n1:=Q4f s hs
 rw[decide_eq_true h0] at n1
 (refine Q0n Tryz.func101 rfl (by rfl) ?_;simp only[Tryz.ntmps101,List.length_cons,List.length_nil,Nat.reduceAdd,Nat.reduceSub,List.replicate,List.cons_append,List.nil_append])
 (repeat(any_goals(first|((with_reducible refine Q0i ?_ ?_ ?_);rfl;rfl;intro K hK;((apply Q0b (n1);rfl;rfl;rfl;rfl;exact Tryz.func86);kernel_rfl;rfl;(focus((simp only[go_sem,e]);(try rfl);done));(first|rfl));(simp only[go_sem,e];refine hK _ ?_;clear hK K))|((with_reducible refine Q0c ?_ ?_);rfl;intro K hK;simp only[go_sem,e];((repeat(refine ndI (by first|assumption) ?_));refine hK _ ?_;clear hK K))|(with_reducible first|(refine Q0d ?_;refine hR _ ?_;clear hR R)|((first|refine Q0e ?_|refine Q0l ?_);intro Ψ hΨ hΨ')|(refine Q0a ?_;intro R hR)|(refine hΨ _ ?_;clear hΨ hΨ' Ψ)|refine Q0h ?_)|((with_reducible refine hΨ' _ _ ?_ ?_);(focus(simp;done));clear hΨ hΨ' Ψ)|((with_reducible apply Q0f);rfl;rfl;all_goals(intro hc;first|(cases hc;done)|(try simp only at hc))))))
 all_goals(refine⟨by simp,⟨_,?_,AV.le_refl _⟩,Q0g (by simp[leH,hget])⟩;simp only[Tryz.results101,resL,ldA,Q0o,go_sem])
theorem rel1_lock(ex:Bool)(l:List Hd)(a:Int)(p s:Nat)(d f:Int)(now:Int)(hs:s<WW)(h:¬now>1099511627776)(h0:¬s=0)(h1:f=0∨now<f):Fn Tryz.prog 101 [.ptr 1005 0,.ptr 1101 0,.ptr 1102 0] [(1005,tl a p s d f (hsl ex l)),(1101,[vi .u64 now]),(1102,cW 0)] (vi .i64 173) [(1005,tl a p s d f (hsl ex l)),(1101,[vi .u64 now]),(1102,cW 0)]:=by
 have e:=decide_eq_false h
 have n1:=Q4f s hs
 have lk:=Q8c a p s d f hs
 rw[decide_eq_false h0] at n1 lk
 rw[Bool.not_false,Bool.true_and] at lk
 have h2:(f==0)=true∨(f==0)=false∧decide (now<f)=true:=by
  by_cases hf:f=0
  · exact .inl (by simp[hf])
  · exact .inr ⟨by simp[hf],by rw[decide_eq_true_eq];exact h1.resolve_left hf⟩
 rcases h2 with e2|⟨e2,e3⟩
 · rw[e2] at lk
   (refine Q0n Tryz.func101 rfl (by rfl) ?_;simp only[Tryz.ntmps101,List.length_cons,List.length_nil,Nat.reduceAdd,Nat.reduceSub,List.replicate,List.cons_append,List.nil_append])
   (repeat(any_goals(first|((with_reducible refine Q0i ?_ ?_ ?_);rfl;rfl;intro K hK;((apply Q0b (n1);rfl;rfl;rfl;rfl;exact Tryz.func86);kernel_rfl;rfl;(focus((simp only[go_sem,e]);(try rfl);done));(first|rfl));(simp only[go_sem,e];refine hK _ ?_;clear hK K))|((with_reducible refine Q0c ?_ ?_);rfl;intro K hK;simp only[go_sem,e];((repeat(refine ndI (by first|assumption) ?_));refine hK _ ?_;clear hK K))|(with_reducible first|(refine Q0d ?_;refine hR _ ?_;clear hR R)|((first|refine Q0e ?_|refine Q0l ?_);intro Ψ hΨ hΨ')|(refine Q0a ?_;intro R hR)|(refine hΨ _ ?_;clear hΨ hΨ' Ψ)|refine Q0h ?_)|((with_reducible refine hΨ' _ _ ?_ ?_);(focus(simp;done));clear hΨ hΨ' Ψ)|((with_reducible apply Q0f);rfl;rfl;all_goals(intro hc;first|(cases hc;done)|(try simp only at hc)))|((with_reducible refine Q0v ?_ ?_);kernel_rfl;(with_reducible refine hR _ ?_);clear hR R)|((first|((with_reducible apply Q2y);rfl;rfl;rfl;rfl)|((first|((with_reducible apply Q1c);rfl;rfl));((apply Q0r (lk);rfl;rfl;rfl;rfl;exact Tryz.func100);kernel_rfl;rfl;(focus((simp only[go_sem,e]);(try rfl);done));(first|rfl)))|((first|((with_reducible apply Q0w);rfl;rfl));(simp only[rdE,rdOf,go_sem,e];rfl);(intro τ hA hQ hN;((try simp only[Q1a,Op.operands,Call.operands,go_sem,e,go_sem,List.mem_cons,List.not_mem_nil,forall_eq_or_imp,forall_eq,List.append_toArray,Option.toArray] at hA);(try simp only[go_sem,e,List.mem_cons,List.not_mem_nil,forall_eq_or_imp,forall_eq] at hQ hN);(first|(revert hA;intro hA));(first|(revert hQ;intro hQ));(first|(revert hN;intro hN));simp only[go_sem,e,go_sem,hA,hQ,hN];(repeat(refine ndI (by first|assumption) ?_));(first|apply Q0z)))));(simp only[St.eff,setO,Q0t,go_sem,e]))|((with_reducible refine Q0q ?_ ?_ ?_ ?_);kernel_rfl;kernel_rfl;(first|kernel_rfl);intro R hR))))
   all_goals(refine⟨by simp,⟨_,?_,AV.le_refl _⟩,Q0g (by simp[leH,hget])⟩;simp only[Tryz.results101,resL,ldA,Q0o,go_sem])
 · rw[e2] at lk
   (refine Q0n Tryz.func101 rfl (by rfl) ?_;simp only[Tryz.ntmps101,List.length_cons,List.length_nil,Nat.reduceAdd,Nat.reduceSub,List.replicate,List.cons_append,List.nil_append])
   (repeat(any_goals(first|((with_reducible refine Q0i ?_ ?_ ?_);rfl;rfl;intro K hK;((apply Q0b (n1);rfl;rfl;rfl;rfl;exact Tryz.func86);kernel_rfl;rfl;(focus((simp only[go_sem,e,e3]);(try rfl);done));(first|rfl));(simp only[go_sem,e,e3];refine hK _ ?_;clear hK K))|((with_reducible refine Q0c ?_ ?_);rfl;intro K hK;simp only[go_sem,e,e3];((repeat(refine ndI (by first|assumption) ?_));refine hK _ ?_;clear hK K))|(with_reducible first|(refine Q0d ?_;refine hR _ ?_;clear hR R)|((first|refine Q0e ?_|refine Q0l ?_);intro Ψ hΨ hΨ')|(refine Q0a ?_;intro R hR)|(refine hΨ _ ?_;clear hΨ hΨ' Ψ)|refine Q0h ?_)|((with_reducible refine hΨ' _ _ ?_ ?_);(focus(simp;done));clear hΨ hΨ' Ψ)|((with_reducible apply Q0f);rfl;rfl;all_goals(intro hc;first|(cases hc;done)|(try simp only at hc)))|((with_reducible refine Q0v ?_ ?_);kernel_rfl;(with_reducible refine hR _ ?_);clear hR R)|((first|((first|((with_reducible apply Q1c);rfl;rfl));((apply Q0r (lk);rfl;rfl;rfl;rfl;exact Tryz.func100);kernel_rfl;rfl;(focus((simp only[go_sem,e,e3]);(try rfl);done));(first|rfl)))|((first|((with_reducible apply Q0w);rfl;rfl)|((with_reducible apply Q1u);rfl;rfl;rfl;rfl;rfl));(simp only[rdE,rdOf,go_sem,e,e3];rfl);(intro τ hA hQ hN;((try simp only[Q1a,Op.operands,Call.operands,go_sem,e,e3,go_sem,List.mem_cons,List.not_mem_nil,forall_eq_or_imp,forall_eq,List.append_toArray,Option.toArray] at hA);(try simp only[go_sem,e,e3,List.mem_cons,List.not_mem_nil,forall_eq_or_imp,forall_eq] at hQ hN);(first|(revert hA;intro hA));(first|(revert hQ;intro hQ));(first|(revert hN;intro hN));simp only[go_sem,e,e3,go_sem,hA,hQ,hN];(repeat(refine ndI (by first|assumption) ?_));(first|apply Q0z)))));(simp only[St.eff,setO,Q0t,go_sem,e,e3]))|((with_reducible refine Q0q ?_ ?_ ?_ ?_);kernel_rfl;kernel_rfl;(first|kernel_rfl);intro R hR))))
   all_goals(refine⟨by simp,⟨_,?_,AV.le_refl _⟩,Q0g (by simp[leH,hget])⟩;simp only[Tryz.results101,resL,ldA,Q0o,go_sem])
theorem rel1_ok(ex:Bool)(l:List Hd)(a:Int)(p s:Nat)(d f:Int)(now:Int)(hs:s<WW)(h:¬now>1099511627776)(h0:¬s=0)(h1:¬f=0)(h2:¬now<f):Fn Tryz.prog 101 [.ptr 1005 0,.ptr 1101 0,.ptr 1102 0] [(1005,tl a p s d f (hsl ex l)),(1101,[vi .u64 now]),(1102,cW 0)] (vi .i64 0) [(1005,tl a p 0 0 0 (hsl ex l)),(1101,[vi .u64 now]),(1102,cW s)]:=by
 have e:=decide_eq_false h
 have e2:(f==0)=false:=by simp[h1]
 have e3:decide (now<f)=false:=decide_eq_false h2
 have n1:=Q4f s hs
 have lk:=Q8c a p s d f hs
 rw[decide_eq_false h0] at n1 lk
 rw[Bool.not_false,Bool.true_and,e2] at lk
 have z0:l0 0=0:=rfl
 have z1:l1 0=0:=rfl
 have z2:l2 0=0:=rfl
 have z3:l3 0=0:=rfl
 simp only[tl,z0,z1,z2,z3]
 (refine Q0n Tryz.func101 rfl (by rfl) ?_;simp only[Tryz.ntmps101,List.length_cons,List.length_nil,Nat.reduceAdd,Nat.reduceSub,List.replicate,List.cons_append,List.nil_append])
 (repeat(any_goals(first|((with_reducible refine Q0i ?_ ?_ ?_);rfl;rfl;intro K hK;((apply Q0b (n1);rfl;rfl;rfl;rfl;exact Tryz.func86);kernel_rfl;rfl;(focus((simp only[go_sem,e,e3]);(try rfl);done));(first|rfl));(simp only[go_sem,e,e3];refine hK _ ?_;clear hK K))|((with_reducible refine Q0c ?_ ?_);rfl;intro K hK;simp only[go_sem,e,e3];((repeat(refine ndI (by first|assumption) ?_));refine hK _ ?_;clear hK K))|(with_reducible first|(refine Q0d ?_;refine hR _ ?_;clear hR R)|((first|refine Q0e ?_|refine Q0l ?_);intro Ψ hΨ hΨ')|(refine Q0a ?_;intro R hR)|(refine hΨ _ ?_;clear hΨ hΨ' Ψ)|refine Q0j ?_|refine Q0h ?_)|((with_reducible refine hΨ' _ _ ?_ ?_);(focus(simp;done));clear hΨ hΨ' Ψ)|((with_reducible apply Q0f);rfl;rfl;all_goals(intro hc;first|(cases hc;done)|(try simp only at hc)))|((with_reducible refine Q0v ?_ ?_);kernel_rfl;(with_reducible refine hR _ ?_);clear hR R)|((first|((first|((with_reducible apply Q1c);rfl;rfl));((apply Q0r (lk);rfl;rfl;rfl;rfl;exact Tryz.func100);kernel_rfl;rfl;(focus((simp only[go_sem,e,e3]);(try rfl);done));(first|rfl)))|((first|((with_reducible apply Q0w);rfl;rfl)|((with_reducible apply Q1u);rfl;rfl;rfl;rfl;rfl));(simp only[rdE,rdOf,go_sem,e,e3];rfl);(intro τ hA hQ hN;((try simp only[Q1a,Op.operands,Call.operands,go_sem,e,e3,go_sem,List.mem_cons,List.not_mem_nil,forall_eq_or_imp,forall_eq,List.append_toArray,Option.toArray] at hA);(try simp only[go_sem,e,e3,List.mem_cons,List.not_mem_nil,forall_eq_or_imp,forall_eq] at hQ hN);(first|(revert hA;intro hA));(first|(revert hQ;intro hQ));(first|(revert hN;intro hN));simp only[go_sem,e,e3,go_sem,hA,hQ,hN];(repeat(refine ndI (by first|assumption) ?_));(first|apply Q0z|apply Q2g)))));(simp only[St.eff,setO,Q0t,go_sem,e,e3]))|((with_reducible refine Q0q ?_ ?_ ?_ ?_);kernel_rfl;kernel_rfl;(first|kernel_rfl);intro R hR))))
 all_goals(refine⟨by simp,⟨_,?_,AV.le_refl _⟩,Q0g (by simp[leH,hget])⟩;simp only[Tryz.results101,resL,ldA,Q0o,go_sem])
end lg
namespace lg
open Go.RowKit
open Nat (reduceBEq)
set_option maxRecDepth 20000
set_option maxHeartbeats 2000000
theorem with1_bad(ex:Bool)(l:List Hd)(hl:l.length≤maxLen)(ok:∀h∈l,h.ok)(hk:okL l=false)(a:Int)(g:Nat)(u:List PV):Fn Tryz.prog 94 [lg ex l,vi .u64 a,.fn g [.ptr 1101 0]] [(1101,List.map .c u)] (.tup [lgN,vi .i64 170]) [(1101,List.map .c u)]:=by
 have ck:=check_fn ex l hl ok
 rw[hk,if_neg (by decide)] at ck
 (refine Q0n Tryz.func94 rfl (by rfl) ?_;simp only[Tryz.ntmps94,List.length_cons,List.length_nil,Nat.reduceAdd,Nat.reduceSub,List.replicate,List.cons_append,List.nil_append])
 (repeat(any_goals(first|((with_reducible refine Q0i ?_ ?_ ?_);rfl;rfl;intro K hK;((apply Q0b (ck);rfl;rfl;rfl;rfl;exact Tryz.func22);kernel_rfl;rfl;(focus((simp only[go_sem]);(try rfl);done));(first|rfl));(simp only[go_sem];refine hK _ ?_;clear hK K))|((with_reducible refine Q0c ?_ ?_);rfl;intro K hK;simp only[go_sem];((repeat(refine ndI (by first|assumption|rfl) ?_));refine hK _ ?_;clear hK K))|(with_reducible first|(refine Q0d ?_;refine hR _ ?_;clear hR R)|((first|refine Q0e ?_);intro Ψ hΨ hΨ')|(refine Q0a ?_;intro R hR)|(refine hΨ _ ?_;clear hΨ hΨ' Ψ)|refine Q0h ?_)|((with_reducible refine hΨ' _ _ ?_ ?_);(focus(simp;done));clear hΨ hΨ' Ψ)|((with_reducible apply Q0f);rfl;rfl;all_goals(intro hc;first|(cases hc;done)|(try simp only at hc))))))
 all_goals(refine⟨by simp,⟨_,?_,AV.le_refl _⟩,Q0g (by simp[leH,hget])⟩;simp only[Tryz.results94,resL,ldA,Q0o,go_sem])
theorem X8d(ex:Bool)(l:List Hd)(hl:l.length≤maxLen)(ok:∀h∈l,h.ok)(hk:okL l=true)(a:Int)(ha:a=0)(g:Nat)(u:List PV):Fn Tryz.prog 94 [lg ex l,vi .u64 a,.fn g [.ptr 1101 0]] [(1101,List.map .c u)] (.tup [lgN,vi .i64 2]) [(1101,List.map .c u)]:=by
 have ck:=check_fn ex l hl ok
 rw[hk,if_pos rfl] at ck
 subst ha
 (refine Q0n Tryz.func94 rfl (by rfl) ?_;simp only[Tryz.ntmps94,List.length_cons,List.length_nil,Nat.reduceAdd,Nat.reduceSub,List.replicate,List.cons_append,List.nil_append])
 (repeat(any_goals(first|((with_reducible refine Q0i ?_ ?_ ?_);rfl;rfl;intro K hK;((apply Q0b (ck);rfl;rfl;rfl;rfl;exact Tryz.func22);kernel_rfl;rfl;(focus((simp only[go_sem]);(try rfl);done));(first|rfl));(simp only[go_sem];refine hK _ ?_;clear hK K))|((with_reducible refine Q0c ?_ ?_);rfl;intro K hK;simp only[go_sem];((repeat(refine ndI (by first|assumption|rfl) ?_));refine hK _ ?_;clear hK K))|(with_reducible first|(refine Q0d ?_;refine hR _ ?_;clear hR R)|((first|refine Q0e ?_);intro Ψ hΨ hΨ')|(refine Q0a ?_;intro R hR)|(refine hΨ _ ?_;clear hΨ hΨ' Ψ)|refine Q0j ?_|refine Q0h ?_)|((with_reducible refine hΨ' _ _ ?_ ?_);(focus(simp;done));clear hΨ hΨ' Ψ)|((with_reducible apply Q0f);rfl;rfl;all_goals(intro hc;first|(cases hc;done)|(try simp only at hc))))))
 all_goals(refine⟨by simp,⟨_,?_,AV.le_refl _⟩,Q0g (by simp[leH,hget])⟩;simp only[Tryz.results94,resL,ldA,Q0o,go_sem])
theorem with1_err (ex:Bool) (l:List Hd) (hl:l.length≤400) (ok:∀h∈l,h.ok) (hk:okL l=true) (a:Int) (ha:(a==0)=false) (g:Nat) (gf:Func) (hg1:Tryz.prog.funcs[g]? = some gf) (hg2:(gf.name == "runtime.NumGoroutine")=false) (hg3:gf.body.isNone=false) (u u':List PV) (x':Int) (p' s':Nat) (d' f':Int) (e:Int) (he:(e != 0)=true)
 (D:Fn Tryz.prog g ([.ptr 1005 0]++[.ptr 1101 0]) ([(1005,tl (findH l a).a (findH l a).p (findH l a).s (findH l a).d (findH l a).f (hsl ex l))]++[(1101,List.map .c u)]) (vi .i64 e) ([(1005,tl x' p' s' d' f' (hsl ex l))]++[(1101,List.map .c u')])):Fn Tryz.prog 94 [lg ex l,vi .u64 a,.fn g [.ptr 1101 0]] [(1101,List.map .c u)] (.tup [lgN,vi .i64 e]) [(1101,List.map .c u')]:=by
 have ck:=check_fn ex l (by unfold maxLen;omega) ok
 rw[hk,if_pos rfl] at ck
 have fi:=X1b ex l (by omega) a
 generalize findH l a=h0 at fi D
 obtain⟨x,p,s,d,f⟩:=h0
 simp only[List.cons_append,List.nil_append] at D
 dsimp only[hA] at fi D
 (refine Q0n Tryz.func94 rfl (by rfl) ?_;simp only[Tryz.ntmps94,List.length_cons,List.length_nil,Nat.reduceAdd,Nat.reduceSub,List.replicate,List.cons_append,List.nil_append])
 (repeat(any_goals(first|((with_reducible refine Q0i ?_ ?_ ?_);rfl;rfl;intro K hK;(first|((first|(apply Q0b (ck);rfl;rfl;rfl;rfl;exact Tryz.func22));kernel_rfl;rfl;(focus((simp only[go_sem,ha,he,hd_len]);(try rfl);done));(first|rfl))|(apply Q0y (D) (fun r=>if r=1005 then 25 else r);rfl;rfl;rfl;rfl;exact hg1;exact hg2;exact hg3;rfl;(intro r hr q hq h;simp only[List.map_cons,List.map_nil,List.cons_append,List.nil_append,List.mem_cons,List.not_mem_nil,or_false] at hr hq;(try dsimp only at h);first|((repeat' split at h)<;>omega));(simp only[Q1e,Q1y,AV.ren,AV.renL,Q0p,List.mem_cons,List.not_mem_nil,forall_eq_or_imp,forall_eq,Q1v,List.contains_cons,List.contains_nil,AV.refsL,AV.refs,Q0m,AV.inN,AV.inNL,inH,Q0x,go_sem,ha,he,hd_len])));(simp only[Q0t,Q1w,renH,AV.ren,AV.renL,Q0p,go_sem,ha,he,hd_len];refine hK _ ?_;clear hK K))|((with_reducible refine Q0c ?_ ?_);rfl;intro K hK;simp only[go_sem,ha,he,hd_len];((repeat(refine ndI (by first|assumption|rfl) ?_));refine hK _ ?_;clear hK K))|(with_reducible first|(refine Q0d ?_;refine hR _ ?_;clear hR R)|((first|refine Q0e ?_);intro Ψ hΨ hΨ')|(refine Q0a ?_;intro R hR)|(refine hΨ _ ?_;clear hΨ hΨ' Ψ)|refine Q0j ?_|refine Q0h ?_)|((with_reducible refine hΨ' _ _ ?_ ?_);(focus(simp;done));clear hΨ hΨ' Ψ)|((with_reducible apply Q0f);rfl;rfl;all_goals(intro hc;first|(cases hc;done)|(try simp only at hc)))|((with_reducible refine Q0v ?_ ?_);kernel_rfl;(with_reducible refine hR _ ?_);clear hR R)|((first|((with_reducible apply Q1c);rfl;rfl;((apply Q0r (fi);rfl;rfl;rfl;rfl;exact Tryz.func84);kernel_rfl;rfl;(focus((simp only[go_sem,ha,he,hd_len]);(try rfl);done));(first|rfl)))|((with_reducible apply Q0w);rfl;rfl;(simp only[rdE,rdOf,go_sem,ha,he,hd_len];rfl);(intro τ hA hQ hN;((try simp only[Q1a,Op.operands,Call.operands,go_sem,ha,he,hd_len,go_sem,List.mem_cons,List.not_mem_nil,forall_eq_or_imp,forall_eq,List.append_toArray,Option.toArray] at hA);(try simp only[go_sem,ha,he,hd_len,List.mem_cons,List.not_mem_nil,forall_eq_or_imp,forall_eq] at hQ hN);(first|(revert hA;intro hA));(first|(revert hQ;intro hQ));(first|(revert hN;intro hN));simp only[go_sem,ha,he,hd_len,go_sem,hA,hQ,hN];(repeat(refine ndI (by first|assumption) ?_));(first|apply Q0z))))|((first|((with_reducible apply Q4g);rfl;rfl;rfl));(intro τ hA hQ hN;((try simp only[Q1a,Op.operands,Call.operands,go_sem,ha,he,hd_len,go_sem,List.mem_cons,List.not_mem_nil,forall_eq_or_imp,forall_eq,List.append_toArray,Option.toArray] at hA);(try simp only[go_sem,ha,he,hd_len,List.mem_cons,List.not_mem_nil,forall_eq_or_imp,forall_eq] at hQ);(first|(revert hA;intro hA));(first|(revert hQ;intro hQ));simp only[go_sem,ha,he,hd_len,go_sem,hA,hQ,hN];(repeat(refine ndI (by first|assumption) ?_));exact Q5y _ _ _ _))));(simp only[St.eff,setO,Q0t,go_sem,ha,he,hd_len]))|((with_reducible refine Q0q ?_ ?_ ?_ ?_);kernel_rfl;kernel_rfl;(simp[Q1n,Q5f,St.free,Q2i,AV.refsL,AV.refs,Q3k]);intro R hR))))
 all_goals(refine⟨by simp,⟨_,?_,AV.le_refl _⟩,Q0g (by simp[leH,hget])⟩;simp only[Tryz.results94,resL,ldA,Q0o,go_sem])
theorem X2o (ex:Bool) (l:List Hd) (hl:l.length≤400) (ok:∀h∈l,h.ok) (hk:okL l=true) (a:Int) (ha:(a==0)=false) (g:Nat) (gf:Func) (hg1:Tryz.prog.funcs[g]? = some gf) (hg2:(gf.name == "runtime.NumGoroutine")=false) (hg3:gf.body.isNone=false) (u u':List PV) (x':Int) (p' s':Nat) (d' f':Int) (hp:p'<WW) (hs:s'<WW)
 (D:Fn Tryz.prog g ([.ptr 1005 0]++[.ptr 1101 0]) ([(1005,tl (findH l a).a (findH l a).p (findH l a).s (findH l a).d (findH l a).f (hsl ex l))]++[(1101,List.map .c u)]) (vi .i64 0) ([(1005,tl x' p' s' d' f' (hsl ex l))]++[(1101,List.map .c u')])):Fn Tryz.prog 94 [lg ex l,vi .u64 a,.fn g [.ptr 1101 0]] [(1101,List.map .c u)] (.tup [.agg [.row 44 70 11 (putL l ⟨x',p',s',d',f'⟩).length],vi .i64 0]) [(1101,List.map .c u'),(44,rcH (putL l ⟨x',p',s',d',f'⟩))]:=by
 have ck:=check_fn ex l (by unfold maxLen;omega) ok
 rw[hk,if_pos rfl] at ck
 have fi:=X1b ex l (by omega) a
 generalize findH l a=h0 at fi D
 obtain⟨x,p,s,d,f⟩:=h0
 simp only[List.cons_append,List.nil_append] at D
 dsimp only[hA] at fi D
 have bk:=back_fn ex l hl x' p' s' d' f' hp hs
 generalize putL l ⟨x',p',s',d',f'⟩=m at bk ⊢
 (refine Q0n Tryz.func94 rfl (by rfl) ?_;simp only[Tryz.ntmps94,List.length_cons,List.length_nil,Nat.reduceAdd,Nat.reduceSub,List.replicate,List.cons_append,List.nil_append])
 (repeat(any_goals(first|((with_reducible refine Q0i ?_ ?_ ?_);rfl;rfl;intro K hK;(first|((first|(apply Q0b (ck);rfl;rfl;rfl;rfl;exact Tryz.func22));kernel_rfl;rfl;(focus((simp only[go_sem,ha,hd_len]);(try rfl);done));(first|rfl))|(apply Q0y (D) (fun r=>if r=1005 then 25 else r);rfl;rfl;rfl;rfl;exact hg1;exact hg2;exact hg3;rfl;(intro r hr q hq h;simp only[List.map_cons,List.map_nil,List.cons_append,List.nil_append,List.mem_cons,List.not_mem_nil,or_false] at hr hq;(try dsimp only at h);first|((repeat' split at h)<;>omega));(simp only[Q1e,Q1y,AV.ren,AV.renL,Q0p,List.mem_cons,List.not_mem_nil,forall_eq_or_imp,forall_eq,Q1v,List.contains_cons,List.contains_nil,AV.refsL,AV.refs,Q0m,AV.inN,AV.inNL,inH,Q0x,go_sem,ha,hd_len]))|(apply Q0y (bk) (fun r=>if r=1005 then 25 else r);rfl;rfl;rfl;rfl;exact Tryz.func106;kernel_rfl;rfl;rfl;(intro r hr q hq h;simp only[List.map_cons,List.map_nil,List.cons_append,List.nil_append,List.mem_cons,List.not_mem_nil,or_false] at hr hq;(try dsimp only at h);first|(rcases hr with rfl|rfl|rfl<;>rcases hq with rfl|rfl|rfl<;>simp at h ⊢));(simp only[Q1e,Q1y,AV.ren,AV.renL,Q0p,List.mem_cons,List.not_mem_nil,forall_eq_or_imp,forall_eq,Q1v,List.contains_cons,List.contains_nil,AV.refsL,AV.refs,Q0m,AV.inN,AV.inNL,inH,Q0x,go_sem,ha,hd_len])));(simp only[Q0t,Q1w,renH,AV.ren,AV.renL,Q0p,go_sem,ha,hd_len];refine hK _ ?_;clear hK K))|((with_reducible refine Q0c ?_ ?_);rfl;intro K hK;simp only[go_sem,ha,hd_len];((repeat(refine ndI (by first|assumption|rfl) ?_));refine hK _ ?_;clear hK K))|(with_reducible first|(refine Q0d ?_;refine hR _ ?_;clear hR R)|((first|refine Q0e ?_);intro Ψ hΨ hΨ')|(refine Q0a ?_;intro R hR)|(refine hΨ _ ?_;clear hΨ hΨ' Ψ)|refine Q0j ?_|refine Q0h ?_)|((with_reducible apply Q0f);rfl;rfl;all_goals(intro hc;first|(cases hc;done)|(try simp only at hc)))|((with_reducible refine Q0v ?_ ?_);kernel_rfl;(with_reducible refine hR _ ?_);clear hR R)|((first|((with_reducible apply Q1c);rfl;rfl;((apply Q0r (fi);rfl;rfl;rfl;rfl;exact Tryz.func84);kernel_rfl;rfl;(focus((simp only[go_sem,ha,hd_len]);(try rfl);done));(first|rfl)))|((with_reducible apply Q0w);rfl;rfl;(simp only[rdE,rdOf,go_sem,ha,hd_len];rfl);(intro τ hA hQ hN;((try simp only[Q1a,Op.operands,Call.operands,go_sem,ha,hd_len,go_sem,List.mem_cons,List.not_mem_nil,forall_eq_or_imp,forall_eq,List.append_toArray,Option.toArray] at hA);(try simp only[go_sem,ha,hd_len,List.mem_cons,List.not_mem_nil,forall_eq_or_imp,forall_eq] at hQ hN);(first|(revert hA;intro hA));(first|(revert hQ;intro hQ));(first|(revert hN;intro hN));simp only[go_sem,ha,hd_len,go_sem,hA,hQ,hN];(repeat(refine ndI (by first|assumption) ?_));(first|apply Q0z))))|((first|((with_reducible apply Q4g);rfl;rfl;rfl));(intro τ hA hQ hN;((try simp only[Q1a,Op.operands,Call.operands,go_sem,ha,hd_len,go_sem,List.mem_cons,List.not_mem_nil,forall_eq_or_imp,forall_eq,List.append_toArray,Option.toArray] at hA);(try simp only[go_sem,ha,hd_len,List.mem_cons,List.not_mem_nil,forall_eq_or_imp,forall_eq] at hQ);(first|(revert hA;intro hA));(first|(revert hQ;intro hQ));simp only[go_sem,ha,hd_len,go_sem,hA,hQ,hN];(repeat(refine ndI (by first|assumption) ?_));exact Q5y _ _ _ _))));(simp only[St.eff,setO,Q0t,go_sem,ha,hd_len]))|((with_reducible refine Q0q ?_ ?_ ?_ ?_);kernel_rfl;kernel_rfl;(simp[Q1n,Q5f,St.free,Q2i,AV.refsL,AV.refs,Q3k]);intro R hR))))
 all_goals(refine⟨by simp,⟨_,?_,AV.le_refl _⟩,Q0g (by simp[leH,hget])⟩;simp only[Tryz.results94,resL,ldA,Q0o,go_sem])
theorem with2_bad(ex:Bool)(l:List Hd)(hl:l.length≤maxLen)(ok:∀h∈l,h.ok)(hk:okL l=false)(a:Int)(g:Nat)(u v:List PV):Fn Tryz.prog 94 [lg ex l,vi .u64 a,.fn g [.ptr 1101 0,.ptr 1102 0]] [(1101,List.map .c u),(1102,List.map .c v)] (.tup [lgN,vi .i64 170]) [(1101,List.map .c u),(1102,List.map .c v)]:=by
 have ck:=check_fn ex l hl ok
 rw[hk,if_neg (by decide)] at ck
 (refine Q0n Tryz.func94 rfl (by rfl) ?_;simp only[Tryz.ntmps94,List.length_cons,List.length_nil,Nat.reduceAdd,Nat.reduceSub,List.replicate,List.cons_append,List.nil_append])
 (repeat(any_goals(first|((with_reducible refine Q0i ?_ ?_ ?_);rfl;rfl;intro K hK;((apply Q0b (ck);rfl;rfl;rfl;rfl;exact Tryz.func22);kernel_rfl;rfl;(focus((simp only[go_sem]);(try rfl);done));(first|rfl));(simp only[go_sem];refine hK _ ?_;clear hK K))|((with_reducible refine Q0c ?_ ?_);rfl;intro K hK;simp only[go_sem];((repeat(refine ndI (by first|assumption|rfl) ?_));refine hK _ ?_;clear hK K))|(with_reducible first|(refine Q0d ?_;refine hR _ ?_;clear hR R)|((first|refine Q0e ?_);intro Ψ hΨ hΨ')|(refine Q0a ?_;intro R hR)|(refine hΨ _ ?_;clear hΨ hΨ' Ψ)|refine Q0h ?_)|((with_reducible refine hΨ' _ _ ?_ ?_);(focus(simp;done));clear hΨ hΨ' Ψ)|((with_reducible apply Q0f);rfl;rfl;all_goals(intro hc;first|(cases hc;done)|(try simp only at hc))))))
 all_goals(refine⟨by simp,⟨_,?_,AV.le_refl _⟩,Q0g (by simp[leH,hget])⟩;simp only[Tryz.results94,resL,ldA,Q0o,go_sem])
theorem X8c(ex:Bool)(l:List Hd)(hl:l.length≤maxLen)(ok:∀h∈l,h.ok)(hk:okL l=true)(a:Int)(ha:a=0)(g:Nat)(u v:List PV):Fn Tryz.prog 94 [lg ex l,vi .u64 a,.fn g [.ptr 1101 0,.ptr 1102 0]] [(1101,List.map .c u),(1102,List.map .c v)] (.tup [lgN,vi .i64 2]) [(1101,List.map .c u),(1102,List.map .c v)]:=by
 have ck:=check_fn ex l hl ok
 rw[hk,if_pos rfl] at ck
 subst ha
 (refine Q0n Tryz.func94 rfl (by rfl) ?_;simp only[Tryz.ntmps94,List.length_cons,List.length_nil,Nat.reduceAdd,Nat.reduceSub,List.replicate,List.cons_append,List.nil_append])
 (repeat(any_goals(first|((with_reducible refine Q0i ?_ ?_ ?_);rfl;rfl;intro K hK;((apply Q0b (ck);rfl;rfl;rfl;rfl;exact Tryz.func22);kernel_rfl;rfl;(focus((simp only[go_sem]);(try rfl);done));(first|rfl));(simp only[go_sem];refine hK _ ?_;clear hK K))|((with_reducible refine Q0c ?_ ?_);rfl;intro K hK;simp only[go_sem];((repeat(refine ndI (by first|assumption|rfl) ?_));refine hK _ ?_;clear hK K))|(with_reducible first|(refine Q0d ?_;refine hR _ ?_;clear hR R)|((first|refine Q0e ?_);intro Ψ hΨ hΨ')|(refine Q0a ?_;intro R hR)|(refine hΨ _ ?_;clear hΨ hΨ' Ψ)|refine Q0j ?_|refine Q0h ?_)|((with_reducible refine hΨ' _ _ ?_ ?_);(focus(simp;done));clear hΨ hΨ' Ψ)|((with_reducible apply Q0f);rfl;rfl;all_goals(intro hc;first|(cases hc;done)|(try simp only at hc))))))
 all_goals(refine⟨by simp,⟨_,?_,AV.le_refl _⟩,Q0g (by simp[leH,hget])⟩;simp only[Tryz.results94,resL,ldA,Q0o,go_sem])
theorem with2_err (ex:Bool) (l:List Hd) (hl:l.length≤400) (ok:∀h∈l,h.ok) (hk:okL l=true) (a:Int) (ha:(a==0)=false) (g:Nat) (gf:Func) (hg1:Tryz.prog.funcs[g]? = some gf) (hg2:(gf.name == "runtime.NumGoroutine")=false) (hg3:gf.body.isNone=false) (u v u' v':List PV) (x':Int) (p' s':Nat) (d' f':Int) (e:Int) (he:(e != 0)=true)
 (D:Fn Tryz.prog g ([.ptr 1005 0]++[.ptr 1101 0,.ptr 1102 0]) ([(1005,tl (findH l a).a (findH l a).p (findH l a).s (findH l a).d (findH l a).f (hsl ex l))]++[(1101,List.map .c u),(1102,List.map .c v)]) (vi .i64 e) ([(1005,tl x' p' s' d' f' (hsl ex l))]++[(1101,List.map .c u'),(1102,List.map .c v')])):Fn Tryz.prog 94 [lg ex l,vi .u64 a,.fn g [.ptr 1101 0,.ptr 1102 0]] [(1101,List.map .c u),(1102,List.map .c v)] (.tup [lgN,vi .i64 e]) [(1101,List.map .c u'),(1102,List.map .c v')]:=by
 have ck:=check_fn ex l (by unfold maxLen;omega) ok
 rw[hk,if_pos rfl] at ck
 have fi:=X1b ex l (by omega) a
 generalize findH l a=h0 at fi D
 obtain⟨x,p,s,d,f⟩:=h0
 simp only[List.cons_append,List.nil_append] at D
 dsimp only[hA] at fi D
 (refine Q0n Tryz.func94 rfl (by rfl) ?_;simp only[Tryz.ntmps94,List.length_cons,List.length_nil,Nat.reduceAdd,Nat.reduceSub,List.replicate,List.cons_append,List.nil_append])
 (repeat(any_goals(first|((with_reducible refine Q0i ?_ ?_ ?_);rfl;rfl;intro K hK;(first|((first|(apply Q0b (ck);rfl;rfl;rfl;rfl;exact Tryz.func22));kernel_rfl;rfl;(focus((simp only[go_sem,ha,he,hd_len]);(try rfl);done));(first|rfl))|(apply Q0y (D) (fun r=>if r=1005 then 25 else r);rfl;rfl;rfl;rfl;exact hg1;exact hg2;exact hg3;rfl;(intro r hr q hq h;simp only[List.map_cons,List.map_nil,List.cons_append,List.nil_append,List.mem_cons,List.not_mem_nil,or_false] at hr hq;(try dsimp only at h);first|((repeat' split at h)<;>omega));(simp only[Q1e,Q1y,AV.ren,AV.renL,Q0p,List.mem_cons,List.not_mem_nil,forall_eq_or_imp,forall_eq,Q1v,List.contains_cons,List.contains_nil,AV.refsL,AV.refs,Q0m,AV.inN,AV.inNL,inH,Q0x,go_sem,ha,he,hd_len])));(simp only[Q0t,Q1w,renH,AV.ren,AV.renL,Q0p,go_sem,ha,he,hd_len];refine hK _ ?_;clear hK K))|((with_reducible refine Q0c ?_ ?_);rfl;intro K hK;simp only[go_sem,ha,he,hd_len];((repeat(refine ndI (by first|assumption|rfl) ?_));refine hK _ ?_;clear hK K))|(with_reducible first|(refine Q0d ?_;refine hR _ ?_;clear hR R)|((first|refine Q0e ?_);intro Ψ hΨ hΨ')|(refine Q0a ?_;intro R hR)|(refine hΨ _ ?_;clear hΨ hΨ' Ψ)|refine Q0j ?_|refine Q0h ?_)|((with_reducible refine hΨ' _ _ ?_ ?_);(focus(simp;done));clear hΨ hΨ' Ψ)|((with_reducible apply Q0f);rfl;rfl;all_goals(intro hc;first|(cases hc;done)|(try simp only at hc)))|((with_reducible refine Q0v ?_ ?_);kernel_rfl;(with_reducible refine hR _ ?_);clear hR R)|((first|((with_reducible apply Q1c);rfl;rfl;((apply Q0r (fi);rfl;rfl;rfl;rfl;exact Tryz.func84);kernel_rfl;rfl;(focus((simp only[go_sem,ha,he,hd_len]);(try rfl);done));(first|rfl)))|((with_reducible apply Q0w);rfl;rfl;(simp only[rdE,rdOf,go_sem,ha,he,hd_len];rfl);(intro τ hA hQ hN;((try simp only[Q1a,Op.operands,Call.operands,go_sem,ha,he,hd_len,go_sem,List.mem_cons,List.not_mem_nil,forall_eq_or_imp,forall_eq,List.append_toArray,Option.toArray] at hA);(try simp only[go_sem,ha,he,hd_len,List.mem_cons,List.not_mem_nil,forall_eq_or_imp,forall_eq] at hQ hN);(first|(revert hA;intro hA));(first|(revert hQ;intro hQ));(first|(revert hN;intro hN));simp only[go_sem,ha,he,hd_len,go_sem,hA,hQ,hN];(repeat(refine ndI (by first|assumption) ?_));(first|apply Q0z))))|((first|((with_reducible apply Q4g);rfl;rfl;rfl));(intro τ hA hQ hN;((try simp only[Q1a,Op.operands,Call.operands,go_sem,ha,he,hd_len,go_sem,List.mem_cons,List.not_mem_nil,forall_eq_or_imp,forall_eq,List.append_toArray,Option.toArray] at hA);(try simp only[go_sem,ha,he,hd_len,List.mem_cons,List.not_mem_nil,forall_eq_or_imp,forall_eq] at hQ);(first|(revert hA;intro hA));(first|(revert hQ;intro hQ));simp only[go_sem,ha,he,hd_len,go_sem,hA,hQ,hN];(repeat(refine ndI (by first|assumption) ?_));exact Q5y _ _ _ _))));(simp only[St.eff,setO,Q0t,go_sem,ha,he,hd_len]))|((with_reducible refine Q0q ?_ ?_ ?_ ?_);kernel_rfl;kernel_rfl;(simp[Q1n,Q5f,St.free,Q2i,AV.refsL,AV.refs,Q3k]);intro R hR))))
 all_goals(refine⟨by simp,⟨_,?_,AV.le_refl _⟩,Q0g (by simp[leH,hget])⟩;simp only[Tryz.results94,resL,ldA,Q0o,go_sem])
theorem X7a (ex:Bool) (l:List Hd) (hl:l.length≤400) (ok:∀h∈l,h.ok) (hk:okL l=true) (a:Int) (ha:(a==0)=false) (g:Nat) (gf:Func) (hg1:Tryz.prog.funcs[g]? = some gf) (hg2:(gf.name == "runtime.NumGoroutine")=false) (hg3:gf.body.isNone=false) (u v u' v':List PV) (x':Int) (p' s':Nat) (d' f':Int) (hp:p'<WW) (hs:s'<WW)
 (D:Fn Tryz.prog g ([.ptr 1005 0]++[.ptr 1101 0,.ptr 1102 0]) ([(1005,tl (findH l a).a (findH l a).p (findH l a).s (findH l a).d (findH l a).f (hsl ex l))]++[(1101,List.map .c u),(1102,List.map .c v)]) (vi .i64 0) ([(1005,tl x' p' s' d' f' (hsl ex l))]++[(1101,List.map .c u'),(1102,List.map .c v')])):Fn Tryz.prog 94 [lg ex l,vi .u64 a,.fn g [.ptr 1101 0,.ptr 1102 0]] [(1101,List.map .c u),(1102,List.map .c v)] (.tup [.agg [.row 44 70 11 (putL l ⟨x',p',s',d',f'⟩).length],vi .i64 0]) [(1101,List.map .c u'),(1102,List.map .c v'),(44,rcH (putL l ⟨x',p',s',d',f'⟩))]:=by
 have ck:=check_fn ex l (by unfold maxLen;omega) ok
 rw[hk,if_pos rfl] at ck
 have fi:=X1b ex l (by omega) a
 generalize findH l a=h0 at fi D
 obtain⟨x,p,s,d,f⟩:=h0
 simp only[List.cons_append,List.nil_append] at D
 dsimp only[hA] at fi D
 have bk:=back_fn ex l hl x' p' s' d' f' hp hs
 generalize putL l ⟨x',p',s',d',f'⟩=m at bk ⊢
 (refine Q0n Tryz.func94 rfl (by rfl) ?_;simp only[Tryz.ntmps94,List.length_cons,List.length_nil,Nat.reduceAdd,Nat.reduceSub,List.replicate,List.cons_append,List.nil_append])
 (repeat(any_goals(first|((with_reducible refine Q0i ?_ ?_ ?_);rfl;rfl;intro K hK;(first|((first|(apply Q0b (ck);rfl;rfl;rfl;rfl;exact Tryz.func22));kernel_rfl;rfl;(focus((simp only[go_sem,ha,hd_len]);(try rfl);done));(first|rfl))|(apply Q0y (D) (fun r=>if r=1005 then 25 else r);rfl;rfl;rfl;rfl;exact hg1;exact hg2;exact hg3;rfl;(intro r hr q hq h;simp only[List.map_cons,List.map_nil,List.cons_append,List.nil_append,List.mem_cons,List.not_mem_nil,or_false] at hr hq;(try dsimp only at h);first|((repeat' split at h)<;>omega));(simp only[Q1e,Q1y,AV.ren,AV.renL,Q0p,List.mem_cons,List.not_mem_nil,forall_eq_or_imp,forall_eq,Q1v,List.contains_cons,List.contains_nil,AV.refsL,AV.refs,Q0m,AV.inN,AV.inNL,inH,Q0x,go_sem,ha,hd_len]))|(apply Q0y (bk) (fun r=>if r=1005 then 25 else r);rfl;rfl;rfl;rfl;exact Tryz.func106;kernel_rfl;rfl;rfl;(intro r hr q hq h;simp only[List.map_cons,List.map_nil,List.cons_append,List.nil_append,List.mem_cons,List.not_mem_nil,or_false] at hr hq;(try dsimp only at h);first|(rcases hr with rfl|rfl|rfl<;>rcases hq with rfl|rfl|rfl<;>simp at h ⊢));(simp only[Q1e,Q1y,AV.ren,AV.renL,Q0p,List.mem_cons,List.not_mem_nil,forall_eq_or_imp,forall_eq,Q1v,List.contains_cons,List.contains_nil,AV.refsL,AV.refs,Q0m,AV.inN,AV.inNL,inH,Q0x,go_sem,ha,hd_len])));(simp only[Q0t,Q1w,renH,AV.ren,AV.renL,Q0p,go_sem,ha,hd_len];refine hK _ ?_;clear hK K))|((with_reducible refine Q0c ?_ ?_);rfl;intro K hK;simp only[go_sem,ha,hd_len];((repeat(refine ndI (by first|assumption|rfl) ?_));refine hK _ ?_;clear hK K))|(with_reducible first|(refine Q0d ?_;refine hR _ ?_;clear hR R)|((first|refine Q0e ?_);intro Ψ hΨ hΨ')|(refine Q0a ?_;intro R hR)|(refine hΨ _ ?_;clear hΨ hΨ' Ψ)|refine Q0j ?_|refine Q0h ?_)|((with_reducible apply Q0f);rfl;rfl;all_goals(intro hc;first|(cases hc;done)|(try simp only at hc)))|((with_reducible refine Q0v ?_ ?_);kernel_rfl;(with_reducible refine hR _ ?_);clear hR R)|((first|((with_reducible apply Q1c);rfl;rfl;((apply Q0r (fi);rfl;rfl;rfl;rfl;exact Tryz.func84);kernel_rfl;rfl;(focus((simp only[go_sem,ha,hd_len]);(try rfl);done));(first|rfl)))|((with_reducible apply Q0w);rfl;rfl;(simp only[rdE,rdOf,go_sem,ha,hd_len];rfl);(intro τ hA hQ hN;((try simp only[Q1a,Op.operands,Call.operands,go_sem,ha,hd_len,go_sem,List.mem_cons,List.not_mem_nil,forall_eq_or_imp,forall_eq,List.append_toArray,Option.toArray] at hA);(try simp only[go_sem,ha,hd_len,List.mem_cons,List.not_mem_nil,forall_eq_or_imp,forall_eq] at hQ hN);(first|(revert hA;intro hA));(first|(revert hQ;intro hQ));(first|(revert hN;intro hN));simp only[go_sem,ha,hd_len,go_sem,hA,hQ,hN];(repeat(refine ndI (by first|assumption) ?_));(first|apply Q0z))))|((first|((with_reducible apply Q4g);rfl;rfl;rfl));(intro τ hA hQ hN;((try simp only[Q1a,Op.operands,Call.operands,go_sem,ha,hd_len,go_sem,List.mem_cons,List.not_mem_nil,forall_eq_or_imp,forall_eq,List.append_toArray,Option.toArray] at hA);(try simp only[go_sem,ha,hd_len,List.mem_cons,List.not_mem_nil,forall_eq_or_imp,forall_eq] at hQ);(first|(revert hA;intro hA));(first|(revert hQ;intro hQ));simp only[go_sem,ha,hd_len,go_sem,hA,hQ,hN];(repeat(refine ndI (by first|assumption) ?_));exact Q5y _ _ _ _))));(simp only[St.eff,setO,Q0t,go_sem,ha,hd_len]))|((with_reducible refine Q0q ?_ ?_ ?_ ?_);kernel_rfl;kernel_rfl;(simp[Q1n,Q5f,St.free,Q2i,AV.refsL,AV.refs,Q3k]);intro R hR))))
 all_goals(refine⟨by simp,⟨_,?_,AV.le_refl _⟩,Q0g (by simp[leH,hget])⟩;simp only[Tryz.results94,resL,ldA,Q0o,go_sem])
end lg
namespace lg
open Go.RowKit
set_option maxRecDepth 20000
set_option maxHeartbeats 2000000
def gate(l:List Hd)(a e:Int):Int:=if okL l=false then 170 else if a=0 then 2 else e
theorem Q4t{l:List Hd}(h:okL l=true):l.length≤24:=by
 unfold okL at h
 rw[Bool.and_eq_true] at h
 exact of_decide_eq_true h.1
theorem gate_zero{l:List Hd}{a e:Int}(h:gate l a e=0):okL l=true∧(a==0)=false∧e=0:=by
 unfold gate at h
 cases hk:okL l with
 |false=>rw[hk,if_pos rfl] at h;cases h
 |true=>
  rw[hk,if_neg (by decide)] at h
  by_cases ha:a=0
  · rw[if_pos ha] at h;cases h
  · rw[if_neg ha] at h;exact⟨rfl,by simp[ha],h⟩
theorem Q8o (ex:Bool) (l:List Hd) (hl:l.length≤maxLen) (ok:∀h∈l,h.ok) (a:Int) (g:Nat) (gf:Func) (hg1:Tryz.prog.funcs[g]? = some gf) (hg2:(gf.name == "runtime.NumGoroutine")=false) (hg3:gf.body.isNone=false) (u:List PV) (x':Int) (p' s':Nat) (d' f' e:Int) (hE:(gate l a e==0)=false)
 (D:l.length≤400→(e==0)=false→Fn Tryz.prog g ([.ptr 1005 0]++[.ptr 1101 0]) ([(1005,tl (findH l a).a (findH l a).p (findH l a).s (findH l a).d (findH l a).f (hsl ex l))]++[(1101,List.map .c u)]) (vi .i64 e) ([(1005,tl x' p' s' d' f' (hsl ex l))]++[(1101,List.map .c u)])):Fn Tryz.prog 94 [lg ex l,vi .u64 a,.fn g [.ptr 1101 0]] [(1101,List.map .c u)] (.tup [lgN,vi .i64 (gate l a e)]) [(1101,List.map .c u)]:=by
 unfold gate at hE ⊢
 cases hk:okL l with
 |false=>rw[if_pos rfl];exact with1_bad ex l hl ok hk a g u
 |true=>
  rw[hk,if_neg (by decide)] at hE
  rw[if_neg (by decide)]
  have hl':=Q4t hk
  by_cases ha:a=0
  · rw[if_pos ha];exact X8d ex l hl ok hk a ha g u
  · rw[if_neg ha] at hE ⊢
    exact with1_err ex l (by omega) ok hk a (by simp[ha]) g gf hg1 hg2 hg3 u u x' p' s' d' f' e (by simp at hE ⊢;exact hE) (D (by omega) hE)
theorem Q6w (ex:Bool) (l:List Hd) (hl:l.length≤maxLen) (ok:∀h∈l,h.ok) (a:Int) (g:Nat) (gf:Func) (hg1:Tryz.prog.funcs[g]? = some gf) (hg2:(gf.name == "runtime.NumGoroutine")=false) (hg3:gf.body.isNone=false) (u v:List PV) (x':Int) (p' s':Nat) (d' f' e:Int) (hE:(gate l a e==0)=false)
 (D:l.length≤400→(e==0)=false→Fn Tryz.prog g ([.ptr 1005 0]++[.ptr 1101 0,.ptr 1102 0]) ([(1005,tl (findH l a).a (findH l a).p (findH l a).s (findH l a).d (findH l a).f (hsl ex l))]++[(1101,List.map .c u),(1102,List.map .c v)]) (vi .i64 e) ([(1005,tl x' p' s' d' f' (hsl ex l))]++[(1101,List.map .c u),(1102,List.map .c v)])):Fn Tryz.prog 94 [lg ex l,vi .u64 a,.fn g [.ptr 1101 0,.ptr 1102 0]] [(1101,List.map .c u),(1102,List.map .c v)] (.tup [lgN,vi .i64 (gate l a e)]) [(1101,List.map .c u),(1102,List.map .c v)]:=by
 unfold gate at hE ⊢
 cases hk:okL l with
 |false=>rw[if_pos rfl];exact with2_bad ex l hl ok hk a g u v
 |true=>
  rw[hk,if_neg (by decide)] at hE
  rw[if_neg (by decide)]
  have hl':=Q4t hk
  by_cases ha:a=0
  · rw[if_pos ha];exact X8c ex l hl ok hk a ha g u v
  · rw[if_neg ha] at hE ⊢
    exact with2_err ex l (by omega) ok hk a (by simp[ha]) g gf hg1 hg2 hg3 u v u v x' p' s' d' f' e (by simp at hE ⊢;exact hE) (D (by omega) hE)
theorem okZ{a:Int}(ha:U a):Hd.ok ⟨a,0,0,0,0⟩:=⟨ha,(by decide:0<WW),(by decide:0<WW),⟨Int.le_refl 0,(by decide:(0:Int)≤18446744073709551615)⟩,⟨Int.le_refl 0,(by decide:(0:Int)≤18446744073709551615)⟩⟩
theorem findH_ok{l:List Hd}(ok:∀h∈l,h.ok){a:Int}(ha:U a):(findH l a).ok:=by
 unfold findH
 cases hy:l[posA l a]? with
 |none=>exact okZ ha
 |some y=>
  dsimp only
  split
  · exact ok y (List.mem_of_getElem? hy)
  · exact okZ ha
theorem X1c(l:List Hd)(a:Int):(findH l a).a=a:=by
 unfold findH
 cases hy:l[posA l a]? with
 |none=>rfl
 |some y=>
  dsimp only
  split
  · assumption
  · rfl
def depH(h:Hd)(n:Nat):Hd:=⟨h.a,(h.p+n)%WW,h.s,h.d,h.f⟩
def wdrE(h:Hd)(n:Nat):Int:=if h.p<n then 162 else 0
def wdrH(h:Hd)(n:Nat):Hd:=⟨h.a,h.p-n,h.s,h.d,h.f⟩
def bondE(l:List Hd)(a:Int)(h:Hd)(n:Nat)(delay:Int):Int:=if dly h.d delay=true then 2 else if (decide (h.s=0)&&decide (n=0))=true then 172 else fitsE l a n
def bondH(h:Hd)(n:Nat)(delay:Int):Hd:=⟨h.a,h.p,(h.s+n)%WW,delay,0⟩
def unlE(h:Hd)(now:Int):Int:=if now>1099511627776 then 2 else if (!decide (h.s=0)&&(h.f==0))=false then 172 else 0
def unlH(h:Hd)(now:Int):Hd:=⟨h.a,h.p,h.s,h.d,now+h.d⟩
def relE(h:Hd)(now:Int):Int:=if now>1099511627776 then 2 else if h.s=0 then 172 else if h.f=0∨now<h.f then 173 else 0
def relH(h:Hd):Hd:=⟨h.a,h.p,0,0,0⟩
theorem X6i{l:List Hd}:∀{n:Nat},okU l n=true→∀i,i<n→okR l i=true
 |n+1,h,i,hi=>by
  unfold okU at h
  rw[Bool.and_eq_true] at h
  rcases Nat.lt_or_ge i n with h1|h1
  · exact X6i h.1 i h1
  · obtain rfl:i=n:=by omega
    exact h.2
theorem X0u{l:List Hd}(h:okL l=true){y:Hd}(hy:y∈l):Q5w y=true:=by
 unfold okL at h
 rw[Bool.and_eq_true,Bool.and_eq_true] at h
 obtain⟨i,hi,rfl⟩:=List.getElem_of_mem hy
 have h2:=X6i h.2.1 i hi
 unfold okR at h2
 rw[List.getElem?_eq_getElem hi] at h2
 dsimp only at h2
 rw[Bool.and_eq_true] at h2
 exact h2.1
theorem right_d{y:Hd}(h:Q5w y=true):y.d≤1073741824:=by
 unfold Q5w at h
 simp only[Bool.and_eq_true,decide_eq_true_eq] at h
 exact h.2.1
theorem findH_d{l:List Hd}(h:okL l=true)(a:Int):(findH l a).d≤1073741824:=by
 unfold findH
 cases hy:l[posA l a]? with
 |none=>exact(by decide:(0:Int)≤1073741824)
 |some y=>
  dsimp only
  split
  · exact right_d (X0u h (List.mem_of_getElem? hy))
  · exact(by decide:(0:Int)≤1073741824)
end lg
namespace lg
open Go.RowKit
open Nat (reduceBEq)
set_option maxRecDepth 20000
set_option maxHeartbeats 2000000
def findP(l:List Hd)(a:Int):Hd:=if a=0 then⟨0,0,0,0,0⟩ else if okL l=true then findH l a else⟨0,0,0,0,0⟩
theorem findF_fn(ex:Bool)(l:List Hd)(hl:l.length≤maxLen)(ok:∀h∈l,h.ok)(a:Int):Fn Tryz.prog 53 [lg ex l,vi .u64 a] [] (hA (findP l a)) []:=by
 by_cases ha:a=0
 · subst ha
   rw[show findP l 0=⟨0,0,0,0,0⟩ from if_pos rfl]
   simp only[hA,h11,c11,Q2q,Q2p,Q2o,Q2n]
   (refine Q0n Tryz.func53 rfl (by rfl) ?_;simp only[Tryz.ntmps53,List.length_cons,List.length_nil,Nat.reduceAdd,Nat.reduceSub,List.replicate,List.cons_append,List.nil_append])
   (repeat(any_goals(first|((with_reducible refine Q0c ?_ ?_);rfl;intro K hK;simp only[go_sem];((repeat(refine ndI (by first|assumption) ?_));refine hK _ ?_;clear hK K))|(with_reducible first|(refine Q0d ?_;refine hR _ ?_;clear hR R)|((first|refine Q0e ?_);intro Ψ hΨ hΨ')|(refine Q0a ?_;intro R hR)|(refine hΨ _ ?_;clear hΨ hΨ' Ψ)|refine Q0h ?_)|((with_reducible refine hΨ' _ _ ?_ ?_);(focus(simp;done));clear hΨ hΨ' Ψ)|((with_reducible apply Q0s);rfl;rfl;rfl;all_goals(intro hb;first|(cases hb;done)|((try simp only[Bool.not_true,Bool.not_false] at hb);(first|((fail_if_success (with_reducible intro _));simp only[go_sem])))))|((with_reducible apply Q0f);rfl;rfl;all_goals(intro hc;first|(cases hc;done)|(try simp only at hc))))))
   all_goals(refine⟨by simp,⟨_,?_,AV.le_refl _⟩,Q0g (by simp[leH,hget])⟩;simp only[Tryz.results53,resL,ldA,Q0o,go_sem])
 · have ck:=check_fn ex l hl ok
   have ea:(a==0)=false:=by simp[ha]
   cases hk:okL l with
   |false=>
    rw[hk,if_neg (by decide)] at ck
    rw[show findP l a=⟨0,0,0,0,0⟩ by unfold findP;rw[if_neg ha,hk,if_neg (by decide)]]
    simp only[hA,h11,c11,Q2q,Q2p,Q2o,Q2n]
    (refine Q0n Tryz.func53 rfl (by rfl) ?_;simp only[Tryz.ntmps53,List.length_cons,List.length_nil,Nat.reduceAdd,Nat.reduceSub,List.replicate,List.cons_append,List.nil_append])
    (repeat(any_goals(first|((with_reducible refine Q0c ?_ ?_);rfl;intro K hK;simp only[go_sem,ea];((repeat(refine ndI (by first|assumption) ?_));refine hK _ ?_;clear hK K))|(with_reducible first|(refine Q0d ?_;refine hR _ ?_;clear hR R)|((first|refine Q0e ?_);intro Ψ hΨ hΨ')|(refine Q0a ?_;intro R hR)|(refine hΨ _ ?_;clear hΨ hΨ' Ψ)|refine Q0h ?_)|((with_reducible refine hΨ' _ _ ?_ ?_);(focus(simp;done));clear hΨ hΨ' Ψ)|((with_reducible apply Q0s);rfl;rfl;rfl;all_goals(intro hb;first|(cases hb;done)|((try simp only[Bool.not_true,Bool.not_false] at hb);(first|((with_reducible intro K hK);(first|((apply Q0b (ck);rfl;rfl;rfl;rfl;exact Tryz.func22);kernel_rfl;rfl;(focus((simp only[go_sem,ea]);(try rfl);done));(first|rfl))|skip);simp only[go_sem,ea];((repeat(refine ndI (by first|assumption) ?_));refine hK _ ?_;clear hK K))))))|((with_reducible apply Q0f);rfl;rfl;all_goals(intro hc;first|(cases hc;done)|(try simp only at hc))))))
    all_goals(refine⟨by simp,⟨_,?_,AV.le_refl _⟩,Q0g (by simp[leH,hget])⟩;simp only[Tryz.results53,resL,ldA,Q0o,go_sem])
   |true=>
    have hl4:=Q4t hk
    have fi:=X1b ex l (by omega) a
    rw[hk,if_pos rfl] at ck
    rw[show findP l a=findH l a by unfold findP;rw[if_neg ha,hk,if_pos rfl]]
    generalize findH l a=h0 at fi ⊢
    obtain⟨x,p,s,d,f⟩:=h0
    dsimp only[hA] at fi ⊢
    (refine Q0n Tryz.func53 rfl (by rfl) ?_;simp only[Tryz.ntmps53,List.length_cons,List.length_nil,Nat.reduceAdd,Nat.reduceSub,List.replicate,List.cons_append,List.nil_append])
    (repeat(any_goals(first|((with_reducible refine Q0i ?_ ?_ ?_);rfl;rfl;intro K hK;((apply Q0b (fi);rfl;rfl;rfl;rfl;exact Tryz.func84);kernel_rfl;rfl;(focus((simp only[go_sem,ea]);(try rfl);done));(first|rfl));(simp only[go_sem,ea];refine hK _ ?_;clear hK K))|((with_reducible refine Q0c ?_ ?_);rfl;intro K hK;simp only[go_sem,ea];((repeat(refine ndI (by first|assumption) ?_));refine hK _ ?_;clear hK K))|(with_reducible first|(refine Q0d ?_;refine hR _ ?_;clear hR R)|((first|refine Q0e ?_);intro Ψ hΨ hΨ')|(refine Q0a ?_;intro R hR)|(refine hΨ _ ?_;clear hΨ hΨ' Ψ)|refine Q0j ?_|refine Q0h ?_)|((with_reducible apply Q0s);rfl;rfl;rfl;all_goals(intro hb;first|(cases hb;done)|((try simp only[Bool.not_true,Bool.not_false] at hb);(first|((with_reducible intro K hK);(first|((apply Q0b (ck);rfl;rfl;rfl;rfl;exact Tryz.func22);kernel_rfl;rfl;(focus((simp only[go_sem,ea]);(try rfl);done));(first|rfl))|skip);simp only[go_sem,ea];((repeat(refine ndI (by first|assumption) ?_));refine hK _ ?_;clear hK K))))))|((with_reducible apply Q0f);rfl;rfl;all_goals(intro hc;first|(cases hc;done)|(try simp only at hc))))))
    all_goals(refine⟨by simp,⟨_,?_,AV.le_refl _⟩,Q0g (by simp[leH,hget])⟩;simp only[Tryz.results53,resL,ldA,Q0o,go_sem])
theorem X6j{l:List Hd}(h:okL l=true):tot l<WW:=by
 unfold okL at h
 rw[Bool.and_eq_true,Bool.and_eq_true] at h
 exact of_decide_eq_true h.2.2
def sumP(l:List Hd):Nat:=if okL l=true then tot l else 0
theorem sumF_fn(ex:Bool)(l:List Hd)(hl:l.length≤maxLen)(ok:∀h∈l,h.ok):Fn Tryz.prog 64 [lg ex l] [] (wN (sumP l)) []:=by
 have ck:=check_fn ex l hl ok
 cases hk:okL l with
 |false=>
  rw[hk,if_neg (by decide)] at ck
  rw[show sumP l=0 by unfold sumP;rw[hk,if_neg (by decide)]]
  simp only[wN,w4,Q2q,Q2p,Q2o,Q2n]
  (refine Q0n Tryz.func64 rfl (by rfl) ?_;simp only[Tryz.ntmps64,List.length_cons,List.length_nil,Nat.reduceAdd,Nat.reduceSub,List.replicate,List.cons_append,List.nil_append])
  (repeat(any_goals(first|((with_reducible refine Q0i ?_ ?_ ?_);rfl;rfl;intro K hK;((apply Q0b (ck);rfl;rfl;rfl;rfl;exact Tryz.func22);kernel_rfl;rfl;(focus((simp only[go_sem]);(try rfl);done));(first|rfl));(simp only[go_sem];refine hK _ ?_;clear hK K))|((with_reducible refine Q0c ?_ ?_);rfl;intro K hK;simp only[go_sem];((repeat(refine ndI (by first|assumption) ?_));refine hK _ ?_;clear hK K))|(with_reducible first|(refine Q0d ?_;refine hR _ ?_;clear hR R)|((first|refine Q0e ?_);intro Ψ hΨ hΨ')|(refine Q0a ?_;intro R hR)|(refine hΨ _ ?_;clear hΨ hΨ' Ψ)|refine Q0h ?_)|((with_reducible refine hΨ' _ _ ?_ ?_);(focus(simp;done));clear hΨ hΨ' Ψ)|((with_reducible apply Q0f);rfl;rfl;all_goals(intro hc;first|(cases hc;done)|(try simp only at hc))))))
  all_goals(refine⟨by simp,⟨_,?_,AV.le_refl _⟩,Q0g (by simp[leH,hget])⟩;simp only[Tryz.results64,resL,ldA,Q0o,go_sem])
 |true=>
  have hl4:=Q4t hk
  have al:=all_nil ex l (by omega) ok
  rw[hk,if_pos rfl] at ck
  rw[Nat.mod_eq_of_lt (X6j hk),decide_eq_false (by have:=X6j hk;omega)] at al
  rw[show sumP l=tot l by unfold sumP;rw[hk,if_pos rfl]]
  generalize tot l=n at al ⊢
  (refine Q0n Tryz.func64 rfl (by rfl) ?_;simp only[Tryz.ntmps64,List.length_cons,List.length_nil,Nat.reduceAdd,Nat.reduceSub,List.replicate,List.cons_append,List.nil_append])
  (repeat(any_goals(first|((with_reducible refine Q0i ?_ ?_ ?_);rfl;rfl;intro K hK;((first|(apply Q0b (ck);rfl;rfl;rfl;rfl;exact Tryz.func22)|(apply Q0b (al);rfl;rfl;rfl;rfl;exact Tryz.func59));kernel_rfl;rfl;(focus((simp only[go_sem]);(try rfl);done));(first|rfl));(simp only[go_sem];refine hK _ ?_;clear hK K))|((with_reducible refine Q0c ?_ ?_);rfl;intro K hK;simp only[go_sem];((repeat(refine ndI (by first|assumption) ?_));refine hK _ ?_;clear hK K))|(with_reducible first|(refine Q0d ?_;refine hR _ ?_;clear hR R)|((first|refine Q0e ?_);intro Ψ hΨ hΨ')|(refine Q0a ?_;intro R hR)|(refine hΨ _ ?_;clear hΨ hΨ' Ψ)|refine Q0j ?_|refine Q0h ?_)|((with_reducible apply Q0f);rfl;rfl;all_goals(intro hc;first|(cases hc;done)|(try simp only at hc))))))
  all_goals(refine⟨by simp,⟨_,?_,AV.le_refl _⟩,Q0g (by simp[leH,hget])⟩;simp only[Tryz.results64,resL,ldA,Q0o,go_sem])
end lg
section
open Go.RowKit
open Nat (reduceBEq)
set_option maxRecDepth 20000
set_option maxHeartbeats 2000000
theorem Wl.ok.kl{w:Wl}(hw:w.ok):Okl w.S:=⟨Nat.le_trans hw.s.1 (by decide),fun x hx=>⟨(hw.s.2 x hx).1,Nat.le_trans (hw.s.2 x hx).2.1 (by decide),Nat.le_trans (hw.s.2 x hx).2.2 (by decide)⟩⟩
theorem X8b(w:Wl)(hw:w.ok)(a:Int):Fn Tryz.prog 38 [wlA w,vi .u64 a] [] (wN (OfS w.S a).b) []:=by
 have f:=OfS_fn false w.S hw.kl a
 generalize OfS w.S a=x at f ⊢
 obtain⟨a',b,n,c,s⟩:=x
 dsimp only at f ⊢
 (refine Q0n Tryz.func38 rfl (by rfl) ?_;simp only[Tryz.ntmps38,List.length_cons,List.length_nil,Nat.reduceAdd,Nat.reduceSub,List.replicate,List.cons_append,List.nil_append])
 (repeat(any_goals(first|((with_reducible refine Q0i ?_ ?_ ?_);rfl;rfl;intro K hK;((apply Q0b (f);rfl;rfl;rfl;rfl;exact Tryz.func66);kernel_rfl;rfl;(focus((simp only[go_sem]);(try rfl);done));(first|rfl));(simp only[go_sem];refine hK _ ?_;clear hK K))|((with_reducible refine Q0c ?_ ?_);rfl;intro K hK;simp only[go_sem];((repeat(refine ndI (by first|assumption) ?_));refine hK _ ?_;clear hK K))|(with_reducible first|(refine Q0d ?_;refine hR _ ?_;clear hR R)|((first|refine Q0e ?_);intro Ψ hΨ hΨ')|(refine Q0a ?_;intro R hR)|(refine hΨ _ ?_;clear hΨ hΨ' Ψ)|refine Q0h ?_))))
 all_goals(refine⟨by simp,⟨_,?_,AV.le_refl _⟩,Q0g (by simp[leH,hget])⟩;simp only[Tryz.results38,resL,ldA,Q0o,go_sem])
def hasN(w:Wl):Nat:=if Q1b w then(OfS w.S 1).b else 0
def Q2h(w:Wl):Nat:=if Q1b w then lg.sumP w.L else 0
def Q1l(w:Wl):Nat:=if Q1b w then X1v w.S else 0
def X5x(w:Wl)(a:Int):Nat:=if a=0 then 0 else if Q1b w then([(OfS w.S a).b,(lg.findP w.L a).p,(lg.findP w.L a).s].sum%WW) else 0
theorem sumP_lt(l:List lg.Hd):lg.sumP l<WW:=by
 unfold lg.sumP
 split
 · rename_i h
   unfold lg.okL at h
   simp only[Bool.and_eq_true,decide_eq_true_eq] at h
   exact h.2.2
 · decide
theorem totalS_lt(L:List Ac):X1v L<WW:=by
 unfold X1v
 split
 · exact Nat.mod_lt _ (by decide)
 · decide
theorem of_lt{w:Wl}(hw:w.ok)(a:Int)(ha:U a):(OfS w.S a).b<WW:=(OfS_ok hw.kl ha).1.2.1
theorem u1:U 1:=by unfold U;decide
theorem Q8x{w:Wl}(hw:w.ok):hasN w<WW:=by
 unfold hasN
 split
 · exact of_lt hw 1 u1
 · decide
theorem Q7r(w:Wl):Q2h w<WW:=by
 unfold Q2h
 split
 · exact sumP_lt _
 · decide
theorem Q6x(w:Wl):Q1l w<WW:=by
 unfold Q1l
 split
 · exact totalS_lt _
 · decide
theorem has_fn(w:Wl)(hw:w.ok):Fn Tryz.prog 28 [wlA w] [] (wN (hasN w)) []:=by
 have f:=X0w true w hw
 have g:=X8b w hw 1
 unfold hasN
 cases e:Q1b w<;>simp only[e,if_true,if_false,Bool.false_eq_true] at f ⊢
 all_goals(refine Q0n Tryz.func28 rfl (by rfl) ?_;simp only[Tryz.ntmps28,List.length_cons,List.length_nil,Nat.reduceAdd,Nat.reduceSub,List.replicate,List.cons_append,List.nil_append])
 all_goals(repeat(any_goals(first|((with_reducible refine Q4u ?_ ?_);rfl;intro K hK;apply Q1o;rfl;rfl;(focus(simp only[go_sem];try rfl));(focus(simp only[go_sem];try rfl));rfl;(first|omega);(first|omega);(first|omega);(simp only[go_sem];rfl);rfl;(focus((simp only[unC,Option.map_some]);(try rfl)));(simp only[go_sem];refine hK _ ?_;clear hK K))|((with_reducible refine Q0i ?_ ?_ ?_);rfl;rfl;intro K hK;((first|(apply Q0b (f);rfl;rfl;rfl;rfl;exact Tryz.func24)|(apply Q0b (g);rfl;rfl;rfl;rfl;exact Tryz.func38));kernel_rfl;rfl;(focus((simp only[go_sem]);(try rfl);done));(first|rfl));(simp only[go_sem];refine hK _ ?_;clear hK K))|((with_reducible refine Q0c ?_ ?_);rfl;intro K hK;simp only[go_sem];((repeat(refine ndI (by first|assumption) ?_));refine hK _ ?_;clear hK K))|(with_reducible first|(refine Q0d ?_;refine hR _ ?_;clear hR R)|((first|refine Q0e ?_);intro Ψ hΨ hΨ')|(refine Q0a ?_;intro R hR)|(refine hΨ _ ?_;clear hΨ hΨ' Ψ)|refine Q0j ?_|refine Q0h ?_)|((with_reducible refine hΨ' _ _ ?_ ?_);(focus(simp;done));clear hΨ hΨ' Ψ)|((with_reducible apply Q0f);rfl;rfl;all_goals(intro hc;first|(cases hc;done)|(try simp only at hc))))))
 all_goals(refine⟨by simp,⟨_,?_,AV.le_refl _⟩,Q0g (by simp[leH,hget])⟩;simp only[Tryz.results28,resL,ldA,Q0o,go_sem])
 all_goals rfl
theorem X6f(w:Wl)(hw:w.ok):Fn Tryz.prog 29 [wlA w] [] (wN (Q2h w)) []:=by
 have f:=X0w true w hw
 have g:=lg.sumF_fn false w.L (Nat.le_trans hw.l.1 (by decide)) hw.l.2
 unfold Q2h
 cases e:Q1b w<;>simp only[e,if_true,if_false,Bool.false_eq_true] at f ⊢
 all_goals(refine Q0n Tryz.func29 rfl (by rfl) ?_;simp only[Tryz.ntmps29,List.length_cons,List.length_nil,Nat.reduceAdd,Nat.reduceSub,List.replicate,List.cons_append,List.nil_append])
 all_goals(repeat(any_goals(first|((with_reducible refine Q4u ?_ ?_);rfl;intro K hK;apply Q1o;rfl;rfl;(focus(simp only[go_sem];try rfl));(focus(simp only[go_sem];try rfl));rfl;(first|omega);(first|omega);(first|omega);(simp only[go_sem];rfl);rfl;(focus((simp only[unC,Option.map_some]);(try rfl)));(simp only[go_sem];refine hK _ ?_;clear hK K))|((with_reducible refine Q0i ?_ ?_ ?_);rfl;rfl;intro K hK;((first|(apply Q0b (f);rfl;rfl;rfl;rfl;exact Tryz.func24)|(apply Q0b (g);rfl;rfl;rfl;rfl;exact Tryz.func64));kernel_rfl;rfl;(focus((simp only[go_sem]);(try rfl);done));(first|rfl));(simp only[go_sem];refine hK _ ?_;clear hK K))|((with_reducible refine Q0c ?_ ?_);rfl;intro K hK;simp only[go_sem];((repeat(refine ndI (by first|assumption) ?_));refine hK _ ?_;clear hK K))|(with_reducible first|(refine Q0d ?_;refine hR _ ?_;clear hR R)|((first|refine Q0e ?_);intro Ψ hΨ hΨ')|(refine Q0a ?_;intro R hR)|(refine hΨ _ ?_;clear hΨ hΨ' Ψ)|refine Q0j ?_|refine Q0h ?_)|((with_reducible refine hΨ' _ _ ?_ ?_);(focus(simp;done));clear hΨ hΨ' Ψ)|((with_reducible apply Q0f);rfl;rfl;all_goals(intro hc;first|(cases hc;done)|(try simp only at hc))))))
 all_goals(refine⟨by simp,⟨_,?_,AV.le_refl _⟩,Q0g (by simp[leH,hget])⟩;simp only[Tryz.results29,resL,ldA,Q0o,go_sem])
 all_goals rfl
theorem X0e(w:Wl)(hw:w.ok):Fn Tryz.prog 15 [wlA w] [] (wN (Q1l w)) []:=by
 have f:=X0w true w hw
 have g:=totalS_fn false w.S hw.kl
 unfold Q1l
 cases e:Q1b w<;>simp only[e,if_true,if_false,Bool.false_eq_true] at f ⊢
 all_goals(refine Q0n Tryz.func15 rfl (by rfl) ?_;simp only[Tryz.ntmps15,List.length_cons,List.length_nil,Nat.reduceAdd,Nat.reduceSub,List.replicate,List.cons_append,List.nil_append])
 all_goals(repeat(any_goals(first|((with_reducible refine Q4u ?_ ?_);rfl;intro K hK;apply Q1o;rfl;rfl;(focus(simp only[go_sem];try rfl));(focus(simp only[go_sem];try rfl));rfl;(first|omega);(first|omega);(first|omega);(simp only[go_sem];rfl);rfl;(focus((simp only[unC,Option.map_some]);(try rfl)));(simp only[go_sem];refine hK _ ?_;clear hK K))|((with_reducible refine Q0i ?_ ?_ ?_);rfl;rfl;intro K hK;((first|(apply Q0b (f);rfl;rfl;rfl;rfl;exact Tryz.func24)|(apply Q0b (g);rfl;rfl;rfl;rfl;exact Tryz.func54));kernel_rfl;rfl;(focus((simp only[go_sem]);(try rfl);done));(first|rfl));(simp only[go_sem];refine hK _ ?_;clear hK K))|((with_reducible refine Q0c ?_ ?_);rfl;intro K hK;simp only[go_sem];((repeat(refine ndI (by first|assumption) ?_));refine hK _ ?_;clear hK K))|(with_reducible first|(refine Q0d ?_;refine hR _ ?_;clear hR R)|((first|refine Q0e ?_);intro Ψ hΨ hΨ')|(refine Q0a ?_;intro R hR)|(refine hΨ _ ?_;clear hΨ hΨ' Ψ)|refine Q0j ?_|refine Q0h ?_)|((with_reducible refine hΨ' _ _ ?_ ?_);(focus(simp;done));clear hΨ hΨ' Ψ)|((with_reducible apply Q0f);rfl;rfl;all_goals(intro hc;first|(cases hc;done)|(try simp only at hc))))))
 all_goals(refine⟨by simp,⟨_,?_,AV.le_refl _⟩,Q0g (by simp[leH,hget])⟩;simp only[Tryz.results15,resL,ldA,Q0o,go_sem])
 all_goals rfl
end
section
open Go.RowKit
open Nat (reduceBEq)
set_option maxRecDepth 20000
set_option maxHeartbeats 2000000
structure Rp where
 a:Int
 h:Nat
 c:Nat
 g:Int
 k:Bool
 b:Bool
def Rp.ok(r:Rp):Prop:=U r.a∧r.h<WW∧r.c<WW∧U r.g
def Rp.pv(r:Rp):List PV:=[.v (.int .u64 r.a),.v (.int .u64 (l0 r.h)),.v (.int .u64 (l1 r.h)),.v (.int .u64 (l2 r.h)),.v (.int .u64 (l3 r.h)),.v (.int .u64 (l0 r.c)),.v (.int .u64 (l1 r.c)),.v (.int .u64 (l2 r.c)),.v (.int .u64 (l3 r.c)),.v (.int .u64 r.g),.v (.bool r.k),.v (.bool r.b)]
theorem rp_len(r:Rp):r.pv.length=12:=rfl
abbrev rpV(l:List Rp):PV:=.sl false 12 l.length (l.flatMap Rp.pv)
abbrev rsl(ex:Bool)(l:List Rp):AV:=.c (.sl ex 12 l.length (l.flatMap Rp.pv))
abbrev rpA(r:Rp):AV:=.agg [vi .u64 r.a,vi .u64 (l0 r.h),vi .u64 (l1 r.h),vi .u64 (l2 r.h),vi .u64 (l3 r.h),vi .u64 (l0 r.c),vi .u64 (l1 r.c),vi .u64 (l2 r.c),vi .u64 (l3 r.c),vi .u64 r.g,vb r.k,vb r.b]
theorem rp_at{l:List Rp}{i:Nat}{y:Rp}(h:l[i]? = some y):((l.flatMap Rp.pv).drop (i*12)).take 12=[.v (.int .u64 y.a),.v (.int .u64 (l0 y.h)),.v (.int .u64 (l1 y.h)),.v (.int .u64 (l2 y.h)),.v (.int .u64 (l3 y.h)),.v (.int .u64 (l0 y.c)),.v (.int .u64 (l1 y.c)),.v (.int .u64 (l2 y.c)),.v (.int .u64 (l3 y.c)),.v (.int .u64 y.g),.v (.bool y.k),.v (.bool y.b)]:=Q5t (f:=Rp.pv) rp_len h
def csL(l:List Rp):List Nat:=l.map Rp.c
theorem csL_lt{l:List Rp}(ok:∀r∈l,r.ok):∀x∈csL l,x<WW:=fun x hx=>by
 obtain⟨r,hr,rfl⟩:=List.mem_map.1 hx
 exact(ok r hr).2.2.1
abbrev stC(ex:Bool)(l:List Rp)(r:Nat)(out:List Nat)(i:Int):St:=⟨[rsl ex l,.any,.c (.v (.slice none 0 0)),.row r 34 4 out.length,.any,.any,rsl ex l,vi .i64 l.length,vi .i64 i,.any,.any,.any,.any,.any,.any,.any,.any,.any,.any],[(r,rcW out)]⟩
theorem stC_rn(ex:Bool)(l:List Rp)(out:List Nat)(i:Int):(stC ex l 16 out i).to (stC ex l 500 out i):=by
 refine(St.to.rn (fun r=>if r=16 then 500 else r) (fun r=>if r=500 then 16 else r) [16] (by simp[AV.inNL,AV.inN]) (by simp) (by simp[inH,AV.inNL,AV.inN,Q5q]) (by simp) (by simp)).trans (St.to.of_le (St.le_of (by simp[leT,AV.renL,AV.ren]) (by simp[leH,hget,renH,AV.renL,AV.ren,Q4w])))
theorem costs_row(ex:Bool)(l:List Rp)(hl:l.length≤900):Fn Tryz.prog 37 [rsl ex l] [] (.row 500 34 4 l.length) [(500,rcW (csL l))]:=by
 (refine Q0n Tryz.func37 rfl (by rfl) ?_;simp only[Tryz.ntmps37,List.length_cons,List.length_nil,Nat.reduceAdd,Nat.reduceSub,List.replicate,List.cons_append,List.nil_append])
 (repeat(any_goals(first|((with_reducible refine Q0c ?_ ?_);rfl;intro K hK;simp only[go_sem];((repeat(refine ndI (by first|assumption) ?_));refine hK _ ?_;clear hK K))|(with_reducible first|(refine Q0d ?_;refine hR _ ?_;clear hR R)|((first|refine Q0e ?_|refine Q0l ?_);intro Ψ hΨ hΨ')|(refine Q0a ?_;intro R hR)|(refine hΨ _ ?_;clear hΨ hΨ' Ψ)))))
 refine X1e l.length (fun i=>stC ex l 500 ((l.take i).map Rp.c) i) ?_ ?_
 · refine(St.to.nilrow 3 500 34 4 rfl (by simp) (by simp[St.free,Q2i,AV.refs,AV.refsL]) (by omega)).trans (St.to.of_le (St.le_of (by simp[leT]) (by simp[leH,hget,hput,rcW])))
 · intro i hi Ψ hΨ hΨ'
   have k8:l.length<9223372036854775808:=by omega
   have ln:((l.take i).map Rp.c).length≤900:=by rw[List.length_map,List.length_take];omega
   rcases Nat.lt_or_ge i l.length with hlt|hge
   · obtain⟨x,hx⟩:∃x,l[i]? = some x:=⟨_,List.getElem?_eq_getElem hlt⟩
     have k1:(decide ((i:Int)<(l.length:Int)))=true:=decide_eq_true (by omega)
     have k2:=rp_at hx
     have k7:(i:Int)+1=((i+1:Nat):Int):=by omega
     have k3:(l.take (i+1)).map Rp.c=(l.take i).map Rp.c++[x.c]:=by rw[List.take_add_one,hx,List.map_append];rfl
     (try dsimp only at hΨ ⊢)
     rw[k3] at hΨ
     generalize (l.take i).map Rp.c=out at hΨ ln ⊢
     have e1:=Q6i out
     have e2:rcW (out++[x.c])=rcW out++(wpv x.c).map .c:=by unfold rcW;rw[List.flatMap_append];simp[List.flatMap_cons]
     have e3:∀r,AV.refsL r (rcW out)=false:=fun r=>Q0m r _
     (have W:=ndI k1 (ndI k2 (ndI k7 (ndI e1 (ndI e3 @wrI))));(repeat(any_goals(first|((with_reducible refine Q0c ?_ ?_);rfl;intro K hK;simp(disch:=omega) only[go_sem,W];((repeat(refine ndI (by first|assumption|omega|rfl) ?_));refine hK _ ?_;clear hK K))|(with_reducible first|(refine Q0d ?_;refine hR _ ?_;clear hR R)|((first|refine Q0e ?_|refine Q0l ?_);intro Ψ hΨ hΨ')|(refine Q0a ?_;intro R hR)|(refine hΨ _ ?_;clear hΨ hΨ' Ψ)|refine Q0j ?_)|((with_reducible refine hΨ' _ _ ?_ ?_);(focus(simp;done));clear hΨ hΨ' Ψ)|((with_reducible apply Q0f);rfl;rfl;all_goals(intro hc;first|(cases hc;done)|(try simp only at hc)))))))
     all_goals exact hΨ _ hlt (St.to.trans (St.to.of_le (τ:=stC ex l 16 (out++[x.c]) ((i+1:Nat):Int)) (St.le_of (by simp[leT]) (by simp[leH,hget,e2,wpv]))) (stC_rn ex l _ _))
   · have k1:(decide ((i:Int)<(l.length:Int)))=false:=decide_eq_false (by omega)
     rw[List.take_of_length_le hge]
     (try dsimp only)
     (repeat(any_goals(first|((with_reducible refine Q0c ?_ ?_);rfl;intro K hK;simp only[go_sem,k1];((repeat(refine ndI (by first|assumption) ?_));refine hK _ ?_;clear hK K))|(with_reducible first|(refine Q0d ?_;refine hR _ ?_;clear hR R)|((first|refine Q0e ?_);intro Ψ hΨ hΨ')|(refine Q0a ?_;intro R hR)|(refine hΨ _ ?_;clear hΨ hΨ' Ψ)|refine Q0h ?_|refine Q1f ?_)|((with_reducible refine hΨ' _ _ ?_ ?_);(focus(simp;done));clear hΨ hΨ' Ψ)|((with_reducible apply Q0f);rfl;rfl;all_goals(intro hc;first|(cases hc;done)|(try simp only at hc))))))
     exact⟨by simp,⟨_,rfl,by show AV.le (AV.row 500 34 4 (l.map Rp.c).length) _;rw[List.length_map];exact AV.le_refl _⟩,Q0g (by simp[leH,hget,csL])⟩
abbrev twA(n:Nat):AV:=.agg [vb (decide (WW≤n)),vi .u64 (l0 (n%WW)),vi .u64 (l1 (n%WW)),vi .u64 (l2 (n%WW)),vi .u64 (l3 (n%WW))]
theorem X3x(x y:Nat)(hx:x<WW)(hy:y<WW):Fn Tryz.prog 27 [wN x,wN y] [] (twA (x+y)) []:=by
 have f:=X2m x y hx hy
 unfold twA
 generalize (x+y)%WW=m at f ⊢
 generalize decide (WW≤x+y)=q at f ⊢
 (refine Q0n Tryz.func27 rfl (by rfl) ?_;simp only[Tryz.ntmps27,List.length_cons,List.length_nil,Nat.reduceAdd,Nat.reduceSub,List.replicate,List.cons_append,List.nil_append])
 (repeat(any_goals(first|((with_reducible refine Q0i ?_ ?_ ?_);rfl;rfl;intro K hK;((apply Q0b (f);rfl;rfl;rfl;rfl;exact Tryz.func45);kernel_rfl;rfl;(focus((simp only[go_sem]);(try rfl);done));(first|rfl));(simp only[go_sem];refine hK _ ?_;clear hK K))|((with_reducible refine Q0c ?_ ?_);rfl;intro K hK;simp only[go_sem];((repeat(refine ndI (by first|assumption) ?_));refine hK _ ?_;clear hK K))|(with_reducible first|(refine Q0d ?_;refine hR _ ?_;clear hR R)|((first|refine Q0e ?_);intro Ψ hΨ hΨ')|(refine Q0a ?_;intro R hR)|(refine hΨ _ ?_;clear hΨ hΨ' Ψ)|refine Q0h ?_))))
 all_goals(refine⟨by simp,⟨_,?_,AV.le_refl _⟩,Q0g (by simp[leH,hget])⟩;simp only[Tryz.results27,resL,ldA,Q0o,go_sem])
theorem lessT_fn(m n:Nat)(hm:m<2*WW)(hn:n<2*WW):Fn Tryz.prog 26 [twA m,twA n] [] (vb (decide (m<n))) []:=by
 have f:=X7y (m%WW) (n%WW) (Nat.mod_lt _ (by decide)) (Nat.mod_lt _ (by decide))
 have hW:0<WW:=by decide
 unfold twA
 have m1:m%WW=if WW≤m then m-WW else m:=by
  split
  · rw[Nat.mod_eq_sub_mod (by assumption),Nat.mod_eq_of_lt (by omega)]
  · exact Nat.mod_eq_of_lt (by omega)
 have n1:n%WW=if WW≤n then n-WW else n:=by
  split
  · rw[Nat.mod_eq_sub_mod (by assumption),Nat.mod_eq_of_lt (by omega)]
  · exact Nat.mod_eq_of_lt (by omega)
 generalize hx:m%WW=x at f m1 ⊢
 generalize hy:n%WW=y at f n1 ⊢
 generalize WW=W at *
 by_cases h1:W≤m<;>by_cases h2:W≤n
 · have e:decide ((if x<y then(-1:Int) else if y<x then 1 else 0)<0)=decide (m<n):=by
    rw[if_pos h1] at m1
    rw[if_pos h2] at n1
    refine decide_eq_decide.2 ?_
    repeat' split
    all_goals omega
   generalize (if x<y then(-1:Int) else if y<x then 1 else 0)=z at f e
   rw[←e,decide_eq_true h1,decide_eq_true h2]
   (refine Q0n Tryz.func26 rfl (by rfl) ?_;simp only[Tryz.ntmps26,List.length_cons,List.length_nil,Nat.reduceAdd,Nat.reduceSub,List.replicate,List.cons_append,List.nil_append])
   (repeat(any_goals(first|((with_reducible refine Q0i ?_ ?_ ?_);rfl;rfl;intro K hK;((apply Q0b (f);rfl;rfl;rfl;rfl;exact Tryz.func34);kernel_rfl;rfl;(focus((simp only[go_sem,bne_self_eq_false]);(try rfl);done));(first|rfl));(simp only[go_sem,bne_self_eq_false];refine hK _ ?_;clear hK K))|((with_reducible refine Q0c ?_ ?_);rfl;intro K hK;simp only[go_sem,bne_self_eq_false];((repeat(refine ndI (by first|assumption) ?_));refine hK _ ?_;clear hK K))|(with_reducible first|(refine Q0d ?_;refine hR _ ?_;clear hR R)|((first|refine Q0e ?_);intro Ψ hΨ hΨ')|(refine Q0a ?_;intro R hR)|(refine hΨ _ ?_;clear hΨ hΨ' Ψ)|refine Q0j ?_|refine Q0h ?_)|((with_reducible apply Q0f);rfl;rfl;all_goals(intro hc;first|(cases hc;done)|(try simp only at hc))))))
   all_goals(refine⟨by simp,⟨_,?_,AV.le_refl _⟩,Q0g (by simp[leH,hget])⟩;simp only[Tryz.results26,resL,ldA,Q0o,go_sem])
 · rw[decide_eq_false (show ¬m<n by omega),decide_eq_true h1,decide_eq_false h2]
   (refine Q0n Tryz.func26 rfl (by rfl) ?_;simp only[Tryz.ntmps26,List.length_cons,List.length_nil,Nat.reduceAdd,Nat.reduceSub,List.replicate,List.cons_append,List.nil_append])
   (repeat(any_goals(first|((with_reducible refine Q0c ?_ ?_);rfl;intro K hK;simp only[go_sem,bne_self_eq_false];((repeat(refine ndI (by first|assumption) ?_));refine hK _ ?_;clear hK K))|(with_reducible first|(refine Q0d ?_;refine hR _ ?_;clear hR R)|((first|refine Q0e ?_);intro Ψ hΨ hΨ')|(refine Q0a ?_;intro R hR)|(refine hΨ _ ?_;clear hΨ hΨ' Ψ)|refine Q0h ?_)|((with_reducible refine hΨ' _ _ ?_ ?_);(focus(simp;done));clear hΨ hΨ' Ψ)|((with_reducible apply Q0f);rfl;rfl;all_goals(intro hc;first|(cases hc;done)|(try simp only at hc))))))
   all_goals(refine⟨by simp,⟨_,?_,AV.le_refl _⟩,Q0g (by simp[leH,hget])⟩;simp only[Tryz.results26,resL,ldA,Q0o,go_sem])
 · rw[decide_eq_true (show m<n by omega),decide_eq_false h1,decide_eq_true h2]
   (refine Q0n Tryz.func26 rfl (by rfl) ?_;simp only[Tryz.ntmps26,List.length_cons,List.length_nil,Nat.reduceAdd,Nat.reduceSub,List.replicate,List.cons_append,List.nil_append])
   (repeat(any_goals(first|((with_reducible refine Q0c ?_ ?_);rfl;intro K hK;simp only[go_sem,bne_self_eq_false];((repeat(refine ndI (by first|assumption) ?_));refine hK _ ?_;clear hK K))|(with_reducible first|(refine Q0d ?_;refine hR _ ?_;clear hR R)|((first|refine Q0e ?_);intro Ψ hΨ hΨ')|(refine Q0a ?_;intro R hR)|(refine hΨ _ ?_;clear hΨ hΨ' Ψ)|refine Q0h ?_)|((with_reducible refine hΨ' _ _ ?_ ?_);(focus(simp;done));clear hΨ hΨ' Ψ)|((with_reducible apply Q0f);rfl;rfl;all_goals(intro hc;first|(cases hc;done)|(try simp only at hc))))))
   all_goals(refine⟨by simp,⟨_,?_,AV.le_refl _⟩,Q0g (by simp[leH,hget])⟩;simp only[Tryz.results26,resL,ldA,Q0o,go_sem])
 · have e:decide ((if x<y then(-1:Int) else if y<x then 1 else 0)<0)=decide (m<n):=by
    rw[if_neg h1] at m1
    rw[if_neg h2] at n1
    refine decide_eq_decide.2 ?_
    repeat' split
    all_goals omega
   generalize (if x<y then(-1:Int) else if y<x then 1 else 0)=z at f e
   rw[←e,decide_eq_false h1,decide_eq_false h2]
   (refine Q0n Tryz.func26 rfl (by rfl) ?_;simp only[Tryz.ntmps26,List.length_cons,List.length_nil,Nat.reduceAdd,Nat.reduceSub,List.replicate,List.cons_append,List.nil_append])
   (repeat(any_goals(first|((with_reducible refine Q0i ?_ ?_ ?_);rfl;rfl;intro K hK;((apply Q0b (f);rfl;rfl;rfl;rfl;exact Tryz.func34);kernel_rfl;rfl;(focus((simp only[go_sem,bne_self_eq_false]);(try rfl);done));(first|rfl));(simp only[go_sem,bne_self_eq_false];refine hK _ ?_;clear hK K))|((with_reducible refine Q0c ?_ ?_);rfl;intro K hK;simp only[go_sem,bne_self_eq_false];((repeat(refine ndI (by first|assumption) ?_));refine hK _ ?_;clear hK K))|(with_reducible first|(refine Q0d ?_;refine hR _ ?_;clear hR R)|((first|refine Q0e ?_);intro Ψ hΨ hΨ')|(refine Q0a ?_;intro R hR)|(refine hΨ _ ?_;clear hΨ hΨ' Ψ)|refine Q0j ?_|refine Q0h ?_)|((with_reducible apply Q0f);rfl;rfl;all_goals(intro hc;first|(cases hc;done)|(try simp only at hc))))))
   all_goals(refine⟨by simp,⟨_,?_,AV.le_refl _⟩,Q0g (by simp[leH,hget])⟩;simp only[Tryz.results26,resL,ldA,Q0o,go_sem])
end
section
open Go.RowKit Go.MapKept
section
variable {S S':Nat→Prop} {ι : Nat→Nat×Nat×Nat} {w w':World}
end
section
variable {E:Env} {ι : Nat→Nat×Nat×Nat} {σ : St} {a:Act} {w:World} {b clk clk':Nat} {X X':Array MapEntry}
end
section
variable {V:Type}
end
section
variable {P:Program} {o:Oper} {σ : St} {K:St→Prop} {V:Type}
def OpW(p:Env→Prop)(P:Program)(o:Oper)(σ : St)(K:St→Prop):Prop:=
 ∀(E:Env) (ι : Nat→Nat×Nat×Nat) (a:Act) (w:World),p E→Conc E ι σ a w→∀(K':Act→World→Prop) (Q:Exit→Act→World→Prop),(∀ι' σ' a' w',K σ'→Conc E ι' σ' a' w'→K' a' w')→o.wp P a w K' Q
theorem OpA.toW{p:Env→Prop}(h:OpA P o σ K):OpW p P o σ K:=fun E ι a w _ hc=>h E ι a w hc
end
theorem RV.vals{S:Nat→Prop}{ι : Nat→Nat×Nat×Nat}{w:World}{v:Value}{xs:List Value}(h:RV S ι w v (.agg (xs.map fun x=>.c (.v x)))):v = .agg xs.toArray:=by
 cases h with
 |agg us _ hl _ hu=>
  have:us=xs:=by
   refine List.ext_getElem? fun j=>?_
   rw[List.length_map] at hl
   rcases Nat.lt_or_ge j us.length with h|h
   · have h1:=hu j us[j] (.c (.v xs[j])) (List.getElem?_eq_getElem h) (by simp[show j<xs.length by omega])
     rw[List.getElem?_eq_getElem h,List.getElem?_eq_getElem (show j<xs.length by omega),h1.v_inv.1]
   · rw[List.getElem?_eq_none h,List.getElem?_eq_none (by omega)]
  rw[this]
section
variable {P:Program} {o:Oper} {σ : St} {K:St→Prop} {κ : Type}
end
section
variable {p:Env→Prop} {P:Program} {σ : St} {Φ : Exit→St→Prop}
theorem AWE.seqI{x y:Code}(h:∀Ψ : Exit→St→Prop,(∀σ',AWE p P y σ' Φ→Ψ .normal σ')→(∀ex σ',ex≠.normal→Φ ex σ'→Ψ ex σ')→AWE p P x σ Ψ):AWE p P (.seq x y) σ Φ:=
 AWE.seq (h _ (fun _ h=>h) fun ex σ' hne h'=>by
  cases ex with
  |normal=>exact absurd rfl hne
  |_=>exact h')
end
def isMapW(o:Oper):Bool:=match o.op with | .mapUpdate _ _ _ _=>true | .makeMap _ _=>true|_=>false
section
variable {p:Env→Prop} {P:Program} {σ : St} {Φ : Exit→St→Prop}
theorem AWE.ofR{id:Nat}{ops:Array Oper}(h:evC P (.region id ops false) σ Φ):AWE p P (.region id ops false) σ Φ:=AWE.of h
theorem AWE.ofRD{id:Nat}{ops:Array Oper}(h:evC P (.region id ops true) σ Φ):AWE p P (.region id ops true) σ Φ:=AWE.of h
theorem AWE.ofRet(h:Φ .ret σ):AWE p P .ret σ Φ:=AWE.of (Q0h h)
end
theorem AWE.drawJ{p:Env→Prop}{P:Program}{id:Nat}{l:List Oper}{σ0:St}{Φ : Exit→St→Prop}(hm:P.follows .mixedOrders=true)(hback:Q3w l=true)(hgl:Q5g l=true)(J:(Nat→Bool)→St)(h0:σ0.to (J fun _=>false))
 (hE:∀(L:Nat→Bool) (i:Nat) (o:Oper),l[i]? = some o→L i=false→Q3x l L→(∀e∈o.after,Region.binds .any e=true→L e.on=true)→isMapW o=false→∀R:St→Prop,(∀σ',σ'.to (J fun j=>if j=i then true else L j)→R σ')→evL P #[] [o] (J L) R)
 (hW:∀(L:Nat→Bool) (i:Nat) (o:Oper),l[i]? = some o→L i=false→Q3x l L→(∀e∈o.after,Region.binds .any e=true→L e.on=true)→isMapW o=true→OpW p P o (J L) fun σ'=>σ'.to (J fun j=>if j=i then true else L j))
 (hΦ : ∀L,(∀j,j<l.length→L j=true)→Φ .normal (J L)):AWE p P (.region id l.toArray true) σ0 Φ:=by
 intro E ι a w hp hc
 refine wp_region_any hm ?_
 obtain⟨ι0,hc0⟩:=h0 E ι a w hc
 have hd0:=hc0.drawn (w.drawn+1)
 generalize ({w with drawn:=w.drawn+1}:World)=w0 at hd0
 have step:∀(L:Nat→Bool) (i:Nat) (o:Oper),l[i]? = some o→L i=false→Q3x l L→(∀e∈o.after,Region.binds .any e=true→L e.on=true)→OpW p P o (J L) fun σ'=>σ'.to (J fun j=>if j=i then true else L j):=fun L i o h1 h2 h3 h4=>by
  cases hk:isMapW o with
  |true=>exact hW L i o h1 h2 h3 h4 hk
  |false=>
   have hg:o.guard=none:=by
    have:=List.all_eq_true.1 hgl o (List.mem_of_getElem? h1)
    simpa using this
   have:=hE L i o h1 h2 h3 h4 hk _ fun _ h=>h
   unfold evL at this
   rw[hg] at this
   exact OpA.toW this
 have hready:∀(listed:Array Bool) (i:Nat),listed.size=l.length→i∈Region.ready .any l.toArray listed→∃o,l[i]? = some o∧listed.getD i false=false∧∀e∈o.after,Region.binds .any e=true→listed.getD e.on false=true:=fun listed i hsz hi=>Q7n hsz hi
 have key:∀(fuel:Nat) (listed:Array Bool) (a:Act) (w:World) (ι : Nat→Nat×Nat×Nat),listed.size=l.length→Q3x l (fun j=>listed.getD j false)→cntL (fun j=>listed.getD j false) l.length≤fuel →
  Conc E ι (J fun j=>listed.getD j false) a w→wpAny P .any l.toArray (fun ex a' w'=>∃ι' σ',Conc E ι' σ' a' w'∧Φ ex σ') fuel listed a w:=by
  intro fuel
  induction fuel with
  |zero=>
   intro listed a w ι hsz hcl hcnt hc
   have hall:=Q6t (L:=fun j=>listed.getD j false) l.length (by omega)
   refine⟨?_,ι,_,hc,hΦ _ hall⟩
   refine List.eq_nil_iff_forall_not_mem.2 fun i hi=>?_
   obtain⟨o,ho,hu,_⟩:=hready listed i hsz hi
   have:listed.getD i false=true:=hall i (List.getElem?_eq_some_iff.1 ho).1
   rw[hu] at this;cases this
  |succ fuel ih=>
   intro listed a w ι hsz hcl hcnt hc
   refine⟨fun hnil=>⟨ι,_,hc,hΦ _ fun j hj=>?_⟩,fun i hi=>?_⟩
   · refine Classical.byContradiction fun hn=>?_
     have key2:∀m,(∃j,j<m∧j<l.length∧listed.getD j false=false)→∃j,j<l.length∧listed.getD j false=false∧∀k,k<j→listed.getD k false=true:=by
      intro m
      induction m with
      |zero=>rintro ⟨j,hj,_⟩;omega
      |succ m ihm=>
       rintro ⟨j,hj,hjl,hju⟩
       by_cases hlow:∃k,k<m∧k<l.length∧listed.getD k false=false
       · exact ihm hlow
       · refine⟨j,hjl,hju,fun k hk=>Classical.byContradiction fun hku=>hlow ⟨k,by omega,by omega,by simpa using hku⟩⟩
     obtain⟨j,hjl,hju,hlow⟩:=key2 l.length ⟨j,hj,hj,by simpa using hn⟩
     have ho:l[j]? = some l[j]:=List.getElem?_eq_getElem hjl
     have hb:=List.all_eq_true.1 hback j (by simpa using hjl)
     simp only[ho,Array.all_eq_true_iff_forall_mem,Bool.or_eq_true,Bool.not_eq_true',decide_eq_true_eq] at hb
     have hmem:j∈Region.ready .any l.toArray listed:=by
      unfold Region.ready
      rw[List.mem_filter]
      refine⟨by simpa using hjl,?_⟩
      simp only[Bool.and_eq_true,Bool.not_eq_true',List.getElem?_toArray,ho,Option.map_some,Option.getD_some,Array.all_eq_true_iff_forall_mem]
      refine⟨?_,fun e he=>?_⟩
      · simp only[Array.getD,hsz,hjl,dif_pos] at hju ⊢
        exact hju
      · rcases hb e he with h|h
        · simp[h]
        · simp[hlow e.on h]
     rw[hnil] at hmem;cases hmem
   · obtain⟨o,ho,hu,hpre⟩:=hready listed i hsz hi
     have hil:=(List.getElem?_eq_some_iff.1 ho).1
     have hset:∀j,j≠i→(listed.setIfInBounds i true).getD j false=listed.getD j false:=fun j hj=>by
      simp[Array.getD_eq_getD_getElem?,Array.getElem?_setIfInBounds_ne (Ne.symm hj)]
     have hset':(listed.setIfInBounds i true).getD i false=true:=by
      simp[Array.getD,hsz,hil]
     have hcl':Q3x l (fun j=>(listed.setIfInBounds i true).getD j false):=fun j x hx hLj ed hed hb=>by
      by_cases hj:j=i
      · subst hj
        rw[ho] at hx;cases hx
        have:=hpre ed hed hb
        show(listed.setIfInBounds j true).getD ed.on false=true
        by_cases h:ed.on=j
        · rw[h];exact hset'
        · rw[hset _ h];exact this
      · have hLj':listed.getD j false=true:=by rw[←hset j hj];exact hLj
        have:=hcl j x hx hLj' ed hed hb
        show(listed.setIfInBounds i true).getD ed.on false=true
        by_cases h:ed.on=i
        · rw[h];exact hset'
        · rw[hset _ h];exact this
     have hcnt':cntL (fun j=>(listed.setIfInBounds i true).getD j false) l.length≤fuel:=by
      have:=(Q8l (L:=fun j=>listed.getD j false) (L':=fun j=>(listed.setIfInBounds i true).getD j false) hu hset' hset l.length).1 hil
      omega
     have hfun:(fun j=>(listed.setIfInBounds i true).getD j false)=fun j=>if j=i then true else listed.getD j false:=by
      funext j
      by_cases hj:j=i
      · rw[if_pos hj,hj];exact hset'
      · rw[if_neg hj];exact hset j hj
     have hg:o.guard=none:=by
      have:=List.all_eq_true.1 hgl o (List.mem_of_getElem? ho)
      simpa using this
     unfold wpOp
     simp only[List.getElem?_toArray,ho]
     have hw:Region.wanted o (yielded l.toArray a.tmps)=true:=by simp[Region.wanted,hg]
     rw[if_pos hw]
     refine .inl (step _ i o ho hu hcl hpre E ι a w hp hc _ _ fun ι' σ' a' w' hk hc'=>?_)
     obtain⟨ι2,hc2⟩:=hk E ι' a' w' hc'
     exact ih _ a' w' ι2 (by simpa using hsz) hcl' hcnt' (by rw[hfun];exact hc2)
 have hempty:(fun j=>(Array.replicate l.length false).getD j false)=fun _=>false:=by
  funext j
  simp[Array.getD_eq_getD_getElem?,Array.getElem?_replicate]
  split<;>rfl
 have hkey:=key l.length (Array.replicate l.length false) a w0 ι0 (by simp) (by rw[hempty];intro j x hx hL;cases hL) (by
  rw[hempty]
  have:∀k,cntL (fun _=>false) k≤k:=by
   intro k
   induction k with
   |zero=>exact Nat.le_refl _
   |succ k ih=>unfold cntL;split<;>omega
  exact this _) (by rw[hempty];exact hd0)
 simpa using hkey
def ifv(c:Bool)(x:AV):AV:=if c=true then x else .any
theorem Q2a(x:AV):ifv true x=x:=rfl
theorem Fn.known{P:Program}{f:FuncId}{args:List AV}{H0 H1:List (Nat×List AV)}{res:AV}(h:∀E0,FnW (fun E=>E=E0) P f args H0 res H1):Fn P f args H0 res H1:=fun E vs=>h E E vs rfl
end
section
open Go.RowKit
open Nat (reduceBEq)
set_option maxRecDepth 20000
set_option maxHeartbeats 2000000
structure Tn where
 w:Wl
 v:Wl
 r:List Rp
 f:Int
 m:Nat
 b:Nat
structure Tn.ok (t:Tn):Prop where
 w:t.w.ok
 v:t.v.ok
 r:t.r.length≤900∧∀x∈t.r,x.ok
 f:U t.f
 m:t.m<WW
 b:t.b<WW
def Tn.pv(t:Tn):List PV:=[acV t.w.S,hdV t.w.L,noV t.w.N,acV t.v.S,hdV t.v.L,noV t.v.N,rpV t.r,.v (.int .u64 t.f),.v (.int .u64 (l0 t.m)),.v (.int .u64 (l1 t.m)),.v (.int .u64 (l2 t.m)),.v (.int .u64 (l3 t.m)),.v (.int .u64 (l0 t.b)),.v (.int .u64 (l1 t.b)),.v (.int .u64 (l2 t.b)),.v (.int .u64 (l3 t.b))]
abbrev tnA(t:Tn):AV:=.agg [.c (acV t.w.S),.c (hdV t.w.L),.c (noV t.w.N),.c (acV t.v.S),.c (hdV t.v.L),.c (noV t.v.N),.c (rpV t.r),vi .u64 t.f,vi .u64 (l0 t.m),vi .u64 (l1 t.m),vi .u64 (l2 t.m),vi .u64 (l3 t.m),vi .u64 (l0 t.b),vi .u64 (l1 t.b),vi .u64 (l2 t.b),vi .u64 (l3 t.b)]
def brkE(t:Tn):Bool:=decide (hasN t.v+Q2h t.w<hasN t.w+Q2h t.v)
def brkS(t:Tn):Bool:=!decide (Q1l t.v+t.b=Q1l t.w+t.m)
def brkC(t:Tn):Bool:=t.r.any fun r=>decide (r.h<r.c)
def balN(w:Wl)(a:Int):Nat:=(OfS w.S a).b
def brkF(t:Tn):Bool:=!decide (t.f=0)&&(decide (WW≤(csL t.r++[balN t.w t.f]).sum)||decide (balN t.v t.f<(csL t.r++[balN t.w t.f]).sum%WW))
theorem two_eq(w:World)(p q:Bool)(a b c d a' b' c' d':Int):(Op.equal 80 (.agg #[.bool p,.int .u64 a,.int .u64 b,.int .u64 c,.int .u64 d]) (.agg #[.bool q,.int .u64 a',.int .u64 b',.int .u64 c',.int .u64 d'])).run Tryz.prog w = .ok (p==q&&(a==a'&&(b==b'&&(c==c'&&d==d')))) w:=by
 have h1:=fun w=>run_equalIn_agg (P:=Tryz.prog) w 9999 80 #[.bool p,.int .u64 a,.int .u64 b,.int .u64 c,.int .u64 d] #[.bool q,.int .u64 a',.int .u64 b',.int .u64 c',.int .u64 d'] (by kernel_rfl) (by kernel_rfl)
 have h2:Op.maxDepth=9999+1:=rfl
 unfold Op.equal
 rw[h2,h1]
 obtain⟨f1,f2,h3,h4,h5,h6,h7,h8,h9⟩:∃f1 f2:Field,(Tryz.prog.fieldsOf 80).toList=[f1,f2]∧f1.type=4∧f2.type=34∧f1.offset=0∧f2.offset=1∧f1.name = "over"∧f2.name = "rest":=
  ⟨(Tryz.prog.fieldsOf 80).toList.head!,(Tryz.prog.fieldsOf 80).toList.tail.head!,by kernel_rfl,by kernel_rfl,by kernel_rfl,by kernel_rfl,by kernel_rfl,by kernel_rfl,by kernel_rfl⟩
 have hw:=(X3q (P:=Tryz.prog) 3 34 (by kernel_rfl) 9996 4 true w [.int .u64 a,.int .u64 b,.int .u64 c,.int .u64 d] [.int .u64 a',.int .u64 b',.int .u64 c',.int .u64 d'] (a==a'&&(b==b'&&(c==c'&&d==d'))) (by kernel_rfl) (by kernel_rfl) rfl rfl (by simp[eqVs])).1
 have hb:=run_equalIn_bool (P:=Tryz.prog) w 9998 4 p q (by kernel_rfl)
 simp only[vOf,if_true,Nat.reduceAdd] at hw hb
 generalize (a==a'&&(b==b'&&(c==c'&&d==d')))=r at hw ⊢
 rw[h3]
 simp[h4,h5,h6,h7,h8,h9,hw,hb,go_sem]
 by_cases e:p=q<;>cases r<;>simp[e]
theorem two_op{σ : St}{o:Oper}{x y:Operand}{p q:Bool}{a b c d a' b' c' d':Int}(ho:o.op = .binOp .neq 80 x y 80)(hx:Q0k x=true)(hy:Q0k y=true)
 (h1:σ.ev x = .agg [vb p,vi .u64 a,vi .u64 b,vi .u64 c,vi .u64 d]) (h2:σ.ev y = .agg [vb q,vi .u64 a',vi .u64 b',vi .u64 c',vi .u64 d']):OpF Tryz.prog o σ.ev (hget σ.H) (vb (!(p==q&&(a==a'&&(b==b'&&(c==c'&&d==d')))))) [] []:=fun τ hA _=>by
 have e1:τ.ev x = σ.ev x:=hA x (by rw[ho];simp[Op.operands])
 have e2:τ.ev y = σ.ev y:=hA y (by rw[ho];simp[Op.operands])
 refine Q1h _ (by cases o.dst<;>rfl) fun E ι s w h=>?_
 have hxv:=h.ev x hx
 rw[e1,h1] at hxv
 have hyv:=h.ev y hy
 rw[e2,h2] at hyv
 have g1:=RV.vals (xs:=[.bool p,.int .u64 a,.int .u64 b,.int .u64 c,.int .u64 d]) hxv
 have g2:=RV.vals (xs:=[.bool q,.int .u64 a',.int .u64 b',.int .u64 c',.int .u64 d']) hyv
 refine⟨_,?_,Q1z _ rfl⟩
 have hguard:∀x' y',(eqGuard .neq 80 x' y' (s.eval x) (s.eval y)).run Tryz.prog w = .ok () w:=by
  intro x' y'
  rw[g1,g2]
  unfold eqGuard
  have hgu:Tryz.prog.eqGuardType Tryz.prog.depth 80=false:=by kernel_rfl
  simp[hgu]
 have g3:binOp .neq 80 (s.eval x) (s.eval y)=(do pure (.bool (!(←Op.equal 80 (s.eval x) (s.eval y))))):=by rw[g1,g2];rfl
 have heq:=two_eq w p q a b c d a' b' c' d'
 simp only[execOp,ho,Sem.run_bind,hguard,Result.andThen_ok,g3,Sem.run_pure]
 rw[g1,g2]
 simp only[heq,Sem.run_bind,Result.andThen_ok,Sem.run_pure]
theorem brk1_fn(t:Tn)(ht:t.ok):Fn Tryz.prog 25 [.ep t.pv] [] (vb (brkE t)) []:=by
 have f1:=has_fn t.v ht.v
 have f2:=X6f t.w ht.w
 have f3:=has_fn t.w ht.w
 have f4:=X6f t.v ht.v
 have g1:=X3x (hasN t.v) (Q2h t.w) (Q8x ht.v) (Q7r _)
 have g2:=X3x (hasN t.w) (Q2h t.v) (Q8x ht.w) (Q7r _)
 have b1:=Q8x ht.v
 have b2:=Q7r t.w
 have b3:=Q8x ht.w
 have b4:=Q7r t.v
 have g3:=lessT_fn (hasN t.v+Q2h t.w) (hasN t.w+Q2h t.v) (by omega) (by omega)
 clear b1 b2 b3 b4
 unfold brkE
 generalize decide (hasN t.v+Q2h t.w<hasN t.w+Q2h t.v)=q at g3 ⊢
 unfold twA at g1 g2 g3
 generalize decide (WW≤hasN t.v+Q2h t.w)=q1 at g1 g3
 generalize (hasN t.v+Q2h t.w)%WW=m1 at g1 g3
 generalize decide (WW≤hasN t.w+Q2h t.v)=q2 at g2 g3
 generalize (hasN t.w+Q2h t.v)%WW=m2 at g2 g3
 generalize hasN t.v=n1 at f1 g1
 generalize Q2h t.w=n2 at f2 g1
 generalize hasN t.w=n3 at f3 g2
 generalize Q2h t.v=n4 at f4 g2
 unfold Tn.pv
 (refine Q0n Tryz.func25 rfl (by rfl) ?_;simp only[Tryz.ntmps25,List.length_cons,List.length_nil,Nat.reduceAdd,Nat.reduceSub,List.replicate,List.cons_append,List.nil_append])
 (repeat(any_goals(first|((with_reducible refine Q0c ?_ ?_);rfl;intro K hK;simp only[go_sem];((repeat(refine ndI (by first|assumption) ?_));refine hK _ ?_;clear hK K))|(with_reducible first|(refine Q0d ?_;refine hR _ ?_;clear hR R)|((first|refine Q0e ?_);intro Ψ hΨ hΨ')|(refine Q0a ?_;intro R hR)|(refine hΨ _ ?_;clear hΨ hΨ' Ψ)|refine Q0h ?_)|((with_reducible refine Q0v ?_ ?_);kernel_rfl;(with_reducible refine hR _ ?_);clear hR R)|((first|((with_reducible apply Q1c);rfl;rfl;(first|((apply Q0r (g3);rfl;rfl;rfl;rfl;exact Tryz.func26);kernel_rfl;rfl;(focus((simp only[go_sem]);(try rfl);done));(first|rfl))|((apply Q0r (f1);rfl;rfl;rfl;rfl;exact Tryz.func28);kernel_rfl;rfl;(focus((simp only[go_sem]);(try rfl);done));(first|rfl))|((apply Q0r (f2);rfl;rfl;rfl;rfl;exact Tryz.func29);kernel_rfl;rfl;(focus((simp only[go_sem]);(try rfl);done));(first|rfl))|((apply Q0r (f3);rfl;rfl;rfl;rfl;exact Tryz.func28);kernel_rfl;rfl;(focus((simp only[go_sem]);(try rfl);done));(first|rfl))|((apply Q0r (f4);rfl;rfl;rfl;rfl;exact Tryz.func29);kernel_rfl;rfl;(focus((simp only[go_sem]);(try rfl);done));(first|rfl))|((apply Q0r (g1);rfl;rfl;rfl;rfl;exact Tryz.func27);kernel_rfl;rfl;(focus((simp only[go_sem]);(try rfl);done));(first|rfl))|((apply Q0r (g2);rfl;rfl;rfl;rfl;exact Tryz.func27);kernel_rfl;rfl;(focus((simp only[go_sem]);(try rfl);done));(first|rfl))))|((with_reducible apply Q0w);rfl;rfl;(simp only[rdE,rdOf,go_sem];rfl);(intro τ hA hQ hN;((try simp only[Q1a,Op.operands,Call.operands,go_sem,List.mem_cons,List.not_mem_nil,forall_eq_or_imp,forall_eq,List.append_toArray,Option.toArray] at hA);(try simp only[go_sem,List.mem_cons,List.not_mem_nil,forall_eq_or_imp,forall_eq] at hQ hN);(first|(revert hA;intro hA));(first|(revert hQ;intro hQ));(first|(revert hN;intro hN));simp only[go_sem,hA,hQ,hN];(repeat(refine ndI (by first|assumption) ?_));(first|apply Q0z)))));(simp only[St.eff,setO,Q0t,go_sem]))|((with_reducible refine Q0q ?_ ?_ ?_ ?_);kernel_rfl;kernel_rfl;(first|kernel_rfl);intro R hR))))
 all_goals(refine⟨by simp,⟨_,?_,AV.le_refl _⟩,Q0g (by simp[leH,hget])⟩;simp only[Tryz.results25,resL,ldA,Q0o,go_sem])
theorem brk2_fn(t:Tn)(ht:t.ok):Fn Tryz.prog 30 [.ep t.pv] [] (vb (brkS t)) []:=by
 have f1:=X0e t.v ht.v
 have f2:=X0e t.w ht.w
 have g1:=X3x (Q1l t.v) t.b (Q6x _) ht.b
 have g2:=X3x (Q1l t.w) t.m (Q6x _) ht.m
 have e:(!(decide (WW≤Q1l t.v+t.b)==decide (WW≤Q1l t.w+t.m)&&(l0 ((Q1l t.v+t.b)%WW)==l0 ((Q1l t.w+t.m)%WW)&&(l1 ((Q1l t.v+t.b)%WW)==l1 ((Q1l t.w+t.m)%WW)&&(l2 ((Q1l t.v+t.b)%WW)==l2 ((Q1l t.w+t.m)%WW)&&l3 ((Q1l t.v+t.b)%WW)==l3 ((Q1l t.w+t.m)%WW))))))=brkS t:=by
  unfold brkS
  congr 1
  rw[wN_eq (Nat.mod_lt _ (by decide)) (Nat.mod_lt _ (by decide))]
  have h1:=Q6x t.v
  have h2:=Q6x t.w
  have h3:=ht.b
  have h4:=ht.m
  generalize Q1l t.v=a at *
  generalize Q1l t.w=b at *
  generalize t.b=c at *
  generalize t.m=d at *
  have hW:0<WW:=by decide
  generalize WW=W at *
  have m0:∀x,x<2*W→(W≤x∧x%W=x-W)∨(¬W≤x∧x%W=x):=fun x hx=>by
   by_cases h:W≤x
   · exact .inl ⟨h,by rw[Nat.mod_eq_sub_mod h,Nat.mod_eq_of_lt (by omega)]⟩
   · exact .inr ⟨h,Nat.mod_eq_of_lt (by omega)⟩
  rw[Bool.eq_iff_iff,Bool.and_eq_true,beq_iff_eq,decide_eq_decide,decide_eq_true_eq,decide_eq_true_eq]
  rcases m0 (a+c) (by omega) with⟨h5,m1⟩|⟨h5,m1⟩<;>rcases m0 (b+d) (by omega) with⟨h6,m2⟩|⟨h6,m2⟩<;>rw[m1,m2]<;>exact⟨fun ⟨h7,h8⟩=>by omega,fun h7=>⟨by omega,by omega⟩⟩
 generalize brkS t=q at e ⊢
 unfold twA at g1 g2
 generalize decide (WW≤Q1l t.v+t.b)=q1 at g1 e
 generalize (Q1l t.v+t.b)%WW=m1 at g1 e
 generalize decide (WW≤Q1l t.w+t.m)=q2 at g2 e
 generalize (Q1l t.w+t.m)%WW=m2 at g2 e
 generalize Q1l t.v=n1 at f1 g1
 generalize Q1l t.w=n2 at f2 g2
 unfold Tn.pv
 (refine Q0n Tryz.func30 rfl (by rfl) ?_;simp only[Tryz.ntmps30,List.length_cons,List.length_nil,Nat.reduceAdd,Nat.reduceSub,List.replicate,List.cons_append,List.nil_append])
 (repeat(any_goals(first|((with_reducible refine Q0c ?_ ?_);rfl;intro K hK;simp only[go_sem,e];((repeat(refine ndI (by first|assumption) ?_));refine hK _ ?_;clear hK K))|(with_reducible first|(refine Q0d ?_;refine hR _ ?_;clear hR R)|((first|refine Q0e ?_);intro Ψ hΨ hΨ')|(refine Q0a ?_;intro R hR)|(refine hΨ _ ?_;clear hΨ hΨ' Ψ)|refine Q0h ?_)|((with_reducible refine Q0v ?_ ?_);kernel_rfl;(with_reducible refine hR _ ?_);clear hR R)|((first|((with_reducible apply Q2r);rfl;(apply two_op;rfl;rfl;rfl;rfl;rfl))|((with_reducible apply Q1c);rfl;rfl;(first|((apply Q0r (f1);rfl;rfl;rfl;rfl;exact Tryz.func15);kernel_rfl;rfl;(focus((simp only[go_sem,e]);(try rfl);done));(first|rfl))|((apply Q0r (f2);rfl;rfl;rfl;rfl;exact Tryz.func15);kernel_rfl;rfl;(focus((simp only[go_sem,e]);(try rfl);done));(first|rfl))|((apply Q0r (g1);rfl;rfl;rfl;rfl;exact Tryz.func27);kernel_rfl;rfl;(focus((simp only[go_sem,e]);(try rfl);done));(first|rfl))|((apply Q0r (g2);rfl;rfl;rfl;rfl;exact Tryz.func27);kernel_rfl;rfl;(focus((simp only[go_sem,e]);(try rfl);done));(first|rfl))))|((with_reducible apply Q0w);rfl;rfl;(simp only[rdE,rdOf,go_sem,e];rfl);(intro τ hA hQ hN;((try simp only[Q1a,Op.operands,Call.operands,go_sem,e,go_sem,List.mem_cons,List.not_mem_nil,forall_eq_or_imp,forall_eq,List.append_toArray,Option.toArray] at hA);(try simp only[go_sem,e,List.mem_cons,List.not_mem_nil,forall_eq_or_imp,forall_eq] at hQ hN);(first|(revert hA;intro hA));(first|(revert hQ;intro hQ));(first|(revert hN;intro hN));simp only[go_sem,e,go_sem,hA,hQ,hN];(repeat(refine ndI (by first|assumption) ?_));(first|apply Q0z)))));(simp only[St.eff,setO,Q0t,go_sem,e]))|((with_reducible refine Q0q ?_ ?_ ?_ ?_);kernel_rfl;kernel_rfl;(first|kernel_rfl);intro R hR))))
 all_goals(refine⟨by simp,⟨_,?_,AV.le_refl _⟩,Q0g (by simp[leH,hget])⟩;simp only[Tryz.results30,resL,ldA,Q0o,go_sem])
theorem dear_fn(r:Rp)(hr:r.ok):Fn Tryz.prog 33 [rpA r] [] (vb (decide (r.h<r.c))) []:=by
 have f:=X7y r.c r.h hr.2.2.1 hr.2.1
 have e:decide ((if r.c<r.h then(-1:Int) else if r.h<r.c then 1 else 0)>0)=decide (r.h<r.c):=by
  refine decide_eq_decide.2 ?_
  repeat' split
  all_goals omega
 generalize (if r.c<r.h then(-1:Int) else if r.h<r.c then 1 else 0)=z at f e
 rw[←e]
 (refine Q0n Tryz.func33 rfl (by rfl) ?_;simp only[Tryz.ntmps33,List.length_cons,List.length_nil,Nat.reduceAdd,Nat.reduceSub,List.replicate,List.cons_append,List.nil_append])
 (repeat(any_goals(first|((with_reducible refine Q0i ?_ ?_ ?_);rfl;rfl;intro K hK;((apply Q0b (f);rfl;rfl;rfl;rfl;exact Tryz.func34);kernel_rfl;rfl;(focus((simp only[go_sem]);(try rfl);done));(first|rfl));(simp only[go_sem];refine hK _ ?_;clear hK K))|((with_reducible refine Q0c ?_ ?_);rfl;intro K hK;simp only[go_sem];((repeat(refine ndI (by first|assumption) ?_));refine hK _ ?_;clear hK K))|(with_reducible first|(refine Q0d ?_;refine hR _ ?_;clear hR R)|((first|refine Q0e ?_);intro Ψ hΨ hΨ')|(refine Q0a ?_;intro R hR)|(refine hΨ _ ?_;clear hΨ hΨ' Ψ)|refine Q0h ?_))))
 all_goals(refine⟨by simp,⟨_,?_,AV.le_refl _⟩,Q0g (by simp[leH,hget])⟩;simp only[Tryz.results33,resL,ldA,Q0o,go_sem])
theorem indexR_fn(ex:Bool)(l:List Rp)(hl:l.length≤1000)(ok:∀w∈l,w.ok):Fn Tryz.prog 65 [rsl ex l,.fn 33 []] [] (vi .i64 (ixB (fun r=>decide (r.h<r.c)) l)) []:=by
 obtain⟨tr,htr⟩:∃r:Int,ixB (fun r:Rp=>decide (r.h<r.c)) l=r:=⟨_,rfl⟩
 rw[htr]
 (refine Q0n Tryz.func65 rfl (by rfl) ?_;simp only[Tryz.ntmps65,List.length_cons,List.length_nil,Nat.reduceAdd,Nat.reduceSub,List.replicate,List.cons_append,List.nil_append])
 (repeat(any_goals(first|((with_reducible refine Q0c ?_ ?_);rfl;intro K hK;simp only[go_sem];((repeat(refine ndI (by first|assumption) ?_));refine hK _ ?_;clear hK K))|(with_reducible first|(refine Q0d ?_;refine hR _ ?_;clear hR R)|((first|refine Q0e ?_|refine Q0l ?_);intro Ψ hΨ hΨ')|(refine Q0a ?_;intro R hR)|(refine hΨ _ ?_;clear hΨ hΨ' Ψ)))))
 refine Q5v (α:={i:Nat // i≤l.length∧∀j,j<i→∀n,l[j]? = some n→decide (n.h<n.c)=false}) (fun p=>⟨[rsl ex l,.fn 33 [],.any,.any,.any,.any,rsl ex l,vi .i64 l.length,vi .i64 p.1,.any,.any,.any,.any,.any,.any,.any,.any,.any,.any],[]⟩) (fun p=>l.length-p.1) ⟨0,Nat.zero_le _,fun j hj=>by omega⟩ (St.le_of (by simp[leT]) (by simp[leH,hget])) ?_
 rintro ⟨i,hi,hno⟩ Ψ hΨ hΨ'
 dsimp only at hi hΨ ⊢
 rcases Nat.lt_or_ge i l.length with hlt|hge
 · obtain⟨y,hy⟩:∃y,l[i]? = some y:=⟨l[i],List.getElem?_eq_getElem hlt⟩
   have k1:(decide ((i:Int)<(l.length:Int)))=true:=by simpa using hlt
   have k2:=rp_at hy
   have k7:(i:Int)+1=((i+1:Nat):Int):=by omega
   have pl:=dear_fn y (ok y (List.mem_of_getElem? hy))
   cases hm:decide (y.h<y.c)
   · rw[hm] at pl
     (have W:=ndI k1 (ndI k2 (ndI k7 @wrI));(repeat(any_goals(first|((with_reducible refine Q0i ?_ ?_ ?_);rfl;rfl;intro K hK;((apply Q0b (pl);rfl;rfl;rfl;rfl;exact Tryz.func33);kernel_rfl;rfl;(focus((simp(disch:=omega) only[go_sem,W]);(try rfl);done));(first|rfl));(simp(disch:=omega) only[go_sem,W];refine hK _ ?_;clear hK K))|((with_reducible refine Q0c ?_ ?_);rfl;intro K hK;simp(disch:=omega) only[go_sem,W];((repeat(refine ndI (by first|assumption|omega|rfl) ?_));refine hK _ ?_;clear hK K))|(with_reducible first|(refine Q0d ?_;refine hR _ ?_;clear hR R)|((first|refine Q0e ?_|refine Q0l ?_);intro Ψ hΨ hΨ')|(refine Q0a ?_;intro R hR)|(refine hΨ _ ?_;clear hΨ hΨ' Ψ)|refine Q0j ?_)|((with_reducible refine hΨ' _ _ ?_ ?_);(focus(simp;done));clear hΨ hΨ' Ψ)|((with_reducible apply Q0f);rfl;rfl;all_goals(intro hc;first|(cases hc;done)|(try simp only at hc)))))))
     refine hΨ _ ⟨i+1,hlt,fun j hj n hn=>?_⟩ (by simp only;omega) (St.le_of (by simp[leT]) (by simp[leH,hget]))
     rcases Nat.lt_or_ge j i with h'|h'
     · exact hno j h' n hn
     · obtain rfl:j=i:=by omega
       rw[hy] at hn;cases hn;exact hm
   · rw[hm] at pl
     have hp:=ixB_at (p:=fun r:Rp=>decide (r.h<r.c)) hno hy hm
     rw[hp] at htr
     (have W:=ndI k1 (ndI k2 (ndI k7 @wrI));(repeat(any_goals(first|((with_reducible refine Q0i ?_ ?_ ?_);rfl;rfl;intro K hK;((apply Q0b (pl);rfl;rfl;rfl;rfl;exact Tryz.func33);kernel_rfl;rfl;(focus((simp(disch:=omega) only[go_sem,W]);(try rfl);done));(first|rfl));(simp(disch:=omega) only[go_sem,W];refine hK _ ?_;clear hK K))|((with_reducible refine Q0c ?_ ?_);rfl;intro K hK;simp(disch:=omega) only[go_sem,W];((repeat(refine ndI (by first|assumption|omega|rfl) ?_));refine hK _ ?_;clear hK K))|(with_reducible first|(refine Q0d ?_;refine hR _ ?_;clear hR R)|((first|refine Q0e ?_|refine Q0l ?_);intro Ψ hΨ hΨ')|(refine Q0a ?_;intro R hR)|(refine hΨ _ ?_;clear hΨ hΨ' Ψ)|refine Q0j ?_|refine Q0h ?_)|((with_reducible refine hΨ' _ _ ?_ ?_);(focus(simp;done));clear hΨ hΨ' Ψ)|((with_reducible apply Q0f);rfl;rfl;all_goals(intro hc;first|(cases hc;done)|(try simp only at hc)))))))
     all_goals(refine⟨by simp,⟨_,?_,AV.le_refl _⟩,Q0g (by simp[leH,hget])⟩;simp only[Tryz.results65,resL,ldA,Q0o,go_sem])
     all_goals rw[htr]
 · have k1:(decide ((i:Int)<(l.length:Int)))=false:=by simpa using hge
   have hp:=X7t (p:=fun r:Rp=>decide (r.h<r.c)) (l:=l) fun j hj=>hno j (by omega)
   rw[hp] at htr
   (repeat(any_goals(first|((with_reducible refine Q0c ?_ ?_);rfl;intro K hK;simp only[go_sem,k1];((repeat(refine ndI (by first|assumption) ?_));refine hK _ ?_;clear hK K))|(with_reducible first|(refine Q0d ?_;refine hR _ ?_;clear hR R)|((first|refine Q0e ?_);intro Ψ hΨ hΨ')|(refine Q0a ?_;intro R hR)|(refine hΨ _ ?_;clear hΨ hΨ' Ψ)|refine Q0h ?_|refine Q1f ?_)|((with_reducible refine hΨ' _ _ ?_ ?_);(focus(simp;done));clear hΨ hΨ' Ψ)|((with_reducible apply Q0f);rfl;rfl;all_goals(intro hc;first|(cases hc;done)|(try simp only at hc))))))
   all_goals(refine⟨by simp,⟨_,?_,AV.le_refl _⟩,Q0g (by simp[leH,hget])⟩;simp only[Tryz.results65,resL,ldA,Q0o,go_sem])
   all_goals rw[←htr]
theorem X5r(ex:Bool)(l:List Rp)(hl:l.length≤1000)(ok:∀w∈l,w.ok):Fn Tryz.prog 32 [rsl ex l,.fn 33 []] [] (vb (l.any fun r=>decide (r.h<r.c))) []:=by
 have f:=indexR_fn ex l hl ok
 have e:=ixB_any (fun r:Rp=>decide (r.h<r.c)) l
 (refine Q0n Tryz.func32 rfl (by rfl) ?_;simp only[Tryz.ntmps32,List.length_cons,List.length_nil,Nat.reduceAdd,Nat.reduceSub,List.replicate,List.cons_append,List.nil_append])
 (repeat(any_goals(first|((with_reducible refine Q0i ?_ ?_ ?_);rfl;rfl;intro K hK;((apply Q0b (f);rfl;rfl;rfl;rfl;exact Tryz.func65);kernel_rfl;rfl;(focus((simp only[go_sem,e]);(try rfl);done));(first|rfl));(simp only[go_sem,e];refine hK _ ?_;clear hK K))|((with_reducible refine Q0c ?_ ?_);rfl;intro K hK;simp only[go_sem,e];((repeat(refine ndI (by first|assumption) ?_));refine hK _ ?_;clear hK K))|(with_reducible first|(refine Q0d ?_;refine hR _ ?_;clear hR R)|((first|refine Q0e ?_);intro Ψ hΨ hΨ')|(refine Q0a ?_;intro R hR)|(refine hΨ _ ?_;clear hΨ hΨ' Ψ)|refine Q0h ?_))))
 all_goals(refine⟨by simp,⟨_,?_,AV.le_refl _⟩,Q0g (by simp[leH,hget])⟩;simp only[Tryz.results32,resL,ldA,Q0o,go_sem])
theorem brk3_fn(t:Tn)(ht:t.ok):Fn Tryz.prog 31 [.ep t.pv] [] (vb (brkC t)) []:=by
 have f:=X5r false t.r (Nat.le_trans ht.r.1 (by decide)) ht.r.2
 unfold brkC
 generalize (t.r.any fun r=>decide (r.h<r.c))=q at f ⊢
 unfold Tn.pv
 (refine Q0n Tryz.func31 rfl (by rfl) ?_;simp only[Tryz.ntmps31,List.length_cons,List.length_nil,Nat.reduceAdd,Nat.reduceSub,List.replicate,List.cons_append,List.nil_append])
 (repeat(any_goals(first|((with_reducible refine Q0i ?_ ?_ ?_);rfl;rfl;intro K hK;((apply Q0b (f);rfl;rfl;rfl;rfl;exact Tryz.func32);kernel_rfl;rfl;(focus((simp only[go_sem]);(try rfl);done));(first|rfl));(simp only[go_sem];refine hK _ ?_;clear hK K))|((with_reducible refine Q0c ?_ ?_);rfl;intro K hK;simp only[go_sem];((repeat(refine ndI (by first|assumption) ?_));refine hK _ ?_;clear hK K))|(with_reducible first|(refine Q0d ?_;refine hR _ ?_;clear hR R)|((first|refine Q0e ?_);intro Ψ hΨ hΨ')|(refine Q0a ?_;intro R hR)|(refine hΨ _ ?_;clear hΨ hΨ' Ψ)|refine Q0h ?_))))
 all_goals(refine⟨by simp,⟨_,?_,AV.le_refl _⟩,Q0g (by simp[leH,hget])⟩;simp only[Tryz.results31,resL,ldA,Q0o,go_sem])
end
end Go.Proofs.YtbmcdemnnbndeaaGreatDoor
