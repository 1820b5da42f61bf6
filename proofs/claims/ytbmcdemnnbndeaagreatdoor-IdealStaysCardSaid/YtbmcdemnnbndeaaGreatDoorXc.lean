/-
  What moves and deeds leave; what the entry point does for others breaks nothing. Plain.
-/
import Derived.Test.YtbmcdemnnbndeaaGreatDoorIe
import Derived.Test.YtbmcdemnnbndeaaGreatDoorLb
import Derived.Test.YtbmcdemnnbndeaaGreatDoorAvCe
import Derived.Test.YtbmcdemnnbndeaaGreatDoorAvF
import Derived.Lib.BytesEntry
import Derived.Laws.BytesArg
import Derived.Laws.Externs
import Derived.Shelf.Bytes.SlCountOne
import Derived.Test.YtbmcdemnnbndeaaGreatDoorLf
import Derived.Test.YtbmcdemnnbndeaaGreatDoorAvW
namespace Go.Proofs.YtbmcdemnnbndeaaGreatDoor
set_option linter.unusedSimpArgs false
set_option linter.unusedVariables false
section
open Go.RowKit
open Nat (reduceBEq)
set_option maxRecDepth 20000
set_option maxHeartbeats 4000000
theorem balN_lt{w:Wl}(hw:w.ok){a:Int}(ha:U a):balN w a<WW:=(OfS_ok hw.kl ha).1.2.1
theorem frz_ifv(d:Nat)(p:List PV)(b:Bool)(v:AV):AV.frz d p (ifv b v)=ifv b (AV.frz d p v):=by cases b<;>rfl
theorem Q1r(v:AV):ifv false v = .any:=rfl
theorem Q7m(d:Nat)(b:Bool)(v:AV):AV.refs d (ifv b v)=(b&&AV.refs d v):=by cases b<;>rfl
def hh(a b c d:Bool)(X W:List AV):List (Nat×List AV):=(if a && !b then[(7,X)] else[])++(if c then[(2,if d then W else[vi .u64 0,vi .u64 0,vi .u64 0,vi .u64 0])] else[])
abbrev JF(t:Tn)(X:List AV)(cW:List PV)(s n1:Nat)(q:Bool)(L:Nat→Bool):St:=⟨[.ep [acV t.w.S,hdV t.w.L,noV t.w.N,acV t.v.S,hdV t.v.L,noV t.v.N,rpV t.r,.v (.int .u64 t.f),.v (.int .u64 (l0 t.m)),.v (.int .u64 (l1 t.m)),.v (.int .u64 (l2 t.m)),.v (.int .u64 (l3 t.m)),.v (.int .u64 (l0 t.b)),.v (.int .u64 (l1 t.b)),.v (.int .u64 (l2 t.b)),.v (.int .u64 (l3 t.b))],vb false,ifv (L 14) (.ptr 2 0),ifv (L 16) (vb q),ifv (L 11) (.tup [wN s,vb q]),ifv (L 0) (.ep [rpV t.r,.v (.int .u64 t.f),.v (.int .u64 (l0 t.m)),.v (.int .u64 (l1 t.m)),.v (.int .u64 (l2 t.m)),.v (.int .u64 (l3 t.m)),.v (.int .u64 (l0 t.b)),.v (.int .u64 (l1 t.b)),.v (.int .u64 (l2 t.b)),.v (.int .u64 (l3 t.b))]),ifv (L 1) (.c (rpV t.r)),ifv (L 2 && !L 9) (.row 7 34 4 t.r.length),ifv (L 3) (.ep [acV t.w.S,hdV t.w.L,noV t.w.N,acV t.v.S,hdV t.v.L,noV t.v.N,rpV t.r,.v (.int .u64 t.f),.v (.int .u64 (l0 t.m)),.v (.int .u64 (l1 t.m)),.v (.int .u64 (l2 t.m)),.v (.int .u64 (l3 t.m)),.v (.int .u64 (l0 t.b)),.v (.int .u64 (l1 t.b)),.v (.int .u64 (l2 t.b)),.v (.int .u64 (l3 t.b))]),ifv (L 4) (.agg [.c (acV t.w.S),.c (hdV t.w.L),.c (noV t.w.N)]),ifv (L 5) (.ep [.v (.int .u64 t.f),.v (.int .u64 (l0 t.m)),.v (.int .u64 (l1 t.m)),.v (.int .u64 (l2 t.m)),.v (.int .u64 (l3 t.m)),.v (.int .u64 (l0 t.b)),.v (.int .u64 (l1 t.b)),.v (.int .u64 (l2 t.b)),.v (.int .u64 (l3 t.b))]),ifv (L 6) (vi .u64 t.f),ifv (L 7) (wN n1),ifv (L 8) (.c (.sl true 4 1 [.v (.int .u64 (l0 n1)),.v (.int .u64 (l1 n1)),.v (.int .u64 (l2 n1)),.v (.int .u64 (l3 n1))])),ifv (L 9) (.c (.sl false 4 (t.r.length+1) cW)),ifv (L 10) (.tup [wN s,vb q]),ifv (L 12) (wN s),ifv (L 13) (vb q),.any,.any,.any,.any,.any,.any,.any,.any,.any,.any,.any,.any,.any,.any,.any,.any],hh (L 2) (L 9) (L 14) (L 15) X [vi .u64 (l0 s),vi .u64 (l1 s),vi .u64 (l2 s),vi .u64 (l3 s)]⟩
theorem brk4_fn(t:Tn)(ht:t.ok):Fn Tryz.prog 35 [.ep t.pv] [] (vb (brkF t)) []:=by
 have f1:=costs_row false t.r ht.r.1
 have f2:=X8b t.w ht.w t.f
 have f3:=X8b t.v ht.v t.f
 have cl:∀x∈csL t.r++[balN t.w t.f],x<WW:=fun x hx=>by
  rcases List.mem_append.1 hx with h|h
  · exact csL_lt ht.r.2 x h
  · rw[List.mem_singleton.1 h];exact balN_lt ht.w ht.f
 have ll:(csL t.r++[balN t.w t.f]).length=t.r.length+1:=by unfold csL;simp
 have sm:=X0f false (csL t.r++[balN t.w t.f]) (by rw[ll];have:=ht.r.1;omega) cl
 have cm:=X7y (balN t.v t.f) ((csL t.r++[balN t.w t.f]).sum%WW) (balN_lt ht.v ht.f) (Nat.mod_lt _ (by decide))
 have e1:(rcW (csL t.r)).length=t.r.length*4:=by rw[Q6i];unfold csL;rw[List.length_map]
 have e2:rcW (csL t.r++[balN t.w t.f])=rcW (csL t.r)++(wpv (balN t.w t.f)).map .c:=by unfold rcW;rw[List.flatMap_append];simp[List.flatMap_cons]
 have e3:∀r,AV.refsL r (rcW (csL t.r))=false:=fun r=>Q0m r _
 have e5:rcW (csL t.r)++[vi .u64 (l0 (balN t.w t.f)),vi .u64 (l1 (balN t.w t.f)),vi .u64 (l2 (balN t.w t.f)),vi .u64 (l3 (balN t.w t.f))]=((csL t.r++[balN t.w t.f]).flatMap wpv).map AV.c:=e2.symm
 have e8:((csL t.r++[balN t.w t.f]).flatMap wpv).length=(t.r.length+1)*4:=by rw[Q0u Q4n,ll]
 unfold wsl at sm
 rw[ll] at sm
 have e6:decide ((if balN t.v t.f<(csL t.r++[balN t.w t.f]).sum%WW then(-1:Int) else if (csL t.r++[balN t.w t.f]).sum%WW<balN t.v t.f then 1 else 0)<0)=decide (balN t.v t.f<(csL t.r++[balN t.w t.f]).sum%WW):=by
  refine decide_eq_decide.2 ?_
  repeat' split
  all_goals omega
 have h900:=ht.r.1
 have e7:brkF t=(!decide (t.f=0)&&(decide (WW≤(csL t.r++[balN t.w t.f]).sum)||decide (balN t.v t.f<(csL t.r++[balN t.w t.f]).sum%WW))):=rfl
 rw[←e6] at e7
 rw[e7]
 clear e7 e6 cl ll e2
 generalize (if balN t.v t.f<(csL t.r++[balN t.w t.f]).sum%WW then(-1:Int) else if (csL t.r++[balN t.w t.f]).sum%WW<balN t.v t.f then 1 else 0)=z at cm ⊢
 generalize decide (WW≤(csL t.r++[balN t.w t.f]).sum)=q at sm ⊢
 generalize (csL t.r++[balN t.w t.f]).sum%WW=s at sm cm
 generalize (csL t.r++[balN t.w t.f]).flatMap wpv=cW at sm e5 e8
 unfold balN at cm e5
 generalize (OfS t.v.S t.f).b=n2 at f3 cm
 generalize (OfS t.w.S t.f).b=n1 at f2 e5
 have e9:∀r,AV.renL r (rcW (csL t.r))=rcW (csL t.r):=fun r=>Q0p r _
 have e10:∀r,AV.inNL r (rcW (csL t.r))=true:=fun r=>Q0x r _
 generalize rcW (csL t.r)=X at f1 e1 e3 e5 e9 e10
 unfold Tn.pv
 refine Fn.known fun E0=>?_
 (refine fnW_of Tryz.func35 rfl (by rfl) ?_;simp only[Tryz.ntmps35,List.length_cons,List.length_nil,Nat.reduceAdd,Nat.reduceSub,List.replicate,List.cons_append,List.nil_append])
 (repeat(any_goals(first|((with_reducible refine Q0c ?_ ?_);rfl;intro K hK;simp only[go_sem];((repeat(refine ndI (by first|assumption) ?_));refine hK _ ?_;clear hK K))|((with_reducible first|refine AWE.seqI ?_);intro Ψ hΨ hΨ')|(with_reducible refine AWE.ofR ?_)|(with_reducible first|(refine Q0d ?_;refine hR _ ?_;clear hR R)|(refine Q0a ?_;intro R hR)|(refine hΨ _ ?_;clear hΨ hΨ' Ψ)))))
 refine AWE.drawJ (by kernel_rfl) (by kernel_rfl) (by kernel_rfl) (JF t X cW s n1 q) (St.to.of_le (St.le_of (by simp[leT,ifv]) (by simp[leH,hget,hh]))) ?_ ?_ ?_
 · intro L i x hx hu hcl hpre hn R hR
   have hi:i=0∨i=1∨i=2∨i=3∨i=4∨i=5∨i=6∨i=7∨i=8∨i=9∨i=10∨i=11∨i=12∨i=13∨i=14∨i=15∨i=16:=by
    have:=(List.getElem?_eq_some_iff.1 hx).1
    simp only[List.length_cons,List.length_nil] at this
    omega
   rcases hi with rfl|rfl|rfl|rfl|rfl|rfl|rfl|rfl|rfl|rfl|rfl|rfl|rfl|rfl|rfl|rfl|rfl
   all_goals simp only[List.getElem?_cons_succ,List.getElem?_cons_zero,Option.some.injEq] at hx
   all_goals subst hx
   all_goals simp only[JF,Nat.reduceEqDiff,if_false,if_true,hu] at hR ⊢
   · (try simp only[Q2a,Q1r,Bool.and_true,Bool.true_and,Bool.not_false,Bool.not_true,Bool.false_and,Bool.and_false] at hR ⊢)
     generalize hh (L 2) (L 9) (L 14) (L 15) X [vi .u64 (l0 s),vi .u64 (l1 s),vi .u64 (l2 s),vi .u64 (l3 s)]=H at hR ⊢
     (repeat(any_goals(first|((with_reducible refine Q0c ?_ ?_);rfl;intro K hK;simp only[go_sem];((repeat(refine ndI (by first|assumption) ?_));refine hK _ ?_;clear hK K))|(with_reducible first|(refine Q0d ?_;refine hR _ ?_;clear hR R)))))
     exact St.to.of_le ⟨Q1t (by simp[leT,ifv]),Q3q (by simp[leT,ifv]),fun _ _ h=>h⟩
   · have g0:L 0=true:=hpre ⟨0,.data⟩ (by simp) rfl
     (try simp only[g0,Q2a,Q1r,Bool.and_true,Bool.true_and,Bool.not_false,Bool.not_true,Bool.false_and,Bool.and_false] at hR ⊢)
     generalize hh (L 2) (L 9) (L 14) (L 15) X [vi .u64 (l0 s),vi .u64 (l1 s),vi .u64 (l2 s),vi .u64 (l3 s)]=H at hR ⊢
     (repeat(any_goals(first|((with_reducible refine Q0c ?_ ?_);rfl;intro K hK;simp only[go_sem];((repeat(refine ndI (by first|assumption) ?_));refine hK _ ?_;clear hK K))|(with_reducible first|(refine Q0d ?_;refine hR _ ?_;clear hR R)))))
     exact St.to.of_le ⟨Q1t (by simp[leT,ifv,g0]),Q3q (by simp[leT,ifv,g0]),fun _ _ h=>h⟩
   · have g1:L 1=true:=hpre ⟨1,.data⟩ (by simp) rfl
     cases h7:L 9<;>cases h8:L 14<;>cases h9:L 15
     all_goals(try simp only[h7,h8,h9,hu,hh,List.nil_append,List.cons_append,List.append_nil,if_true,if_false,Bool.false_eq_true,g1,Q2a,Q1r,Bool.and_true,Bool.true_and,Bool.not_false,Bool.not_true,Bool.false_and,Bool.and_false] at hR ⊢)
     all_goals(have W:=ndI e9 (ndI e10 e3);(repeat(any_goals(first|((with_reducible refine Q0i ?_ ?_ ?_);rfl;rfl;intro K hK;(apply Q0y (f1) (fun r=>7);rfl;rfl;rfl;rfl;exact Tryz.func37;kernel_rfl;rfl;rfl;(intro r hr q hq h;simp only[List.map_cons,List.map_nil,List.cons_append,List.nil_append,List.mem_cons,List.not_mem_nil,or_false] at hr hq;(try dsimp only at h);first|omega);(simp only[Q1e,Q1y,AV.ren,AV.renL,Q0p,List.mem_cons,List.not_mem_nil,forall_eq_or_imp,forall_eq,Q1v,List.contains_cons,List.contains_nil,AV.refsL,AV.refs,Q0m,AV.inN,AV.inNL,inH,Q0x,go_sem,W,Q7m,Bool.and_false]));(simp only[Q0t,Q1w,renH,AV.ren,AV.renL,Q0p,go_sem,W,Q7m,Bool.and_false];refine hK _ ?_;clear hK K))|(with_reducible first|(refine Q0d ?_;refine hR _ ?_;clear hR R))))))
     all_goals exact St.to.of_le (St.le_of (by simp[leT,ifv,h7,h8,h9]) (by simp[leH,hget,hh,h7,h8,h9]))
   · (try simp only[Q2a,Q1r,Bool.and_true,Bool.true_and,Bool.not_false,Bool.not_true,Bool.false_and,Bool.and_false] at hR ⊢)
     generalize hh (L 2) (L 9) (L 14) (L 15) X [vi .u64 (l0 s),vi .u64 (l1 s),vi .u64 (l2 s),vi .u64 (l3 s)]=H at hR ⊢
     (repeat(any_goals(first|((with_reducible refine Q0c ?_ ?_);rfl;intro K hK;simp only[go_sem];((repeat(refine ndI (by first|assumption) ?_));refine hK _ ?_;clear hK K))|(with_reducible first|(refine Q0d ?_;refine hR _ ?_;clear hR R)))))
     exact St.to.of_le ⟨Q1t (by simp[leT,ifv]),Q3q (by simp[leT,ifv]),fun _ _ h=>h⟩
   · have g3:L 3=true:=hpre ⟨3,.data⟩ (by simp) rfl
     (try simp only[g3,Q2a,Q1r,Bool.and_true,Bool.true_and,Bool.not_false,Bool.not_true,Bool.false_and,Bool.and_false] at hR ⊢)
     generalize hh (L 2) (L 9) (L 14) (L 15) X [vi .u64 (l0 s),vi .u64 (l1 s),vi .u64 (l2 s),vi .u64 (l3 s)]=H at hR ⊢
     (repeat(any_goals(first|((with_reducible refine Q0c ?_ ?_);rfl;intro K hK;simp only[go_sem];((repeat(refine ndI (by first|assumption) ?_));refine hK _ ?_;clear hK K))|(with_reducible first|(refine Q0d ?_;refine hR _ ?_;clear hR R)))))
     exact St.to.of_le ⟨Q1t (by simp[leT,ifv,g3]),Q3q (by simp[leT,ifv,g3]),fun _ _ h=>h⟩
   · (try simp only[Q2a,Q1r,Bool.and_true,Bool.true_and,Bool.not_false,Bool.not_true,Bool.false_and,Bool.and_false] at hR ⊢)
     generalize hh (L 2) (L 9) (L 14) (L 15) X [vi .u64 (l0 s),vi .u64 (l1 s),vi .u64 (l2 s),vi .u64 (l3 s)]=H at hR ⊢
     (repeat(any_goals(first|((with_reducible refine Q0c ?_ ?_);rfl;intro K hK;simp only[go_sem];((repeat(refine ndI (by first|assumption) ?_));refine hK _ ?_;clear hK K))|(with_reducible first|(refine Q0d ?_;refine hR _ ?_;clear hR R)))))
     exact St.to.of_le ⟨Q1t (by simp[leT,ifv]),Q3q (by simp[leT,ifv]),fun _ _ h=>h⟩
   · have g5:L 5=true:=hpre ⟨5,.data⟩ (by simp) rfl
     (try simp only[g5,Q2a,Q1r,Bool.and_true,Bool.true_and,Bool.not_false,Bool.not_true,Bool.false_and,Bool.and_false] at hR ⊢)
     generalize hh (L 2) (L 9) (L 14) (L 15) X [vi .u64 (l0 s),vi .u64 (l1 s),vi .u64 (l2 s),vi .u64 (l3 s)]=H at hR ⊢
     (repeat(any_goals(first|((with_reducible refine Q0c ?_ ?_);rfl;intro K hK;simp only[go_sem];((repeat(refine ndI (by first|assumption) ?_));refine hK _ ?_;clear hK K))|(with_reducible first|(refine Q0d ?_;refine hR _ ?_;clear hR R)))))
     exact St.to.of_le ⟨Q1t (by simp[leT,ifv,g5]),Q3q (by simp[leT,ifv,g5]),fun _ _ h=>h⟩
   · have g4:L 4=true:=hpre ⟨4,.data⟩ (by simp) rfl
     have g6:L 6=true:=hpre ⟨6,.data⟩ (by simp) rfl
     (try simp only[g4,g6,Q2a,Q1r,Bool.and_true,Bool.true_and,Bool.not_false,Bool.not_true,Bool.false_and,Bool.and_false] at hR ⊢)
     generalize hh (L 2) (L 9) (L 14) (L 15) X [vi .u64 (l0 s),vi .u64 (l1 s),vi .u64 (l2 s),vi .u64 (l3 s)]=H at hR ⊢
     (repeat(any_goals(first|((with_reducible refine Q0i ?_ ?_ ?_);rfl;rfl;intro K hK;((apply Q0b (f2);rfl;rfl;rfl;rfl;exact Tryz.func38);kernel_rfl;rfl;(focus((simp only[go_sem]);(try rfl);done));(first|rfl));(simp only[go_sem];refine hK _ ?_;clear hK K))|(with_reducible first|(refine Q0d ?_;refine hR _ ?_;clear hR R)))))
     exact St.to.of_le ⟨Q1t (by simp[leT,ifv,g4,g6]),Q3q (by simp[leT,ifv,g4,g6]),fun _ _ h=>h⟩
   · have g7:L 7=true:=hpre ⟨7,.data⟩ (by simp) rfl
     (try simp only[g7,Q2a,Q1r,Bool.and_true,Bool.true_and,Bool.not_false,Bool.not_true,Bool.false_and,Bool.and_false] at hR ⊢)
     generalize hh (L 2) (L 9) (L 14) (L 15) X [vi .u64 (l0 s),vi .u64 (l1 s),vi .u64 (l2 s),vi .u64 (l3 s)]=H at hR ⊢
     (repeat(any_goals(first|((with_reducible refine Q4u ?_ ?_);rfl;intro K hK;apply Q1o;rfl;rfl;(focus(simp only[go_sem];try rfl));(focus(simp only[go_sem];try rfl));rfl;(first|omega);(first|omega);(first|omega);(simp only[go_sem];rfl);rfl;(focus((simp only[unC,Option.map_some]);(try rfl)));(simp only[go_sem];refine hK _ ?_;clear hK K))|(with_reducible first|(refine Q0d ?_;refine hR _ ?_;clear hR R)))))
     exact St.to.of_le ⟨Q1t (by simp[leT,ifv,g7]),Q3q (by simp[leT,ifv,g7]),fun _ _ h=>h⟩
   · have g2:L 2=true:=hpre ⟨2,.data⟩ (by simp) rfl
     have g8:L 8=true:=hpre ⟨8,.data⟩ (by simp) rfl
     cases h7:L 14<;>cases h8:L 15
     all_goals(try simp only[h7,h8,hu,hh,List.nil_append,List.cons_append,List.append_nil,if_true,if_false,Bool.false_eq_true,g2,g8,Q2a,Q1r,Bool.and_true,Bool.true_and,Bool.not_false,Bool.not_true,Bool.false_and,Bool.and_false] at hR ⊢)
     all_goals(have W:=ndI e1 (ndI e3 @Q0m);(repeat(any_goals(first|((with_reducible refine Q0c ?_ ?_);rfl;intro K hK;simp(disch:=omega) only[go_sem,W,Q7m,Bool.and_false];((repeat(refine ndI (by first|assumption|omega|rfl) ?_));refine hK _ ?_;clear hK K))|(with_reducible first|(refine Q0d ?_;refine hR _ ?_;clear hR R))))))
     all_goals exact St.to.trans (St.to.frz 14 (pcs:=cW) (by simp[hget,e5])) (St.to.of_le (St.le_of (by simp[leT,St.frz,frz_ifv,AV.frz,AV.frzL,e8,Q2a,Q1r,h7,h8]) (by simp[leH,hget,hh,St.frz,frzH,AV.frzL,AV.frz,h7,h8])))
   · have g9:L 9=true:=hpre ⟨9,.data⟩ (by simp) rfl
     (try simp only[g9,Q2a,Q1r,Bool.and_true,Bool.true_and,Bool.not_false,Bool.not_true,Bool.false_and,Bool.and_false] at hR ⊢)
     generalize hh (L 2) (L 9) (L 14) (L 15) X [vi .u64 (l0 s),vi .u64 (l1 s),vi .u64 (l2 s),vi .u64 (l3 s)]=H at hR ⊢
     (repeat(any_goals(first|((with_reducible refine Q0i ?_ ?_ ?_);rfl;rfl;intro K hK;((apply Q0b (sm);rfl;rfl;rfl;rfl;exact Tryz.func36);kernel_rfl;rfl;(focus((simp only[go_sem]);(try rfl);done));(first|rfl));(simp only[go_sem];refine hK _ ?_;clear hK K))|(with_reducible first|(refine Q0d ?_;refine hR _ ?_;clear hR R)))))
     exact St.to.of_le ⟨Q1t (by simp[leT,ifv,g9]),Q3q (by simp[leT,ifv,g9]),fun _ _ h=>h⟩
   · have g10:L 10=true:=hpre ⟨10,.data⟩ (by simp) rfl
     (try simp only[g10,Q2a,Q1r,Bool.and_true,Bool.true_and,Bool.not_false,Bool.not_true,Bool.false_and,Bool.and_false] at hR ⊢)
     generalize hh (L 2) (L 9) (L 14) (L 15) X [vi .u64 (l0 s),vi .u64 (l1 s),vi .u64 (l2 s),vi .u64 (l3 s)]=H at hR ⊢
     (repeat(any_goals(first|((with_reducible refine Q0c ?_ ?_);rfl;intro K hK;simp only[go_sem];((repeat(refine ndI (by first|assumption) ?_));refine hK _ ?_;clear hK K))|(with_reducible first|(refine Q0d ?_;refine hR _ ?_;clear hR R)))))
     exact St.to.of_le ⟨Q1t (by simp[leT,ifv,g10]),Q3q (by simp[leT,ifv,g10]),fun _ _ h=>h⟩
   · have g11:L 11=true:=hpre ⟨11,.data⟩ (by simp) rfl
     (try simp only[g11,Q2a,Q1r,Bool.and_true,Bool.true_and,Bool.not_false,Bool.not_true,Bool.false_and,Bool.and_false] at hR ⊢)
     generalize hh (L 2) (L 9) (L 14) (L 15) X [vi .u64 (l0 s),vi .u64 (l1 s),vi .u64 (l2 s),vi .u64 (l3 s)]=H at hR ⊢
     (repeat(any_goals(first|((with_reducible refine Q0c ?_ ?_);rfl;intro K hK;simp only[go_sem];((repeat(refine ndI (by first|assumption) ?_));refine hK _ ?_;clear hK K))|(with_reducible first|(refine Q0d ?_;refine hR _ ?_;clear hR R)))))
     exact St.to.of_le ⟨Q1t (by simp[leT,ifv,g11]),Q3q (by simp[leT,ifv,g11]),fun _ _ h=>h⟩
   · have g11:L 11=true:=hpre ⟨11,.data⟩ (by simp) rfl
     (try simp only[g11,Q2a,Q1r,Bool.and_true,Bool.true_and,Bool.not_false,Bool.not_true,Bool.false_and,Bool.and_false] at hR ⊢)
     generalize hh (L 2) (L 9) (L 14) (L 15) X [vi .u64 (l0 s),vi .u64 (l1 s),vi .u64 (l2 s),vi .u64 (l3 s)]=H at hR ⊢
     (repeat(any_goals(first|((with_reducible refine Q0c ?_ ?_);rfl;intro K hK;simp only[go_sem];((repeat(refine ndI (by first|assumption) ?_));refine hK _ ?_;clear hK K))|(with_reducible first|(refine Q0d ?_;refine hR _ ?_;clear hR R)))))
     exact St.to.of_le ⟨Q1t (by simp[leT,ifv,g11]),Q3q (by simp[leT,ifv,g11]),fun _ _ h=>h⟩
   · have h8:L 15=false:=by
      cases h15:L 15 with
      |false=>rfl
      |true=>have:=hcl 15 _ rfl h15 ⟨14,.data⟩ (by simp) rfl;rw[hu] at this;cases this
     cases h7:(L 2 && !L 9)
     all_goals(try simp only[h7,h8,hu,hh,List.nil_append,List.cons_append,List.append_nil,if_true,if_false,Bool.false_eq_true,Q2a,Q1r,Bool.and_true,Bool.true_and,Bool.not_false,Bool.not_true,Bool.false_and,Bool.and_false] at hR ⊢)
     all_goals(repeat(any_goals(first|((with_reducible refine Q0c ?_ ?_);rfl;intro K hK;simp only[go_sem,Q7m,e3,Bool.and_false];((repeat(refine ndI (by first|assumption) ?_));refine hK _ ?_;clear hK K))|(with_reducible first|(refine Q0d ?_;refine hR _ ?_;clear hR R)))))
     all_goals exact St.to.of_le (St.le_of (by simp[leT,ifv,h7,h8]) (by simp[leH,hget,hh,h7,h8]))
   · have g14:L 14=true:=hpre ⟨14,.data⟩ (by simp) rfl
     have g12:L 12=true:=hpre ⟨12,.data⟩ (by simp) rfl
     have g2:L 2=true:=hpre ⟨2,.phase⟩ (by simp) rfl
     have g9:L 9=true:=hpre ⟨9,.phase⟩ (by simp) rfl
     (try simp only[hu,hh,List.nil_append,List.cons_append,List.append_nil,if_true,if_false,Bool.false_eq_true,g14,g12,g2,g9,Q2a,Q1r,Bool.and_true,Bool.true_and,Bool.not_false,Bool.not_true,Bool.false_and,Bool.and_false] at hR ⊢)
     (repeat(any_goals(first|((with_reducible refine Q0c ?_ ?_);rfl;intro K hK;simp only[go_sem,Q7m,e3,Bool.and_false];((repeat(refine ndI (by first|assumption) ?_));refine hK _ ?_;clear hK K))|(with_reducible first|(refine Q0d ?_;refine hR _ ?_;clear hR R)))))
     exact St.to.of_le (St.le_of (by simp[leT,ifv]) (by simp[leH,hget,hh]))
   · have g13:L 13=true:=hpre ⟨13,.data⟩ (by simp) rfl
     have g15:L 15=true:=hpre ⟨15,.chain⟩ (by simp) rfl
     (try simp only[g13,g15,Q2a,Q1r,Bool.and_true,Bool.true_and,Bool.not_false,Bool.not_true,Bool.false_and,Bool.and_false] at hR ⊢)
     generalize hh (L 2) (L 9) (L 14) (L 15) X [vi .u64 (l0 s),vi .u64 (l1 s),vi .u64 (l2 s),vi .u64 (l3 s)]=H at hR ⊢
     (repeat(any_goals(first|((with_reducible refine Q0c ?_ ?_);rfl;intro K hK;simp only[go_sem];((repeat(refine ndI (by first|assumption) ?_));refine hK _ ?_;clear hK K))|(with_reducible first|(refine Q0d ?_;refine hR _ ?_;clear hR R)))))
     exact St.to.of_le ⟨Q1t (by simp[leT,ifv,g13,g15]),Q3q (by simp[leT,ifv,g13,g15]),fun _ _ h=>h⟩
 · intro L i x hx hu hcl hpre hn
   have hi:i=0∨i=1∨i=2∨i=3∨i=4∨i=5∨i=6∨i=7∨i=8∨i=9∨i=10∨i=11∨i=12∨i=13∨i=14∨i=15∨i=16:=by
    have:=(List.getElem?_eq_some_iff.1 hx).1
    simp only[List.length_cons,List.length_nil] at this
    omega
   rcases hi with rfl|rfl|rfl|rfl|rfl|rfl|rfl|rfl|rfl|rfl|rfl|rfl|rfl|rfl|rfl|rfl|rfl
   all_goals simp only[List.getElem?_cons_succ,List.getElem?_cons_zero,Option.some.injEq] at hx
   all_goals subst hx
   all_goals cases hn
 · intro L hL
   have e22:=hL 2 (by simp)
   have e29:=hL 9 (by simp)
   have e33:=hL 13 (by simp)
   have e34:=hL 14 (by simp)
   have e35:=hL 15 (by simp)
   have e36:=hL 16 (by simp)
   simp only[JF,hh,e22,e29,e33,e34,e35,e36,Q2a,Q1r,if_true,Bool.not_true,Bool.and_false,Bool.false_eq_true,if_false,List.nil_append]
   refine hΨ _ ?_
   clear hΨ hΨ'
   refine AWE.to (St.to.of_le (τ:=⟨[.ep [acV t.w.S,hdV t.w.L,noV t.w.N,acV t.v.S,hdV t.v.L,noV t.v.N,rpV t.r,.v (.int .u64 t.f),.v (.int .u64 (l0 t.m)),.v (.int .u64 (l1 t.m)),.v (.int .u64 (l2 t.m)),.v (.int .u64 (l3 t.m)),.v (.int .u64 (l0 t.b)),.v (.int .u64 (l1 t.b)),.v (.int .u64 (l2 t.b)),.v (.int .u64 (l3 t.b))],vb false,.ptr 2 0,vb q,.any,.any,.any,.any,.any,.any,.any,.any,.any,.any,.any,.any,.any,.any,.any,.any,.any,.any,.any,.any,.any,.any,.any,.any,.any,.any,.any,.any,.any,.any],[(2,[vi .u64 (l0 s),vi .u64 (l1 s),vi .u64 (l2 s),vi .u64 (l3 s)])]⟩) (St.le_of (by simp[leT]) (by simp[leH,hget]))) ?_
   by_cases h0:t.f=0
   · have k0:(t.f != 0)=false:=by simpa using h0
     (repeat(any_goals(first|((with_reducible first|refine AWE.seqI ?_);intro Ψ hΨ hΨ')|(with_reducible first|refine AWE.ofRet ?_)|(with_reducible refine AWE.ofRD ?_)|(with_reducible first|(refine hΨ _ ?_;clear hΨ hΨ' Ψ))|((with_reducible refine Q0v ?_ ?_);kernel_rfl;(with_reducible refine hR _ ?_);clear hR R)|((first|((with_reducible apply Q2y);rfl;rfl;rfl;rfl)|((with_reducible apply Q3l);rfl;rfl;rfl)|((first|((with_reducible apply Q0w);rfl;rfl));(simp only[rdE,rdOf,go_sem,k0];rfl);(intro τ hA hQ hN;((try simp only[Q1a,Op.operands,Call.operands,go_sem,k0,go_sem,List.mem_cons,List.not_mem_nil,forall_eq_or_imp,forall_eq,List.append_toArray,Option.toArray] at hA);(try simp only[go_sem,k0,List.mem_cons,List.not_mem_nil,forall_eq_or_imp,forall_eq] at hQ hN);(first|(revert hA;intro hA));(first|(revert hQ;intro hQ));(first|(revert hN;intro hN));simp only[go_sem,k0,go_sem,hA,hQ,hN];(repeat(refine ndI (by first|assumption) ?_));(first|apply Q0z)))));(simp only[St.eff,setO,Q0t,go_sem,k0]))|((with_reducible refine Q0q ?_ ?_ ?_ ?_);kernel_rfl;kernel_rfl;(first|kernel_rfl);intro R hR))))
     all_goals(refine⟨by simp,⟨_,?_,AV.le_refl _⟩,Q0g (by simp[leH,hget])⟩;simp only[Tryz.results35,resL,ldA,Q0o,go_sem])
     all_goals simp[h0]
   · have k0:(t.f != 0)=true:=by simpa using h0
     cases q with
     |true=>
      (repeat(any_goals(first|((with_reducible first|refine AWE.seqI ?_);intro Ψ hΨ hΨ')|(with_reducible first|refine AWE.ofRet ?_)|(with_reducible refine AWE.ofRD ?_)|(with_reducible first|(refine hΨ _ ?_;clear hΨ hΨ' Ψ))|((with_reducible refine Q0v ?_ ?_);kernel_rfl;(with_reducible refine hR _ ?_);clear hR R)|((first|((with_reducible apply Q2y);rfl;rfl;rfl;rfl)|((first|((with_reducible apply Q0w);rfl;rfl)|((with_reducible apply Q1u);rfl;rfl;rfl;rfl;rfl));(simp only[rdE,rdOf,go_sem,k0];rfl);(intro τ hA hQ hN;((try simp only[Q1a,Op.operands,Call.operands,go_sem,k0,go_sem,List.mem_cons,List.not_mem_nil,forall_eq_or_imp,forall_eq,List.append_toArray,Option.toArray] at hA);(try simp only[go_sem,k0,List.mem_cons,List.not_mem_nil,forall_eq_or_imp,forall_eq] at hQ hN);(first|(revert hA;intro hA));(first|(revert hQ;intro hQ));(first|(revert hN;intro hN));simp only[go_sem,k0,go_sem,hA,hQ,hN];(repeat(refine ndI (by first|assumption) ?_));(first|apply Q0z)))));(simp only[St.eff,setO,Q0t,go_sem,k0]))|((with_reducible refine Q0q ?_ ?_ ?_ ?_);kernel_rfl;kernel_rfl;(first|kernel_rfl);intro R hR))))
      all_goals(refine⟨by simp,⟨_,?_,AV.le_refl _⟩,Q0g (by simp[leH,hget])⟩;simp only[Tryz.results35,resL,ldA,Q0o,go_sem])
      all_goals simp[h0]
     |false=>
      (repeat(any_goals(first|((with_reducible first|refine AWE.seqI ?_);intro Ψ hΨ hΨ')|(with_reducible first|refine AWE.ofRet ?_)|(with_reducible refine AWE.ofRD ?_)|(with_reducible first|(refine hΨ _ ?_;clear hΨ hΨ' Ψ))|((with_reducible refine Q0v ?_ ?_);kernel_rfl;(with_reducible refine hR _ ?_);clear hR R)|((first|((first|((with_reducible apply Q4v);rfl;rfl;rfl;rfl;rfl));((first|(apply Q0r (f3);rfl;rfl;rfl;rfl;exact Tryz.func38)|(apply Q0r (cm);rfl;rfl;rfl;rfl;exact Tryz.func34));kernel_rfl;rfl;(focus((simp only[go_sem,k0]);(try rfl);done));(first|rfl)))|((first|((with_reducible apply Q0w);rfl;rfl)|((with_reducible apply Q1u);rfl;rfl;rfl;rfl;rfl));(simp only[rdE,rdOf,go_sem,k0];rfl);(intro τ hA hQ hN;((try simp only[Q1a,Op.operands,Call.operands,go_sem,k0,go_sem,List.mem_cons,List.not_mem_nil,forall_eq_or_imp,forall_eq,List.append_toArray,Option.toArray] at hA);(try simp only[go_sem,k0,List.mem_cons,List.not_mem_nil,forall_eq_or_imp,forall_eq] at hQ hN);(first|(revert hA;intro hA));(first|(revert hQ;intro hQ));(first|(revert hN;intro hN));simp only[go_sem,k0,go_sem,hA,hQ,hN];(repeat(refine ndI (by first|assumption) ?_));(first|apply Q0z)))));(simp only[St.eff,setO,Q0t,go_sem,k0]))|((with_reducible refine Q0q ?_ ?_ ?_ ?_);kernel_rfl;kernel_rfl;(first|kernel_rfl);intro R hR))))
      all_goals(refine⟨by simp,⟨_,?_,AV.le_refl _⟩,Q0g (by simp[leH,hget])⟩;simp only[Tryz.results35,resL,ldA,Q0o,go_sem])
      all_goals simp[h0]
end
section
open Go.RowKit
open Nat (reduceBEq)
set_option maxRecDepth 20000
set_option maxHeartbeats 4000000
def funcT(P:Program)(t:Nat):Bool:=match P.underlying t with|some (.func _ _ _)=>true|_=>false
section
variable {P:Program} {o:Oper} {σ : St} {K:St→Prop}
theorem X7v{t:Nat}(ht:funcT P t=true)(f:Go.Fn)(us vs:Array Value)(w:World):(Op.equal t (.func f us vs) .nilFunc).run P w = .ok false w∧(Op.equal t .nilFunc .nilFunc).run P w = .ok true w:=by
 obtain⟨a,b,c,hu⟩:∃a b c,P.underlying t=some (.func a b c):=by
  unfold funcT at ht
  cases hu:P.underlying t with
  |none=>simp[hu] at ht
  |some d=>cases d<;>simp[hu] at ht;exact⟨_,_,_,rfl⟩
 unfold Op.equal
 rw[show Op.maxDepth=9999+1 from rfl]
 unfold Op.equalIn
 rw[Sem.run_bind,run_underlying hu,Result.andThen_ok,Sem.run_bind,run_underlying hu,Result.andThen_ok]
 exact⟨rfl,rfl⟩
theorem opA_fnne{t t':TypeId}{x:Operand}{f:FuncId}{caps:List AV}(ho:o.op = .binOp .neq t x (.const .nilFunc) t')(hx:Q0k x=true)(ht:funcT P t=true)(h1:σ.ev x = .fn f caps)(hK:K (σ.put o.dst (vb true))):OpA P o σ K:=
 Q1h _ hK fun E ι a w h=>by
  have hxv:=h.ev x hx
  rw[h1] at hxv
  generalize he:a.eval x=v at hxv
  cases hxv with
  |fn f us cs hl hr=>
   refine⟨_,?_,Q1z _ rfl⟩
   have e2:a.eval (.const .nilFunc) = .nilFunc:=rfl
   have hg:(eqGuard .neq t x (.const .nilFunc) (.func (.func f) #[] us.toArray) .nilFunc).run P w = .ok () w:=Q4c rfl (by simp) t _ _ w
   have g2':binOp .neq t (.func (.func f) #[] us.toArray) .nilFunc=(do pure (.bool (!(←Op.equal t (.func (.func f) #[] us.toArray) .nilFunc)))):=rfl
   simp only[execOp,ho,he,e2,Sem.run_bind,hg,Result.andThen_ok,g2',(X7v ht _ _ _ w).1,Sem.run_pure,Bool.not_false]
theorem opA_fnni{t t':TypeId}{x:Operand}(ho:o.op = .binOp .neq t x (.const .nilFunc) t')(hx:Q0k x=true)(ht:funcT P t=true)(h1:σ.ev x = .c (.v .nilFunc))(hK:K (σ.put o.dst (vb false))):OpA P o σ K:=
 Q1h _ hK fun E ι a w h=>by
  have hxv:=h.ev x hx
  rw[h1] at hxv
  obtain⟨he,_⟩:=hxv.v_inv
  refine⟨_,?_,Q1z _ rfl⟩
  have e2:a.eval (.const .nilFunc) = .nilFunc:=rfl
  have hg:(eqGuard .neq t x (.const .nilFunc) .nilFunc .nilFunc).run P w = .ok () w:=Q4c rfl (by simp) t _ _ w
  have g2':binOp .neq t .nilFunc .nilFunc=(do pure (.bool (!(←Op.equal t .nilFunc .nilFunc)))):=rfl
  simp only[execOp,ho,he,e2,Sem.run_bind,hg,Result.andThen_ok,g2',(X7v ht (.func 0) #[] #[] w).2,Sem.run_pure,Bool.not_true]
end
def brk(t:Tn):Int:=if brkE t then 1 else if brkS t then 2 else if brkC t then 3 else if brkF t then 4 else 0
def jdN(t:Tn):Int:=if Q1b t.w&&Q1b t.v then brk t else 0
def jdE(t:Tn):Int:=if Q1b t.w&&Q1b t.v then 0 else 200
theorem X3k(t:Tn)(ht:t.ok):Fn Tryz.prog 7 [tnA t] [] (.tup [vi .i64 (jdN t),vi .i64 (jdE t)]) []:=by
 have m2:=may2_fn true t.w t.v ht.w ht.v
 have b1:=brk1_fn t ht
 have b2:=brk2_fn t ht
 have b3:=brk3_fn t ht
 have b4:=brk4_fn t ht
 unfold jdN jdE brk
 generalize (Q1b t.w&&Q1b t.v)=q at m2 ⊢
 generalize brkE t=q1 at b1 ⊢
 generalize brkS t=q2 at b2 ⊢
 generalize brkC t=q3 at b3 ⊢
 generalize brkF t=q4 at b4 ⊢
 cases q with
 |false=>
  simp only[Bool.false_eq_true,if_false]
  (refine Q0n Tryz.func7 rfl (by rfl) ?_;simp only[Tryz.ntmps7,List.length_cons,List.length_nil,Nat.reduceAdd,Nat.reduceSub,List.replicate,List.cons_append,List.nil_append])
  (repeat(any_goals(first|((with_reducible refine Q4u ?_ ?_);rfl;intro K hK;apply Q1o;rfl;rfl;(focus(simp only[go_sem];try rfl));(focus(simp only[go_sem];try rfl));rfl;(first|omega);(first|omega);(first|omega);(simp only[go_sem];rfl);rfl;(focus((simp only[unC,Option.map_some]);(try rfl)));(simp only[go_sem];refine hK _ ?_;clear hK K))|((with_reducible refine Q0i ?_ ?_ ?_);rfl;rfl;intro K hK;((apply Q0b (m2);rfl;rfl;rfl;rfl;exact Tryz.func24);kernel_rfl;rfl;(focus((simp only[go_sem]);(try rfl);done));(first|rfl));(simp only[go_sem];refine hK _ ?_;clear hK K))|((with_reducible refine Q0c ?_ ?_);rfl;intro K hK;simp only[go_sem];((repeat(refine ndI (by first|assumption) ?_));refine hK _ ?_;clear hK K))|(with_reducible first|(refine Q0d ?_;refine hR _ ?_;clear hR R)|((first|refine Q0e ?_);intro Ψ hΨ hΨ')|(refine Q0a ?_;intro R hR)|(refine hΨ _ ?_;clear hΨ hΨ' Ψ)|refine Q0h ?_)|((with_reducible refine hΨ' _ _ ?_ ?_);(focus(simp;done));clear hΨ hΨ' Ψ)|((with_reducible apply Q0f);rfl;rfl;all_goals(intro hc;first|(cases hc;done)|(try simp only at hc))))))
  all_goals(refine⟨by simp,⟨_,?_,AV.le_refl _⟩,Q0g (by simp[leH,hget])⟩;simp only[Tryz.results7,resL,ldA,Q0o,go_sem])
 |true=>
  simp only[if_true]
  (refine Q0n Tryz.func7 rfl (by rfl) ?_;simp only[Tryz.ntmps7,List.length_cons,List.length_nil,Nat.reduceAdd,Nat.reduceSub,List.replicate,List.cons_append,List.nil_append])
  (repeat(any_goals(first|((with_reducible refine Q4u ?_ ?_);rfl;intro K hK;apply Q1o;rfl;rfl;(focus(simp only[go_sem];try rfl));(focus(simp only[go_sem];try rfl));rfl;(first|omega);(first|omega);(first|omega);(simp only[go_sem];rfl);rfl;(focus((simp only[unC,Option.map_some]);(try rfl)));(simp only[go_sem];refine hK _ ?_;clear hK K))|((with_reducible refine Q0i ?_ ?_ ?_);rfl;rfl;intro K hK;((apply Q0b (m2);rfl;rfl;rfl;rfl;exact Tryz.func24);kernel_rfl;rfl;(focus((simp only[go_sem]);(try rfl);done));(first|rfl));(simp only[go_sem];refine hK _ ?_;clear hK K))|((with_reducible refine Q0c ?_ ?_);rfl;intro K hK;simp only[go_sem];((repeat(refine ndI (by first|assumption|rfl) ?_));refine hK _ ?_;clear hK K))|(with_reducible first|(refine Q0d ?_;refine hR _ ?_;clear hR R)|((first|refine Q0e ?_|refine Q0l ?_);intro Ψ hΨ hΨ')|(refine Q0a ?_;intro R hR)|(refine hΨ _ ?_;clear hΨ hΨ' Ψ)|refine Q0j ?_)|((with_reducible apply Q0f);rfl;rfl;all_goals(intro hc;first|(cases hc;done)|(try simp only at hc))))))
  refine Q4m 6 ?_
  refine Q5u ?_
  intro Ψ hΨ hΨ'
  refine Q0e ?_
  intro Ψ hΨ hΨ'
  refine Q0a ?_
  intro R hR
  refine Q8j rfl (St.to.frz 1 (pcs:=t.pv) (by simp[hget,Tn.pv])) ?_
  have hpl:t.pv.length=16:=rfl
  generalize t.pv=pv at *
  simp only[hpl,St.frz,AV.frzL,AV.frz,frzH,if_true,eq_self,↓reduceIte,Nat.reduceEqDiff,List.length_cons,List.length_nil,List.drop_zero,Nat.reduceAdd,Nat.reduceLT]
  have w1:IntKind.i64.wrap (0+1)=1:=rfl
  have w2:IntKind.i64.wrap (1+1)=2:=rfl
  have w3:IntKind.i64.wrap (2+1)=3:=rfl
  have w4:IntKind.i64.wrap (3+1)=4:=rfl
  have w5:IntKind.i64.wrap (4+1)=5:=rfl
  (have W:=ndI w1 (ndI w2 (ndI w3 (ndI w4 w5)));(repeat(any_goals(first|((with_reducible refine Q4u ?_ ?_);rfl;intro K hK;(first|(apply opA_fnne;rfl;rfl;kernel_rfl;rfl)|(apply opA_fnni;rfl;rfl;kernel_rfl;rfl));(simp only[go_sem,W];refine hK _ ?_;clear hK K))|((with_reducible refine Q0c ?_ ?_);rfl;intro K hK;simp only[go_sem,W];((repeat(refine ndI (by first|assumption|omega) ?_));refine hK _ ?_;clear hK K))|(with_reducible first|(refine Q0d ?_;refine hR _ ?_;clear hR R)|((first|refine Q0e ?_|refine Q0l ?_);intro Ψ hΨ hΨ')|(refine Q0a ?_;intro R hR)|(refine hΨ _ ?_;clear hΨ hΨ' Ψ)|refine Q0j ?_|refine Q0h ?_|refine Q1f ?_)|((with_reducible refine hΨ' _ _ ?_ ?_);(focus(simp;done));clear hΨ hΨ' Ψ)|((with_reducible apply Q0s);rfl;rfl;rfl;all_goals(intro hb;first|(cases hb;done)|((try simp only[Bool.not_true,Bool.not_false] at hb);(first|((with_reducible intro K hK);(first|((first|(apply Q0b (b1);rfl;rfl;rfl;rfl;exact Tryz.func25)|(apply Q0b (b2);rfl;rfl;rfl;rfl;exact Tryz.func30)|(apply Q0b (b3);rfl;rfl;rfl;rfl;exact Tryz.func31)|(apply Q0b (b4);rfl;rfl;rfl;rfl;exact Tryz.func35));kernel_rfl;rfl;(focus((simp only[go_sem,W]);(try rfl);done));(first|rfl))|skip);simp only[go_sem,W];((repeat(refine ndI (by first|assumption) ?_));refine hK _ ?_;clear hK K))|((fail_if_success (with_reducible intro _));simp only[go_sem,W])))))|((with_reducible apply Q0f);rfl;rfl;all_goals(intro hc;first|(cases hc;done)|(try simp only at hc)))|((with_reducible refine Q5u ?_);intro Ψ hΨ hΨ')))))
  all_goals(refine⟨by simp,⟨_,?_,AV.le_refl _⟩,Q0g (by simp[leH,hget])⟩;simp only[Tryz.results7,resL,ldA,Q0o,go_sem])
  all_goals clear b1 b2 b3 b4 m2
  all_goals(cases q1<;>cases q2<;>cases q3<;>cases q4<;>first|rfl|contradiction)
end
section
open Go.RowKit
open Nat (reduceBEq)
set_option maxRecDepth 20000
set_option maxHeartbeats 4000000
def whB(t:Tn):Bool:=(Q1b t.w&&Q1b t.v)&&decide (brk t=0)
theorem whole_fn(t:Tn)(ht:t.ok):Fn Tryz.prog 8 [tnA t] [] (vb (whB t)) []:=by
 have j:=X3k t ht
 unfold jdN jdE at j
 unfold whB
 generalize brk t=B at *
 generalize (Q1b t.w&&Q1b t.v)=q at *
 have e:(B==0)=decide (B=0):=by by_cases h:B=0<;>simp[h]
 generalize decide (B=0)=z at *
 cases q
 all_goals simp only[Bool.false_eq_true,if_false,if_true] at j
 · (refine Q0n Tryz.func8 rfl (by rfl) ?_;simp only[Tryz.ntmps8,List.length_cons,List.length_nil,Nat.reduceAdd,Nat.reduceSub,List.replicate,List.cons_append,List.nil_append])
   (repeat(any_goals(first|((with_reducible refine Q0i ?_ ?_ ?_);rfl;rfl;intro K hK;((apply Q0b (j);rfl;rfl;rfl;rfl;exact Tryz.func7);kernel_rfl;rfl;(focus((simp only[go_sem]);(try rfl);done));(first|rfl));(simp only[go_sem];refine hK _ ?_;clear hK K))|((with_reducible refine Q0c ?_ ?_);rfl;intro K hK;simp only[go_sem];((repeat(refine ndI (by first|assumption) ?_));refine hK _ ?_;clear hK K))|(with_reducible first|(refine Q0d ?_;refine hR _ ?_;clear hR R)|((first|refine Q0e ?_);intro Ψ hΨ hΨ')|(refine Q0a ?_;intro R hR)|(refine hΨ _ ?_;clear hΨ hΨ' Ψ)|refine Q0h ?_)|((with_reducible apply Q0s);rfl;rfl;rfl;all_goals(intro hb;first|(cases hb;done)|((try simp only[Bool.not_true,Bool.not_false] at hb);(first|((with_reducible intro K hK);simp only[go_sem];((repeat(refine ndI (by first|assumption) ?_));refine hK _ ?_;clear hK K)))))))))
   all_goals(refine⟨by simp,⟨_,?_,AV.le_refl _⟩,Q0g (by simp[leH,hget])⟩;simp only[Tryz.results8,resL,ldA,Q0o,go_sem])
   all_goals rfl
 · cases z
   all_goals(refine Q0n Tryz.func8 rfl (by rfl) ?_;simp only[Tryz.ntmps8,List.length_cons,List.length_nil,Nat.reduceAdd,Nat.reduceSub,List.replicate,List.cons_append,List.nil_append])
   all_goals(repeat(any_goals(first|((with_reducible refine Q0i ?_ ?_ ?_);rfl;rfl;intro K hK;((apply Q0b (j);rfl;rfl;rfl;rfl;exact Tryz.func7);kernel_rfl;rfl;(focus((simp only[go_sem,e]);(try rfl);done));(first|rfl));(simp only[go_sem,e];refine hK _ ?_;clear hK K))|((with_reducible refine Q0c ?_ ?_);rfl;intro K hK;simp only[go_sem,e];((repeat(refine ndI (by first|assumption) ?_));refine hK _ ?_;clear hK K))|(with_reducible first|(refine Q0d ?_;refine hR _ ?_;clear hR R)|((first|refine Q0e ?_);intro Ψ hΨ hΨ')|(refine Q0a ?_;intro R hR)|(refine hΨ _ ?_;clear hΨ hΨ' Ψ)|refine Q0h ?_)|((with_reducible apply Q0s);rfl;rfl;rfl;all_goals(intro hb;first|(cases hb;done)|((try simp only[Bool.not_true,Bool.not_false] at hb);(first|((with_reducible intro K hK);simp only[go_sem,e];((repeat(refine ndI (by first|assumption) ?_));refine hK _ ?_;clear hK K))|((fail_if_success (with_reducible intro _));simp only[go_sem,e]))))))))
   all_goals(refine⟨by simp,⟨_,?_,AV.le_refl _⟩,Q0g (by simp[leH,hget])⟩;simp only[Tryz.results8,resL,ldA,Q0o,go_sem])
   all_goals rfl
theorem brk_of{t:Tn}(h1:brkE t=false)(h2:brkS t=false)(h3:brkC t=false)(h4:brkF t=false):brk t=0:=by
 unfold brk
 rw[h1,h2,h3,h4];rfl
end
section
open Go.RowKit
set_option maxRecDepth 20000
set_option maxHeartbeats 2000000
instance decPr:DecidableEq Pr:=fun p q=>decidable_of_iff (p.k=q.k∧p.v=q.v) ⟨fun h=>by cases p;cases q;simp_all,fun h=>by rw[h];exact⟨rfl,rfl⟩⟩
end
section
open Go.RowKit
set_option maxRecDepth 20000
set_option maxHeartbeats 2000000
theorem X5u{x y:Ac}(h:x.a=y.a∧x.b=y.b∧x.n=y.n∧x.code=y.code∧x.store=y.store):x=y:=by
 obtain⟨a,b,n,c,s⟩:=x
 obtain⟨a',b',n',c',s'⟩:=y
 obtain⟨h1,h2,h3,h4,h5⟩:=h
 dsimp only at h1 h2 h3 h4 h5
 subst h1 h2 h3 h4 h5
 rfl
instance decAc:DecidableEq Ac:=fun x y=>decidable_of_iff (x.a=y.a∧x.b=y.b∧x.n=y.n∧x.code=y.code∧x.store=y.store) ⟨X5u,fun h=>by rw[h];exact⟨rfl,rfl,rfl,rfl,rfl⟩⟩
def Q4a(L:List Ac):Prop:=L.Pairwise fun x y=>x.a<y.a
theorem X0s{q:Bool}{L:List Ac}:∀{i:Nat},okS q L i=true→∀j,j<i→okS1 L j=true
 |0,_,j,hj=>by omega
 |i+1,h,j,hj=>by
  unfold okS at h
  rw[Bool.and_eq_true] at h
  by_cases e:j=i
  · rw[e];exact h.2
  · exact X0s h.1 j (by omega)
theorem okSt_full{L:List Ac}(h:okSt L=true){y:Ac}(hy:y∈L):Q1s y=false:=by
 obtain⟨j,hj⟩:=List.mem_iff_getElem?.1 hy
 have:=X0s h j (List.getElem?_eq_some_iff.1 hj).1
 unfold okS1 at this
 rw[hj] at this
 simp only[Bool.and_eq_true,Bool.not_eq_true'] at this
 exact this.1.2
theorem X8q{L:List Ac}(h:okSt L=true):Q4a L:=by
 have step:∀j (hj:j+1<L.length),L[j].a<L[j+1].a:=fun j hj=>by
  have:=X0s h (j+1) hj
  rw[X0t (List.getElem?_eq_getElem (by omega)) (List.getElem?_eq_getElem hj)] at this
  simp only[Bool.and_eq_true,decide_eq_true_eq] at this
  exact this.2
 have key:∀d i (hi:i+d+1<L.length),L[i].a<L[i+d+1].a:=fun d=>by
  induction d with
  |zero=>exact fun i hi=>step i hi
  |succ d ih=>exact fun i hi=>Int.lt_trans (ih i (by omega)) (step (i+d+1) hi)
 unfold Q4a
 rw[List.pairwise_iff_getElem]
 intro i j hi hj hij
 have:=key (j-i-1) i (by omega)
 simpa [show i+(j-i-1)+1=j by omega] using this
theorem ltA_eq{L:List Ac}{a:Int}{i:Nat}(hi:i<L.length):ltA L a i=decide (L[i].a<a):=by
 unfold ltA
 rw[List.getElem?_eq_getElem hi]
 refine decide_eq_decide.2 ?_
 unfold cmpI
 by_cases h:L[i].a<a
 · rw[if_pos h];exact⟨fun _=>h,fun _=>by decide⟩
 · rw[if_neg h]
   constructor
   · intro h2;split at h2<;>omega
   · exact fun h2=>absurd h2 h
end
section
open Go.RowKit
def optA(x:Ac):Option Ac:=if Q1s x then none else some x
theorem X7m{x:Ac}:∀y∈optA x,y.a=x.a:=fun y h=>by
 unfold optA at h
 split at h
 · cases h
 · cases h;rfl
theorem X7w{x:Ac}(h:Q1s x=true):x=⟨x.a,0,0,[],[]⟩:=by
 unfold Q1s at h
 simp only[Bool.and_eq_true,decide_eq_true_eq] at h
 obtain⟨⟨h1,h2⟩,h3⟩:=h
 refine X5u ⟨rfl,h1,h2,List.eq_nil_of_length_eq_zero (by omega),List.eq_nil_of_length_eq_zero (by omega)⟩
theorem Q8r{L:List Ac}(hr:Q4a L)(a:Int):Parts Ac.a L a (posS L a):=X1l (key:=Ac.a) hr fun i h=>ltA_eq h
theorem X3l{L:List Ac}(hr:Q4a L)(a:Int):isS L a=(fnd Ac.a a L).isSome:=by
 rw[Q5d hr (Q8r hr a)]
 unfold isS eqA
 cases L[posS L a]? with
 |none=>rfl
 |some z=>
  simp only[Option.filter_some,decide_eq_true_eq]
  unfold cmpI
  by_cases h:z.a=a
  · rw[if_pos h,if_neg (by omega),if_neg (by omega)];rfl
  · rw[if_neg h]
    by_cases h2:z.a<a
    · rw[if_pos h2];rfl
    · rw[if_neg h2,if_pos (by omega)];rfl
theorem Q5p{L:List Ac}(hr:Q4a L)(a:Int):ofS L a=(fnd Ac.a a L).getD ⟨a,0,0,[],[]⟩:=by
 have h:=X3l hr a
 unfold ofS
 cases hf:fnd Ac.a a L with
 |none=>rw[hf] at h;rw[h];rfl
 |some z=>
  rw[hf] at h
  rw[h]
  show(L[posS L a]?).getD _=z
  rw[Q5d hr (Q8r hr a)] at hf
  cases hz:L[posS L a]? with
  |none=>rw[hz] at hf;cases hf
  |some w=>
   rw[hz] at hf
   rw[Option.filter_some] at hf
   split at hf
   · cases hf;rfl
   · cases hf
theorem Q6o{L:List Ac}(hr:Q4a L)(x:Ac):Q1p L x=lay Ac.a x.a (optA x) L:=by
 rw[X0n hr (Q8r hr x.a),←X3l hr]
 unfold Q1p optA
 cases isS L x.a<;>cases Q1s x<;>simp
theorem Q3g{L:List Ac}(hr:Q4a L)(x:Ac):Q4a (Q1p L x):=by
 rw[Q6o hr];exact X4i (key:=Ac.a) X7m hr
theorem Q2j{L:List Ac}(hr:Q4a L)(x:Ac)(a:Int):ofS (Q1p L x) a=if a=x.a then x else ofS L a:=by
 rw[Q5p (Q3g hr x),Q5p hr,Q6o hr,X6t (key:=Ac.a) X7m a hr]
 by_cases h:a=x.a
 · subst h
   rw[if_pos rfl,if_pos rfl]
   unfold optA
   cases he:Q1s x with
   |false=>rfl
   |true=>rw[if_pos rfl];exact(X7w he).symm
 · rw[if_neg h,if_neg h]
def X9g(L:List Ac):Prop:=∀x∈L,okAc x=true∧Q1s x=false
theorem Q5h{L:List Ac}(hf:X9g L)(hr:Q4a L){x:Ac}(hx:okAc x=true):X9g (Q1p L x):=fun y hy=>by
 rw[Q6o hr] at hy
 rcases X6o hy with h|h
 · unfold optA at h
   cases he:Q1s x with
   |false=>rw[he] at h;cases h;exact⟨hx,he⟩
   |true=>rw[he] at h;cases h
 · exact hf y h
theorem Q3y{L:List Ac}(hr:Q4a L)(x:Ac):((Q1p L x).map Ac.b).sum+(ofS L x.a).b=(L.map Ac.b).sum+x.b:=by
 have:=X5y (key:=Ac.a) (k:=x.a) (o:=optA x) Ac.b hr
 rw[←Q6o hr] at this
 have e1:((fnd Ac.a x.a L).map Ac.b).getD 0=(ofS L x.a).b:=by
  rw[Q5p hr];cases fnd Ac.a x.a L<;>rfl
 have e2:((optA x).map Ac.b).getD 0=x.b:=by
  unfold optA
  cases he:Q1s x with
  |false=>rfl
  |true=>rw[X7w he];rfl
 omega
theorem X0x{L:List Ac}(hr:Q4a L)(x:Ac):X0y (Q1p L x)+(if 16≤x.a∧isS L x.a=true then 1 else 0)=X0y L+(if 16≤x.a∧Q1s x=false then 1 else 0):=by
 have:=X5y (key:=Ac.a) (k:=x.a) (o:=optA x) (fun y=>if decide (16≤y.a) then 1 else 0) hr
 rw[←Q6o hr,←X1i,←X1i] at this
 unfold X0y
 have e1:((fnd Ac.a x.a L).map fun y=>if decide (16≤y.a) then 1 else 0).getD 0=if 16≤x.a∧isS L x.a=true then 1 else 0:=by
  rw[X3l hr]
  cases hf:fnd Ac.a x.a L with
  |none=>simp
  |some z=>have:=(Q5s hf).1;simp[this]
 have e2:((optA x).map fun y=>if decide (16≤y.a) then 1 else 0).getD 0=if 16≤x.a∧Q1s x=false then 1 else 0:=by
  unfold optA
  cases he:Q1s x<;>simp
 omega
theorem okS_of{q:Bool}{L:List Ac}:∀{i:Nat},q=true→(∀j,j<i→okS1 L j=true)→okS q L i=true
 |0,hq,_=>hq
 |i+1,hq,h=>by
  unfold okS
  rw[okS_of hq fun j hj=>h j (by omega),h i (by omega)];rfl
theorem okS_q{q:Bool}{L:List Ac}:∀{i:Nat},okS q L i=true→q=true
 |0,h=>h
 |i+1,h=>by
  unfold okS at h
  rw[Bool.and_eq_true] at h
  exact okS_q h.1
theorem Q2x{L:List Ac}:okSt L=true↔Q4a L∧X9g L∧(L.map Ac.b).sum<WW∧X0y L≤24:=by
 constructor
 · intro h
   have:=okS_q h
   simp only[Bool.and_eq_true,Bool.not_eq_true',decide_eq_true_eq,decide_eq_false_iff_not] at this
   exact⟨X8q h,fun x hx=>⟨okSt_ac h x hx,okSt_full h hx⟩,by omega,this.2⟩
 · rintro ⟨h1,h2,h3,h4⟩
   refine okS_of (by simp only[Bool.and_eq_true,Bool.not_eq_true',decide_eq_true_eq,decide_eq_false_iff_not];exact⟨by omega,h4⟩) fun j hj=>?_
   have hp:=List.pairwise_iff_getElem.1 h1
   have hf:=h2 L[j] (List.getElem_mem hj)
   cases j with
   |zero=>rw[X4x (List.getElem?_eq_getElem hj),hf.1,hf.2];rfl
   |succ j=>
    rw[X0t (List.getElem?_eq_getElem (by omega)) (List.getElem?_eq_getElem hj),hf.1,hf.2]
    simpa using hp j (j+1) (by omega) hj (by omega)
def Ac.bal(x:Ac)(b:Nat):Ac:=⟨x.a,b,x.n,x.code,x.store⟩
theorem Q7z{x:Ac}(b:Nat)(h:okAc x=true):okAc (x.bal b)=true:=h
theorem Q9o{L:List Ac}(hr:Q4a L)(a:Int):(ofS L a).a=a:=by
 rw[Q5p hr]
 cases hf:fnd Ac.a a L with
 |none=>rfl
 |some z=>exact(Q5s hf).1
theorem Q6m{L:List Ac}(h:okSt L=true){a:Int}(ha:a≠0):okAc (ofS L a)=true:=by
 obtain⟨h1,h2,_⟩:=Q2x.1 h
 rw[Q5p h1]
 cases hf:fnd Ac.a a L with
 |none=>simp[okAc,okTo,ha]
 |some z=>exact(h2 z (Q5s hf).2).1
theorem sum_two{L:List Ac}(hr:Q4a L){a c:Int}(hac:a≠c):(ofS L a).b+(ofS L c).b≤(L.map Ac.b).sum:=by
 have e1:=Q3y hr ⟨a,0,0,[],[]⟩
 have e2:=Q3y (Q3g hr ⟨a,0,0,[],[]⟩) ⟨c,0,0,[],[]⟩
 rw[Q2j hr] at e2
 simp only at e1 e2
 rw[if_neg (fun h=>hac h.symm)] at e2
 omega
theorem X4y{L:List Ac}(hr:Q4a L)(a:Int):(ofS L a).b≤(L.map Ac.b).sum:=by
 have e1:=Q3y hr ⟨a,0,0,[],[]⟩
 simp only at e1
 omega
theorem X4c{L M:List Ac}(hL:Q4a L)(fL:X9g L)(hM:Q4a M)(fM:X9g M)(h:∀a,ofS L a=ofS M a):L=M:=by
 refine fnd_ext (key:=Ac.a) hL hM fun k=>?_
 have:=h k
 rw[Q5p hL,Q5p hM] at this
 cases h1:fnd Ac.a k L with
 |none=>
  cases h2:fnd Ac.a k M with
  |none=>rfl
  |some z=>
   rw[h1,h2] at this
   simp only[Option.getD_none,Option.getD_some] at this
   have:=(fM z (Q5s h2).2).2
   subst z
   simp[Q1s] at this
 |some y=>
  cases h2:fnd Ac.a k M with
  |none=>
   rw[h1,h2] at this
   simp only[Option.getD_none,Option.getD_some] at this
   have:=(fL y (Q5s h1).2).2
   subst y
   simp[Q1s] at this
  |some z=>
   rw[h1,h2] at this
   simpa using this
theorem Q8d{L:List Ac}(h:okSt L=true){a:Int}(ha:a≠0):Q1p L (ofS L a)=L:=by
 obtain⟨h1,h2,_⟩:=Q2x.1 h
 refine X4c (Q3g h1 _) (Q5h h2 h1 (Q6m h ha)) h1 h2 fun c=>?_
 rw[Q2j h1,Q9o h1]
 by_cases hc:c=a
 · rw[if_pos hc,hc]
 · rw[if_neg hc]
theorem Q9r{L:List Ac}{a:Int}(ha:a≠0):Q4d L a=(isS L a||(decide (a<16)||decide (X0y L<24))):=by simp[Q4d,ha]
theorem Q8e{L:List Ac}(hr:Q4a L)(hf:X9g L)(a:Int):isS L a = !Q1s (ofS L a):=by
 rw[X3l hr,Q5p hr]
 cases h1:fnd Ac.a a L with
 |none=>simp[Q1s]
 |some z=>simp[(hf z (Q5s h1).2).2]
theorem moved{L:List Ac}(h:okSt L=true){a c:Int}(ha:a≠0)(hc:c≠0)(hac:a≠c){n:Nat}(hn0:n≠0)(hn:n≤(ofS L a).b)(hroom:Q4d L c=true) :
 (ofS L c).b+n<WW∧okSt (Q1p (Q1p L ((ofS L a).bal ((ofS L a).b-n))) ((ofS L c).bal (((ofS L c).b+n)%WW)))=true ∧
 (∀z,ofS (Q1p (Q1p L ((ofS L a).bal ((ofS L a).b-n))) ((ofS L c).bal (((ofS L c).b+n)%WW))) z=if z=c then((ofS L c).bal ((ofS L c).b+n)) else if z=a then((ofS L a).bal ((ofS L a).b-n)) else ofS L z):=by
 obtain⟨h1,h2,h3,h4⟩:=Q2x.1 h
 have two:=sum_two h1 hac
 have hlt:(ofS L c).b+n<WW:=by omega
 rw[Nat.mod_eq_of_lt hlt]
 have ea:=Q9o h1 a
 have ec:=Q9o h1 c
 have xa:∀b,((ofS L a).bal b).a=a:=fun b=>ea
 have xc:∀b,((ofS L c).bal b).a=c:=fun b=>ec
 have ya:∀b,((ofS L a).bal b).b=b:=fun b=>rfl
 have yc:∀b,((ofS L c).bal b).b=b:=fun b=>rfl
 have r1:=Q3g h1 ((ofS L a).bal ((ofS L a).b-n))
 have f1:=Q5h h2 h1 (Q7z ((ofS L a).b-n) (Q6m h ha))
 have r2:=Q3g r1 ((ofS L c).bal ((ofS L c).b+n))
 have f2:=Q5h f1 r1 (Q7z ((ofS L c).b+n) (Q6m h hc))
 have s1:=Q3y h1 ((ofS L a).bal ((ofS L a).b-n))
 have s2:=Q3y r1 ((ofS L c).bal ((ofS L c).b+n))
 have m1:=X0x h1 ((ofS L a).bal ((ofS L a).b-n))
 have m2:=X0x r1 ((ofS L c).bal ((ofS L c).b+n))
 rw[Q2j h1] at s2
 simp only[xa,xc,ya,yc] at s1 s2 m1 m2
 rw[if_neg (fun e=>hac e.symm)] at s2
 have i1:isS (Q1p L ((ofS L a).bal ((ofS L a).b-n))) c=isS L c:=by
  rw[Q8e r1 f1,Q8e h1 h2,Q2j h1,xa,if_neg (fun e=>hac e.symm)]
 rw[i1] at m2
 refine⟨hlt,Q2x.2 ⟨r2,f2,by omega,?_⟩,fun z=>?_⟩
 · rw[Q9r hc] at hroom
   have ia:Q1s (ofS L a)=false→isS L a=true:=fun e=>by rw[Q8e h1 h2,e];rfl
   have hne:Q1s (ofS L a)=false:=by simp[Q1s,show(ofS L a).b≠0 by omega]
   have ia:=ia hne
   simp only[ia,and_true] at m1
   by_cases hi:isS L c=true
   · simp only[hi,and_true] at m2
     split at m1<;>split at m1<;>split at m2<;>split at m2<;>omega
   · have hi:isS L c=false:=by simpa using hi
     rw[hi] at m2 hroom
     simp only[Bool.false_or,Bool.or_eq_true,decide_eq_true_eq] at hroom
     simp only[Bool.false_eq_true,and_false,if_false] at m2
     split at m1<;>split at m1<;>split at m2<;>omega
 · rw[Q2j r1,Q2j h1,xa,xc]
theorem Q9x{L:List Ac}{x:Ac}{fr to:Int}{n:Nat}(h0:to≠0)(h1:n≤x.b)(h2:n≠0)(h3:fr≠to) :
 Q7i L x fr to n=if Q4d L to=false then([],6) else(Q1p (Q1p L (x.bal (x.b-n))) ((ofS L to).bal (((ofS L to).b+n)%WW)),0):=by
 unfold Q7i
 rw[if_neg h0,if_neg (by omega),if_neg (by simp only[Bool.or_eq_true,decide_eq_true_eq,beq_iff_eq];rintro (e|e);exact h2 e;exact h3 e)]
 rfl
theorem X8t{L:List Ac}(h:okSt L=true){a c:Int}(ha:a≠0)(hc:c≠0)(hac:a≠c){n:Nat}(hn0:n≠0)(hn:n≤(ofS L a).b)(hroom:Q4d L c=true) :
 Q2l (Q1p (Q1p L ((ofS L a).bal ((ofS L a).b-n))) ((ofS L c).bal (((ofS L c).b+n)%WW))) c a n=(L,0) ∨
 (Q2l (Q1p (Q1p L ((ofS L a).bal ((ofS L a).b-n))) ((ofS L c).bal (((ofS L c).b+n)%WW))) c a n=([],6)∧Q4d (Q1p (Q1p L ((ofS L a).bal ((ofS L a).b-n))) ((ofS L c).bal (((ofS L c).b+n)%WW))) a=false):=by
 obtain⟨k1,k2,k3⟩:=moved h ha hc hac hn0 hn hroom
 obtain⟨h1,h2,h3,h4⟩:=Q2x.1 h
 generalize Q1p (Q1p L ((ofS L a).bal ((ofS L a).b-n))) ((ofS L c).bal (((ofS L c).b+n)%WW))=M at k2 k3 ⊢
 obtain⟨m1,m2,m3,m4⟩:=Q2x.1 k2
 have ec:=k3 c
 have ea:=k3 a
 rw[if_pos rfl] at ec
 rw[if_neg hac,if_pos rfl] at ea
 have two:=sum_two h1 hac
 have xa:=Q9o h1 a
 have xc:=Q9o h1 c
 unfold Q2l Q4j
 rw[k2]
 simp only[Bool.not_true,Bool.false_eq_true,if_false,if_neg hc]
 have hb:(ofS M c).b=(ofS L c).b+n:=by rw[ec];rfl
 rw[Q9x ha (by omega) hn0 (fun e=>hac e.symm),ea,ec]
 by_cases hr:Q4d M a=false
 · rw[if_pos hr];exact .inr ⟨rfl,hr⟩
 · rw[if_neg hr]
   left
   rw[Prod.mk.injEq]
   refine⟨?_,rfl⟩
   have e1:((ofS L c).bal ((ofS L c).b+n)).bal (((ofS L c).bal ((ofS L c).b+n)).b-n)=ofS L c:=X5u ⟨rfl,show(ofS L c).b+n-n=(ofS L c).b by omega,rfl,rfl,rfl⟩
   have e2:((ofS L a).bal ((ofS L a).b-n)).bal ((((ofS L a).bal ((ofS L a).b-n)).b+n)%WW)=ofS L a:=X5u ⟨rfl,show((ofS L a).b-n+n)%WW=(ofS L a).b by rw[Nat.sub_add_cancel hn];exact Nat.mod_eq_of_lt (by omega),rfl,rfl,rfl⟩
   rw[e1,e2]
   have r1:=Q3g m1 (ofS L c)
   have f1:=Q5h m2 m1 (Q6m h hc)
   refine X4c (Q3g r1 (ofS L a)) (Q5h f1 r1 (Q6m h ha)) h1 h2 fun z=>?_
   rw[Q2j r1,Q2j m1,k3,xa,xc]
   by_cases z1:z=a
   · rw[if_pos z1,z1]
   · rw[if_neg z1]
     by_cases z2:z=c
     · rw[if_pos z2,z2]
     · rw[if_neg z2,if_neg z2,if_neg z1]
end
section
open Go.RowKit
set_option maxRecDepth 20000
set_option maxHeartbeats 2000000
section
variable {α : Type} (key:α→Int)
def pass(p:α):Bool→List α→List α
 |laid,[]=>if laid then[] else[p]
 |laid,q::l=>if key q=key p then pass p laid l else if laid=false∧key p<key q then p::q::pass p true l else q::pass p laid l
variable {key}
theorem Q7q{p:α}:∀{l:List α},(∀x∈l,key x≠key p)→pass key p true l=l
 |[],_=>rfl
 |q::l,h=>by
  unfold pass
  rw[if_neg (h q (by simp)),if_neg (by simp),Q7q fun x hx=>h x (by simp[hx])]
theorem Q9t{p:α}:∀{l:List α} (laid:Bool),Q6v key l→pass key p laid l=lay key (key p) (if laid then none else some p) l
 |[],laid,_=>by cases laid<;>rfl
 |q::l,laid,h=>by
  obtain⟨l1,l2⟩:=List.pairwise_cons.1 h
  unfold pass lay
  rcases Int.lt_trichotomy (key q) (key p) with hlt|heq|hgt
  · rw[if_neg (show ¬key q=key p by omega),if_neg (show ¬(laid=false∧key p<key q) by omega),if_pos hlt,Q9t laid l2]
  · rw[if_pos heq,if_neg (show ¬key q<key p by omega),if_pos heq]
    have gt:∀x∈l,key p<key x:=fun x hx=>by have:=l1 x hx;omega
    cases laid with
    |true=>rw[Q7q fun x hx=>by have:=gt x hx;omega];rfl
    |false=>
     rw[Q9t false l2]
     cases l with
     |nil=>rfl
     |cons y l=>
      have:=gt y (by simp)
      unfold lay
      rw[if_neg (show ¬key y<key p by omega),if_neg (show ¬key y=key p by omega)]
  · have gt:∀x∈l,key x≠key p:=fun x hx=>by have:=l1 x hx;omega
    rw[if_neg (show ¬key q=key p by omega),if_neg (show ¬key q<key p by omega),if_neg (show ¬key q=key p by omega)]
    cases laid with
    |true=>rw[if_neg (by simp),Q7q gt];rfl
    |false=>rw[if_pos ⟨rfl,hgt⟩,Q7q gt];rfl
end
end
section
open Go.RowKit
set_option maxRecDepth 20000
set_option maxHeartbeats 2000000
def findP(l:List Pr)(k:Nat):Nat:=((l.find? fun p=>decide (p.k=k)).map Pr.v).getD 0
end
section
open Go.RowKit
set_option maxRecDepth 20000
set_option maxHeartbeats 2000000
structure Do where
 kind:Int
 a:Int
 b:Int
 n:Nat
 p:Pr
 x:Ac
def Do.ok(o:Do):Prop:=(-9223372036854775808≤o.kind∧o.kind≤9223372036854775807)∧U o.a∧U o.b∧o.n<WW∧o.p.ok∧o.x.ok
def Do.pv(o:Do):List PV:=.v (.int .i64 o.kind) :: .v (.int .u64 o.a) :: .v (.int .u64 o.b)::(wpv o.n++(o.p.pv++o.x.pv))
def RoomS(L:List Ac)(a:Int):Bool:=okSt L&&Q4d L a
theorem okl_lay{L:List Ac}{m:Nat}(hl:L.length≤m)(hm:∀y∈L,Okx y){x:Ac}(hx:Okx x):(Q1p L x).length≤m+1∧∀y∈Q1p L x,Okx y:=⟨by have:=Q2m L x;omega,fun y hy=>by
 rcases Q6n hy with rfl|h
 · exact hx
 · exact hm y h⟩
theorem okx_bal{x:Ac}(h:Okx x){b:Nat}(hb:b<WW):Okx (x.bal b):=by
 obtain⟨⟨h1,h2,h3⟩,h4⟩:=h
 exact⟨⟨h1,hb,h3⟩,h4⟩
theorem X8u{A:List Ac}(hA:A.length≤700)(kA:∀y∈A,Okx y){a b:Int}(ua:U a)(ub:U b)(n:Nat) :
 Q2l A a b n=([],160)∨(a=0∧Q2l A a b n=([],2))∨(a≠0∧b=0∧Q2l A a b n=([],2))∨((OfS A a).b<n∧Q2l A a b n=([],162))∨(RoomS A b=false∧Q2l A a b n=([],6))∨(a=b∧Q2l A a b n=(A,0)) ∨
 (a≠b∧n≤(OfS A a).b∧(OfS A b).b+n<WW∧∃M,Q2l A a b n=(M,0)∧Okl M∧OfS M a=(OfS A a).bal ((OfS A a).b-n)∧OfS M b=(OfS A b).bal ((OfS A b).b+n)∧(Q2l M b a n=(A,0)∨(Q2l M b a n=([],6)∧RoomS M a=false))):=by
 have okA:Okl A:=⟨by omega,kA⟩
 by_cases h:okSt A=false
 · left;unfold Q2l Q4j;simp[h]
 have h:okSt A=true:=by simpa using h
 have hof:∀z,OfS A z=ofS A z:=fun z=>by unfold OfS;rw[if_pos h]
 obtain⟨h1,h2,h3,h4⟩:=Q2x.1 h
 by_cases ha:a=0
 · right;left;exact⟨ha,by unfold Q2l Q4j;simp[h,ha]⟩
 have e0:Q2l A a b n=Q7i A (ofS A a) a b n:=by unfold Q2l Q4j;simp[h,ha]
 by_cases hb:b=0
 · right;right;left;exact⟨ha,hb,by rw[e0];unfold Q7i;rw[if_pos hb]⟩
 by_cases hn:(ofS A a).b<n
 · right;right;right;left
   exact⟨by rw[hof];exact hn,by rw[e0];unfold Q7i;rw[if_neg hb,if_pos hn]⟩
 by_cases hab:a=b
 · right;right;right;right;right;left
   refine⟨hab,?_⟩
   rw[e0]
   unfold Q7i
   rw[if_neg hb,if_neg hn,if_pos (by simp[hab]),Q8d h ha]
 by_cases hn0:n=0
 · right;right;right;right;right;right
   subst hn0
   have bal0:∀x:Ac,x.bal x.b=x:=fun x=>rfl
   have keep:∀c d:Int,c≠0→d≠0→Q2l A c d 0=(A,0):=fun c d hc hd=>by
    unfold Q2l Q4j
    simp only[h,Bool.not_true,Bool.false_eq_true,if_false,if_neg hc]
    unfold Q7i
    rw[if_neg hd,if_neg (by omega),if_pos (by simp),Q8d h hc]
   refine⟨hab,by omega,?_,A,keep a b ha hb,okA,by rw[Nat.sub_zero,bal0],by rw[Nat.add_zero,bal0],.inl (keep b a hb ha)⟩
   rw[hof,Nat.add_zero]
   have:=X4y h1 b
   omega
 by_cases hr:Q4d A b=false
 · right;right;right;right;left
   exact⟨by unfold RoomS;rw[hr,Bool.and_false],by rw[e0,Q9x hb (by omega) hn0 hab,if_pos hr]⟩
 have hr:Q4d A b=true:=by simpa using hr
 right;right;right;right;right;right
 have hn:n≤(ofS A a).b:=by omega
 obtain⟨k1,k2,k3⟩:=moved h ha hb hab hn0 hn hr
 have kb:=X8t h ha hb hab hn0 hn hr
 rw[hof,hof]
 refine⟨hab,hn,k1,_,by rw[e0,Q9x hb hn hn0 hab,hr,if_neg (by simp)],?_,?_,?_,?_⟩
 · have xa:=X2a okA ua
   have xb:=X2a okA ub
   have i1:=okl_lay hA kA (okx_bal xa (b:=(ofS A a).b-n) (Nat.lt_of_le_of_lt (Nat.sub_le _ _) xa.1.2.1))
   have i2:=okl_lay i1.1 i1.2 (okx_bal xb (b:=((ofS A b).b+n)%WW) (Nat.mod_lt _ (by decide)))
   exact⟨by have:=i2.1;omega,i2.2⟩
 · unfold OfS;rw[if_pos k2,k3,if_neg hab,if_pos rfl]
 · unfold OfS;rw[if_pos k2,k3,if_pos rfl]
 · rcases kb with kb|⟨kb,kr⟩
   · exact .inl kb
   · exact .inr ⟨kb,by unfold RoomS;rw[kr,Bool.and_false]⟩
end
section
open Go.RowKit
set_option maxRecDepth 20000
set_option maxHeartbeats 2000000
def pkey(p:Pr):Int:=(p.k:Int)
theorem X2b{l:List Pr}:∀{i:Nat},okTo l i=true→∀j,j<i→okP l j=true
 |0,_,j,hj=>by omega
 |i+1,h,j,hj=>by
  have h:(okTo l i&&okP l i)=true:=h
  rw[Bool.and_eq_true] at h
  by_cases e:j=i
  · rw[e];exact h.2
  · exact X2b h.1 j (by omega)
theorem Q5n{l:List Pr}(h:okTo l l.length=true):Q6v pkey l:=by
 have step:∀j (hj:j+1<l.length),pkey l[j]<pkey l[j+1]:=fun j hj=>by
  have:=X2b h (j+1) hj
  rw[X7q (List.getElem?_eq_getElem (by omega)) (List.getElem?_eq_getElem hj)] at this
  simp only[Bool.and_eq_true,decide_eq_true_eq] at this
  have:=this.2
  unfold pkey
  omega
 have key:∀d i (hi:i+d+1<l.length),pkey l[i]<pkey l[i+d+1]:=fun d=>by
  induction d with
  |zero=>exact fun i hi=>step i hi
  |succ d ih=>exact fun i hi=>Int.lt_trans (ih i (by omega)) (step (i+d+1) hi)
 unfold Q6v
 rw[List.pairwise_iff_getElem]
 intro i j hi hj hij
 have:=key (j-i-1) i (by omega)
 simpa [show i+(j-i-1)+1=j by omega] using this
theorem ltP_eq{l:List Pr}{k:Nat}{i:Nat}(hi:i<l.length):ltP l k i=decide (pkey l[i]<(k:Int)):=by
 unfold ltP pkey
 rw[List.getElem?_eq_getElem hi]
 refine decide_eq_decide.2 ?_
 unfold cmpK
 by_cases h:l[i].k<k
 · rw[if_pos h];exact⟨fun _=>by omega,fun _=>by decide⟩
 · rw[if_neg h]
   constructor
   · intro h2;split at h2<;>omega
   · exact fun h2=>absurd h2 (by omega)
theorem X5j(l:List Pr)(k:Nat):findP l k=((fnd pkey k l).map Pr.v).getD 0:=by
 unfold findP
 induction l with
 |nil=>rfl
 |cons p l ih=>
  rw[List.find?_cons]
  unfold fnd
  by_cases e:p.k=k
  · rw[decide_eq_true e,if_pos (by unfold pkey;omega)]
  · rw[decide_eq_false e,if_neg (by unfold pkey;omega)];exact ih
theorem X8v{x:Ac}(h:okTo x.store x.store.length=true)(k:Nat):loadX x k=findP x.store k:=by
 have hr:=Q5n h
 have hp:=X1l (key:=pkey) (k:=(k:Int)) (lt:=ltP x.store k) hr fun i hi=>ltP_eq hi
 rw[X5j,Q5d hr hp]
 unfold loadX eqP
 cases hz:x.store[bsr (ltP x.store k) x.store.length 0 x.store.length]? with
 |none=>simp
 |some z=>
  simp only[Option.filter_some,decide_eq_true_eq]
  unfold cmpK pkey
  by_cases h1:z.k=k
  · rw[if_pos (show(z.k:Int)=(k:Int) by omega)];simp[h1]
  · rw[if_neg (show ¬(z.k:Int)=(k:Int) by omega)]
    by_cases h2:z.k<k
    · simp[h2]
    · have h3:k<z.k:=by omega
      simp[h2,h3]
theorem X3f{L:List Ac}(h:okSt L=true)(a:Int):okTo (ofS L a).store (ofS L a).store.length=true:=by
 obtain⟨h1,h2,_⟩:=Q2x.1 h
 rw[Q5p h1]
 cases hf:fnd Ac.a a L with
 |none=>rfl
 |some z=>
  have:=(h2 z (Q5s hf).2).1
  unfold okAc at this
  rw[Bool.and_eq_true] at this
  exact this.2
end
section
open Go.RowKit
set_option maxRecDepth 20000
set_option maxHeartbeats 2000000
def Q4q(x:Ac)(p:Pr):Ac:=⟨x.a,x.b,x.n,x.code,pass pkey p (decide (p.v=0)) x.store⟩
end
section
open Go.RowKit
set_option maxRecDepth 20000
set_option maxHeartbeats 2000000
def rsaveS(L:List Ac)(a:Int)(p:Pr):List Ac×Int:=if a=0 then([],2) else if 24<(Q4q (ofS L a) p).store.length then([],6) else putS L (Q4q (ofS L a) p)
end
section
open Go.RowKit
set_option maxRecDepth 20000
set_option maxHeartbeats 2000000
def rmintS(L:List Ac)(a:Int)(n:Nat):List Ac×Int:=if (decide (WW≤(L.map Ac.b).sum+n)||decide (a=0))=true then([],2) else if n=0 then(Q1p L (ofS L a),0) else if Q4d L a=false then([],6) else(Q1p L ((ofS L a).bal (((ofS L a).b+n)%WW)),0)
end
section
open Go.RowKit
set_option maxRecDepth 20000
set_option maxHeartbeats 2000000
def rmoveS(L:List Ac)(fr to:Int)(n:Nat):List Ac×Int:=if (decide (fr=0)||decide (to=0))=true then([],2) else if (ofS L fr).b<n then([],162) else if (decide (n=0)||decide (fr=to))=true then(Q1p L (ofS L fr),0) else if Q4d L to=false then([],6) else(Q1p (Q1p L ((ofS L fr).bal ((ofS L fr).b-n))) ((ofS L to).bal (((ofS L to).b+n)%WW)),0)
theorem move_same{L:List Ac}(h:okSt L=true)(fr to:Int)(n:Nat):Q2l L fr to n=rmoveS L fr to n:=by
 unfold Q2l Q4j rmoveS
 simp only[h,Bool.not_true,Bool.false_eq_true,if_false]
 by_cases h0:fr=0
 · rw[if_pos h0,if_pos (by simp[h0])]
 rw[if_neg h0]
 by_cases h1:to=0
 · unfold Q7i;rw[if_pos h1,if_pos (by simp[h1])]
 rw[if_neg (by simp[h0,h1])]
 by_cases h2:(ofS L fr).b<n
 · unfold Q7i;rw[if_neg h1,if_pos h2,if_pos h2]
 rw[if_neg h2]
 by_cases h3:n=0
 · unfold Q7i;rw[if_neg h1,if_neg h2,if_pos (by simp[h3]),if_pos (by simp[h3])]
 by_cases h4:fr=to
 · unfold Q7i;rw[if_neg h1,if_neg h2,if_pos (by simp[h4]),if_pos (by simp[h4])]
 rw[if_neg (by simp[h3,h4]),Q9x h1 (by omega) h3 h4]
theorem mint_same{L:List Ac}(h:okSt L=true)(a:Int)(n:Nat):Q7d L a n=rmintS L a n:=by
 obtain⟨g1,g2,g3,g4⟩:=Q2x.1 h
 have ea:=Q9o g1 a
 unfold Q7d Q4j rmintS
 simp only[h,Bool.not_true,Bool.false_eq_true,if_false]
 by_cases h0:a=0
 · rw[if_pos h0,if_pos (by simp[h0])]
 rw[if_neg h0]
 by_cases h1:WW≤n+(L.map Ac.b).sum
 · rw[if_pos h1,if_pos (by rw[Nat.add_comm] at h1;simp[h1])]
 rw[if_neg h1,if_neg (by rw[Nat.add_comm] at h1;simp[h1,h0])]
 have hb:=X4y g1 a
 have hlt:(ofS L a).b+n<WW:=by omega
 show putS L ((ofS L a).bal (((ofS L a).b+n)%WW))=_
 rw[Nat.mod_eq_of_lt hlt]
 have xa:((ofS L a).bal ((ofS L a).b+n)).a=a:=ea
 have xb:((ofS L a).bal ((ofS L a).b+n)).b=(ofS L a).b+n:=rfl
 have hs:=Q3y g1 ((ofS L a).bal ((ofS L a).b+n))
 rw[xa,xb] at hs
 unfold putS
 rw[Q7z ((ofS L a).b+n) (Q6m h h0),xa,if_neg (show ¬WW≤((Q1p L ((ofS L a).bal ((ofS L a).b+n))).map Ac.b).sum by omega)]
 simp only[Bool.not_true,Bool.false_eq_true,if_false]
 by_cases h2:n=0
 · rw[if_pos h2]
   subst h2
   have e:(ofS L a).bal ((ofS L a).b+0)=ofS L a:=rfl
   rw[e]
   cases he:Q1s (ofS L a) with
   |true=>simp
   |false=>
    have:Q4d L a=true:=by rw[Q9r h0,Q8e g1 g2,he];rfl
    rw[this];simp
 · rw[if_neg h2]
   have he:Q1s ((ofS L a).bal ((ofS L a).b+n))=false:=by unfold Q1s Ac.bal;simp;omega
   rw[he]
   cases Q4d L a<;>simp
theorem save_same{L:List Ac}(h:okSt L=true)(a:Int)(k v:Nat):saveS L a k v=rsaveS L a ⟨k,v⟩:=by
 unfold saveS Q4j rsaveS
 simp only[h,Bool.not_true,Bool.false_eq_true,if_false]
 by_cases h0:a=0
 · rw[if_pos h0,if_pos h0]
 rw[if_neg h0,if_neg h0]
 have hs:(ofS L a).store.length≤24:=ofS_store h a
 have hr:=Q5n (X3f h a)
 generalize ofS L a=x at hs hr ⊢
 have hp:=X1l (key:=pkey) (k:=(k:Int)) (lt:=ltP x.store k) hr fun i hi=>ltP_eq hi
 have hst:(Q4q x ⟨k,v⟩).store=lay pkey (k:Int) (if decide (v=0) then none else some ⟨k,v⟩) x.store:=Q9t (key:=pkey) (p:=⟨k,v⟩) (decide (v=0)) hr
 have ht:eqP x.store k (bsr (ltP x.store k) x.store.length 0 x.store.length)=(fnd pkey (k:Int) x.store).isSome:=by
  rw[Q5d hr hp]
  unfold eqP
  cases hz:x.store[bsr (ltP x.store k) x.store.length 0 x.store.length]? with
  |none=>rfl
  |some z=>
   simp only[Option.filter_some,decide_eq_true_eq]
   unfold cmpK pkey
   by_cases h1:z.k=k
   · rw[if_pos (show(z.k:Int)=(k:Int) by omega),if_neg (by omega),if_neg (by omega)];rfl
   · rw[if_neg (show ¬(z.k:Int)=(k:Int) by omega)]
     by_cases h2:z.k<k
     · rw[if_pos h2];rfl
     · rw[if_neg h2,if_pos (by omega)];rfl
 rw[X0n hr hp] at hst
 have hple:=hp.le
 have hplt:(fnd pkey (k:Int) x.store).isSome=true→bsr (ltP x.store k) x.store.length 0 x.store.length<x.store.length:=fun h=>by
  rw[Q5d hr hp] at h
  cases hz:x.store[bsr (ltP x.store k) x.store.length 0 x.store.length]? with
  |none=>rw[hz] at h;cases h
  |some z=>exact(List.getElem?_eq_some_iff.1 hz).1
 unfold saveR
 simp only
 rw[ht]
 generalize bsr (ltP x.store k) x.store.length 0 x.store.length=p at hst hple hplt ⊢
 have ext:∀s,(Q4q x ⟨k,v⟩).store=s→Q4q x ⟨k,v⟩={x with store:=s}:=fun s e=>X5u ⟨rfl,rfl,rfl,rfl,e⟩
 cases hf:(fnd pkey (k:Int) x.store).isSome with
 |true=>
  have hlt:=hplt hf
  rw[hf] at hst
  by_cases hv:v=0
  · rw[decide_eq_true hv] at hst ⊢
    simp only[if_true,Option.toList,List.append_nil] at hst
    rw[ext _ hst]
    simp only[Bool.and_self,if_true]
    rw[if_neg (by rw[List.length_append,List.length_take,List.length_drop];omega)]
  · rw[decide_eq_false hv] at hst ⊢
    simp only[Bool.false_eq_true,if_false,if_true,Option.toList,List.append_assoc,List.cons_append,List.nil_append] at hst
    rw[ext _ hst]
    simp only[Bool.and_false,Bool.false_eq_true,if_false,if_true]
    rw[if_neg (by rw[List.length_append,List.length_take,List.length_cons,List.length_drop];omega)]
 |false=>
  rw[hf] at hst
  by_cases hv:v=0
  · rw[decide_eq_true hv] at hst ⊢
    simp only[if_true,Bool.false_eq_true,if_false,Option.toList,List.append_nil,List.take_append_drop] at hst
    rw[ext _ hst]
    simp only[Bool.false_and,Bool.not_true,Bool.false_eq_true,if_false]
    rw[if_neg (by omega)]
  · rw[decide_eq_false hv] at hst ⊢
    simp only[Bool.false_eq_true,if_false,Option.toList,List.append_assoc,List.cons_append,List.nil_append] at hst
    rw[ext _ hst]
    have hl:(x.store.take p++(⟨k,v⟩:Pr)::x.store.drop p).length=x.store.length+1:=by rw[List.length_append,List.length_take,List.length_cons,List.length_drop];omega
    simp only[Bool.false_and,Bool.not_false,Bool.true_and,Bool.false_eq_true,if_false,if_true,decide_eq_true_eq,hl]
    by_cases h24:x.store.length=24
    · rw[if_pos h24,if_pos (by omega)]
    · rw[if_neg h24,if_neg (by omega)]
end
section
open Go.RowKit
set_option maxRecDepth 20000
set_option maxHeartbeats 2000000
def Q6b(o:Do):Int:=(IntKind.u64.wrap o.kind).tmod 5
def doS(L:List Ac)(o:Do):List Ac×Int:=if okSt L then(if Q6b o=0 then putS L (oneA o.x) else if Q6b o=1 then saveS L o.a o.p.k o.p.v else if Q6b o=2 then Q2l L o.a o.b o.n else if Q6b o=3 then Q7d L o.a o.n else Q4j L o.a (lessS L (ofS L o.a) o.n)) else([],160)
end
section
open Go.RowKit
set_option maxHeartbeats 2000000
abbrev totS(L:List Ac):Nat:=(L.map Ac.b).sum
theorem X3e{L:List Ac}(h:okSt L=true){x:Ac}(hx:okAc x=true)(hr:Q1s x=true∨Q4d L x.a=true)(hs:totS (Q1p L x)<WW):okSt (Q1p L x)=true:=by
 obtain⟨h1,h2,h3,h4⟩:=Q2x.1 h
 refine Q2x.2 ⟨Q3g h1 x,Q5h h2 h1 hx,hs,?_⟩
 have m:=X0x h1 x
 have ha:x.a≠0:=by
  unfold okAc at hx
  simp only[Bool.and_eq_true,decide_eq_true_eq] at hx
  exact hx.1.1.1
 rcases hr with hr|hr
 · rw[hr] at m
   simp only[Bool.true_eq_false,and_false,if_false] at m
   split at m<;>omega
 · rw[Q9r ha] at hr
   by_cases hi:isS L x.a=true
   · rw[hi] at m
     simp only[and_true] at m
     split at m<;>split at m<;>omega
   · have hi:isS L x.a=false:=by simpa using hi
     rw[hi] at m hr
     simp only[Bool.false_or,Bool.or_eq_true,decide_eq_true_eq] at hr
     simp only[Bool.false_eq_true,and_false,if_false] at m
     split at m<;>omega
theorem put_ok{L R:List Ac}{x:Ac}(h:okSt L=true)(hr:putS L x=(R,0)):R=Q1p L x∧okSt R=true∧okAc x=true:=by
 unfold putS at hr
 cases h1:okAc x with
 |false=>rw[h1] at hr;cases hr
 |true=>
  rw[h1] at hr
  simp only[Bool.not_true,Bool.false_eq_true,if_false] at hr
  cases h2:(!Q1s x && !Q4d L x.a) with
  |true=>rw[h2] at hr;cases hr
  |false=>
   rw[h2] at hr
   simp only[Bool.false_eq_true,if_false] at hr
   by_cases h3:WW≤((Q1p L x).map Ac.b).sum
   · rw[if_pos h3] at hr;cases hr
   · rw[if_neg h3] at hr
     cases hr
     refine⟨rfl,X3e h h1 ?_ (by unfold totS;omega),rfl⟩
     cases he:Q1s x with
     |true=>exact .inl rfl
     |false=>rw[he] at h2;exact .inr (by simpa using h2)
def KeptS(o:Do)(A R:List Ac):Prop:=
 okSt A=true∧okSt R=true∧R.length≤A.length+2 ∧
 (Q6b o=0→(∀y,y≠o.x.a→ofS R y=ofS A y)∧ofS R o.x.a=oneA o.x) ∧
 (Q6b o=1→(∀y,y≠o.a→ofS R y=ofS A y)∧loadX (ofS R o.a) o.p.k=o.p.v∧totS A=totS R∧(ofS R o.a).b=(ofS A o.a).b) ∧
 (Q6b o=2→(∀y,y≠o.a→y≠o.b→ofS R y=ofS A y)∧totS A=totS R) ∧
 (Q6b o=3→(∀y,y≠o.a→ofS R y=ofS A y)∧totS R=totS A+o.n) ∧
 ((¬Q6b o=0∧¬Q6b o=1∧¬Q6b o=2∧¬Q6b o=3)→(∀y,y≠o.a→ofS R y=ofS A y)∧totS A=totS R+o.n)
theorem kept_of{A R:List Ac}{o:Do}(hr:doS A o=(R,0)):KeptS o A R:=by
 unfold doS at hr
 by_cases h:okSt A=true
 case neg=>rw[if_neg h] at hr;cases hr
 rw[if_pos h] at hr
 obtain⟨g1,g2,g3,g4⟩:=Q2x.1 h
 refine⟨h,?_⟩
 by_cases c0:Q6b o=0
 · rw[if_pos c0] at hr
   obtain⟨rfl,ok,_⟩:=put_ok h hr
   refine⟨ok,by have:=Q2m A (oneA o.x);omega,fun _=>⟨fun y hy=>?_,?_⟩,fun c=>by omega,fun c=>by omega,fun c=>by omega,fun c=>absurd c0 c.1⟩
   · rw[Q2j g1];exact if_neg hy
   · rw[Q2j g1];exact if_pos rfl
 rw[if_neg c0] at hr
 by_cases c1:Q6b o=1
 · rw[if_pos c1,save_same h] at hr
   unfold rsaveS at hr
   by_cases a0:o.a=0
   · rw[if_pos a0] at hr;cases hr
   rw[if_neg a0] at hr
   by_cases a1:24<(Q4q (ofS A o.a) ⟨o.p.k,o.p.v⟩).store.length
   · rw[if_pos a1] at hr;cases hr
   rw[if_neg a1] at hr
   obtain⟨rfl,ok,okx⟩:=put_ok h hr
   have ea:(Q4q (ofS A o.a) ⟨o.p.k,o.p.v⟩).a=o.a:=Q9o g1 o.a
   have eb:(Q4q (ofS A o.a) ⟨o.p.k,o.p.v⟩).b=(ofS A o.a).b:=rfl
   have hs:=Q3y g1 (Q4q (ofS A o.a) ⟨o.p.k,o.p.v⟩)
   rw[ea,eb] at hs
   have hof:ofS (Q1p A (Q4q (ofS A o.a) ⟨o.p.k,o.p.v⟩)) o.a=Q4q (ofS A o.a) ⟨o.p.k,o.p.v⟩:=by rw[Q2j g1,ea,if_pos rfl]
   refine⟨ok,by have:=Q2m A (Q4q (ofS A o.a) ⟨o.p.k,o.p.v⟩);omega,fun c=>absurd c c0,fun _=>⟨fun y hy=>?_,?_,?_,?_⟩,fun c=>by omega,fun c=>by omega,fun c=>absurd c1 c.2.1⟩
   · rw[Q2j g1,ea,if_neg hy]
   · rw[hof]
     have hto:okTo (Q4q (ofS A o.a) ⟨o.p.k,o.p.v⟩).store (Q4q (ofS A o.a) ⟨o.p.k,o.p.v⟩).store.length=true:=by
      unfold okAc at okx
      simp only[Bool.and_eq_true] at okx
      exact okx.2
     rw[X8v hto,X5j]
     have hst:(Q4q (ofS A o.a) ⟨o.p.k,o.p.v⟩).store=lay pkey (o.p.k:Int) (if decide (o.p.v=0) then none else some ⟨o.p.k,o.p.v⟩) (ofS A o.a).store:=Q9t (key:=pkey) (p:=⟨o.p.k,o.p.v⟩) (decide (o.p.v=0)) (Q5n (X3f h o.a))
     rw[hst,X6t (by
      intro x hx
      split at hx
      · cases hx
      · cases hx;rfl) _ (Q5n (X3f h o.a)),if_pos rfl]
     by_cases v0:o.p.v=0
     · rw[decide_eq_true v0,v0];rfl
     · rw[decide_eq_false v0];rfl
   · unfold totS;omega
   · rw[hof];rfl
 rw[if_neg c1] at hr
 by_cases c2:Q6b o=2
 · rw[if_pos c2,move_same h] at hr
   unfold rmoveS at hr
   by_cases a0:(decide (o.a=0)||decide (o.b=0))=true
   · rw[if_pos a0] at hr;cases hr
   rw[if_neg a0] at hr
   simp only[Bool.or_eq_true,decide_eq_true_eq,not_or] at a0
   by_cases a1:(ofS A o.a).b<o.n
   · rw[if_pos a1] at hr;cases hr
   rw[if_neg a1] at hr
   by_cases a2:(decide (o.n=0)||decide (o.a=o.b))=true
   · rw[if_pos a2] at hr
     cases hr
     rw[Q8d h a0.1]
     exact⟨h,by omega,fun c=>absurd c c0,fun c=>absurd c c1,fun _=>⟨fun y _ _=>rfl,rfl⟩,fun c=>by omega,fun c=>absurd c2 c.2.2.1⟩
   rw[if_neg a2] at hr
   simp only[Bool.or_eq_true,decide_eq_true_eq,not_or] at a2
   by_cases a3:Q4d A o.b=false
   · rw[if_pos a3] at hr;cases hr
   rw[if_neg a3] at hr
   have a3:Q4d A o.b=true:=by simpa using a3
   obtain⟨m1,m2,m3⟩:=moved h a0.1 a0.2 a2.2 a2.1 (Nat.le_of_not_lt a1) a3
   cases hr
   refine⟨m2,by have e1:=Q2m A ((ofS A o.a).bal ((ofS A o.a).b-o.n));have e2:=Q2m (Q1p A ((ofS A o.a).bal ((ofS A o.a).b-o.n))) ((ofS A o.b).bal (((ofS A o.b).b+o.n)%WW));omega,fun c=>absurd c c0,fun c=>absurd c c1,fun _=>⟨fun y hy1 hy2=>?_,?_⟩,fun c=>by omega,fun c=>absurd c2 c.2.2.1⟩
   · rw[m3,if_neg hy2,if_neg hy1]
   · have ea:=Q9o g1 o.a
     have eb:=Q9o g1 o.b
     have xa:((ofS A o.a).bal ((ofS A o.a).b-o.n)).a=o.a:=ea
     have ya:((ofS A o.a).bal ((ofS A o.a).b-o.n)).b=(ofS A o.a).b-o.n:=rfl
     have xb:((ofS A o.b).bal (((ofS A o.b).b+o.n)%WW)).a=o.b:=eb
     have yb:((ofS A o.b).bal (((ofS A o.b).b+o.n)%WW)).b=((ofS A o.b).b+o.n)%WW:=rfl
     have s1:=Q3y g1 ((ofS A o.a).bal ((ofS A o.a).b-o.n))
     have r1:=Q3g g1 ((ofS A o.a).bal ((ofS A o.a).b-o.n))
     have s2:=Q3y r1 ((ofS A o.b).bal (((ofS A o.b).b+o.n)%WW))
     rw[xa,ya] at s1
     rw[Q2j g1,xa,xb,yb,if_neg (fun e=>a2.2 e.symm),Nat.mod_eq_of_lt m1] at s2
     rw[Nat.mod_eq_of_lt m1]
     unfold totS
     omega
 rw[if_neg c2] at hr
 by_cases c3:Q6b o=3
 · rw[if_pos c3,mint_same h] at hr
   unfold rmintS at hr
   by_cases a0:(decide (WW≤(A.map Ac.b).sum+o.n)||decide (o.a=0))=true
   · rw[if_pos a0] at hr;cases hr
   rw[if_neg a0] at hr
   simp only[Bool.or_eq_true,decide_eq_true_eq,not_or] at a0
   have ea:=Q9o g1 o.a
   by_cases a1:o.n=0
   · rw[if_pos a1] at hr
     cases hr
     rw[Q8d h a0.2]
     exact⟨h,by omega,fun c=>absurd c c0,fun c=>absurd c c1,fun c=>absurd c c2,fun _=>⟨fun y _=>rfl,by rw[a1];rfl⟩,fun c=>absurd c3 c.2.2.2⟩
   rw[if_neg a1] at hr
   by_cases a2:Q4d A o.a=false
   · rw[if_pos a2] at hr;cases hr
   rw[if_neg a2] at hr
   have a2:Q4d A o.a=true:=by simpa using a2
   have hle:=X4y g1 o.a
   have hm:((ofS A o.a).b+o.n)%WW=(ofS A o.a).b+o.n:=Nat.mod_eq_of_lt (by omega)
   rw[hm] at hr
   cases hr
   have xa:((ofS A o.a).bal ((ofS A o.a).b+o.n)).a=o.a:=ea
   have ya:((ofS A o.a).bal ((ofS A o.a).b+o.n)).b=(ofS A o.a).b+o.n:=rfl
   have s1:=Q3y g1 ((ofS A o.a).bal ((ofS A o.a).b+o.n))
   rw[xa,ya] at s1
   refine⟨X3e h (Q7z _ (Q6m h a0.2)) (.inr (by rw[xa];exact a2)) (by unfold totS;omega),by have e1:=Q2m A ((ofS A o.a).bal ((ofS A o.a).b+o.n));omega,fun c=>absurd c c0,fun c=>absurd c c1,fun c=>absurd c c2,fun _=>⟨fun y hy=>?_,?_⟩,fun c=>absurd c3 c.2.2.2⟩
   · rw[Q2j g1,xa,if_neg hy]
   · unfold totS;omega
 rw[if_neg c3] at hr
 unfold Q4j lessS at hr
 rw[h] at hr
 simp only[Bool.not_true,Bool.false_eq_true,if_false] at hr
 by_cases a0:o.a=0
 · rw[if_pos a0] at hr;cases hr
 rw[if_neg a0] at hr
 by_cases a1:(ofS A o.a).b<o.n
 · rw[if_pos a1] at hr;cases hr
 rw[if_neg a1] at hr
 have ea:=Q9o g1 o.a
 have hR:Q1p A ((ofS A o.a).bal ((ofS A o.a).b-o.n))=R:=by
  have:=congrArg Prod.fst hr
  exact this
 subst hR
 clear hr
 have xa:((ofS A o.a).bal ((ofS A o.a).b-o.n)).a=o.a:=ea
 have ya:((ofS A o.a).bal ((ofS A o.a).b-o.n)).b=(ofS A o.a).b-o.n:=rfl
 have s1:=Q3y g1 ((ofS A o.a).bal ((ofS A o.a).b-o.n))
 have hle:=X4y g1 o.a
 rw[xa,ya] at s1
 refine⟨X3e h (Q7z _ (Q6m h a0)) ?_ (by unfold totS;omega),by have e1:=Q2m A ((ofS A o.a).bal ((ofS A o.a).b-o.n));omega,fun c=>absurd c c0,fun c=>absurd c c1,fun c=>absurd c c2,fun c=>absurd c c3,fun _=>⟨fun y hy=>?_,?_⟩⟩
 · cases he:Q1s ((ofS A o.a).bal ((ofS A o.a).b-o.n)) with
   |true=>exact .inl rfl
   |false=>
    right
    rw[xa,Q9r a0,Q8e g1 g2]
    cases he2:Q1s (ofS A o.a) with
    |false=>rfl
    |true=>
     unfold Q1s at he he2
     simp only[Bool.and_eq_true,decide_eq_true_eq] at he2
     have:decide (((ofS A o.a).bal ((ofS A o.a).b-o.n)).b=0)=true:=decide_eq_true (by rw[ya];omega)
     rw[this] at he
     have e2:((ofS A o.a).bal ((ofS A o.a).b-o.n)).n=0:=he2.1.2
     have e3:((ofS A o.a).bal ((ofS A o.a).b-o.n)).code.length+((ofS A o.a).bal ((ofS A o.a).b-o.n)).store.length=0:=he2.2
     rw[e2,e3] at he
     simp at he
 · rw[Q2j g1,xa,if_neg hy]
 · unfold totS;omega
end
namespace lg
open Go.RowKit
open Nat (reduceBEq)
set_option maxRecDepth 20000
set_option maxHeartbeats 2000000
theorem dep_no(ex:Bool)(l:List Hd)(hl:l.length≤maxLen)(ok:∀h∈l,h.ok)(a:Int)(ua:U a)(n:Nat)(hn:n<WW)(hE:(gate l a (fitsE l a n)==0)=false):Fn Tryz.prog 74 [lg ex l,vi .u64 a,wN n] [] (.tup [lgN,vi .i64 (gate l a (fitsE l a n))]) []:=by
 have fo:=findH_ok ok ua
 have W:Fn Tryz.prog 94 [lg ex l,vi .u64 a,.fn 95 [.ptr 1101 0]] [(1101,(cW n))] (.tup [lgN,vi .i64 (gate l a (fitsE l a n))]) [(1101,(cW n))]:=by
  refine Q8o ex l hl ok a 95 _ Tryz.func95 (by kernel_rfl) (by kernel_rfl) [.v (.int .u64 (l0 n)),.v (.int .u64 (l1 n)),.v (.int .u64 (l2 n)),.v (.int .u64 (l3 n))] (findH l a).a (((findH l a).p+n)%WW) ((findH l a).s) ((findH l a).d) ((findH l a).f) (fitsE l a n) hE (fun hl4 he=>?_)
  · have:=dep1_fn ex l hl4 ok (findH l a).a (findH l a).p (findH l a).s (findH l a).d (findH l a).f n fo.2.1 hn
    rw[show fitsE l (findH l a).a n=fitsE l a n by rw[X1c]] at this
    exact this
 generalize gate l a (fitsE l a n)=E at W ⊢
 (refine Q0n Tryz.func74 rfl (by rfl) ?_;simp only[Tryz.ntmps74,List.length_cons,List.length_nil,Nat.reduceAdd,Nat.reduceSub,List.replicate,List.cons_append,List.nil_append])
 (repeat(any_goals(first|((with_reducible refine Q0i ?_ ?_ ?_);rfl;rfl;intro K hK;(apply Q0y (W) (fun r=>if r=1101 then 5 else r);rfl;rfl;rfl;rfl;exact Tryz.func94;kernel_rfl;rfl;rfl;(intro r hr q hq h;simp only[List.map_cons,List.map_nil,List.cons_append,List.nil_append,List.mem_cons,List.not_mem_nil,or_false] at hr hq;(try dsimp only at h);first|omega);(simp only[Q1e,Q1y,AV.ren,AV.renL,Q0p,List.mem_cons,List.not_mem_nil,forall_eq_or_imp,forall_eq,Q1v,List.contains_cons,List.contains_nil,AV.refsL,AV.refs,Q0m,AV.inN,AV.inNL,inH,Q0x,go_sem]));(simp only[Q0t,Q1w,renH,AV.ren,AV.renL,Q0p,go_sem];refine hK _ ?_;clear hK K))|((with_reducible refine Q0c ?_ ?_);rfl;intro K hK;simp only[go_sem];((repeat(refine ndI (by first|assumption) ?_));refine hK _ ?_;clear hK K))|(with_reducible first|(refine Q0d ?_;refine hR _ ?_;clear hR R)|((first|refine Q0e ?_);intro Ψ hΨ hΨ')|(refine Q0a ?_;intro R hR)|(refine hΨ _ ?_;clear hΨ hΨ' Ψ)|refine Q0h ?_))))
 all_goals(refine⟨by simp,⟨_,?_,AV.le_refl _⟩,Q0g (by simp[leH,hget])⟩;simp only[Tryz.results74,resL,ldA,Q0o,go_sem])
theorem dep_ok(ex:Bool)(l:List Hd)(hl:l.length≤maxLen)(ok:∀h∈l,h.ok)(a:Int)(ua:U a)(n:Nat)(hn:n<WW)(hE:gate l a (fitsE l a n)=0):Fn Tryz.prog 74 [lg ex l,vi .u64 a,wN n] [] (.tup [.agg [.row 44 70 11 (putL l (depH (findH l a) n)).length],vi .i64 0]) [(44,rcH (putL l (depH (findH l a) n)))]:=by
 have fo:=findH_ok ok ua
 obtain⟨hk,ha,he⟩:=gate_zero hE
 have hl4:l.length≤400:=Nat.le_trans (Q4t hk) (by decide)
 have W:Fn Tryz.prog 94 [lg ex l,vi .u64 a,.fn 95 [.ptr 1101 0]] [(1101,(cW n))] (.tup [.agg [.row 44 70 11 (putL l (depH (findH l a) n)).length],vi .i64 0]) [(1101,(cW n)),(44,rcH (putL l (depH (findH l a) n)))]:=by
  refine X2o ex l hl4 ok hk a ha 95 _ Tryz.func95 (by kernel_rfl) (by kernel_rfl) [.v (.int .u64 (l0 n)),.v (.int .u64 (l1 n)),.v (.int .u64 (l2 n)),.v (.int .u64 (l3 n))] [.v (.int .u64 (l0 n)),.v (.int .u64 (l1 n)),.v (.int .u64 (l2 n)),.v (.int .u64 (l3 n))] (findH l a).a (((findH l a).p+n)%WW) ((findH l a).s) ((findH l a).d) ((findH l a).f) (Nat.mod_lt _ (by decide)) fo.2.2.1 ?_
  · have:=dep1_fn ex l hl4 ok (findH l a).a (findH l a).p (findH l a).s (findH l a).d (findH l a).f n fo.2.1 hn
    rw[show fitsE l (findH l a).a n=fitsE l a n by rw[X1c],he] at this
    exact this
 generalize putL l (depH (findH l a) n)=m at W ⊢
 (refine Q0n Tryz.func74 rfl (by rfl) ?_;simp only[Tryz.ntmps74,List.length_cons,List.length_nil,Nat.reduceAdd,Nat.reduceSub,List.replicate,List.cons_append,List.nil_append])
 (repeat(any_goals(first|((with_reducible refine Q0i ?_ ?_ ?_);rfl;rfl;intro K hK;(apply Q0y (W) (fun r=>if r=1101 then 5 else r);rfl;rfl;rfl;rfl;exact Tryz.func94;kernel_rfl;rfl;rfl;(intro r hr q hq h;simp only[List.map_cons,List.map_nil,List.cons_append,List.nil_append,List.mem_cons,List.not_mem_nil,or_false] at hr hq;(try dsimp only at h);first|(rcases hr with rfl|rfl|rfl<;>rcases hq with rfl|rfl|rfl<;>simp at h ⊢));(simp only[Q1e,Q1y,AV.ren,AV.renL,Q0p,List.mem_cons,List.not_mem_nil,forall_eq_or_imp,forall_eq,Q1v,List.contains_cons,List.contains_nil,AV.refsL,AV.refs,Q0m,AV.inN,AV.inNL,inH,Q0x,go_sem]));(simp only[Q0t,Q1w,renH,AV.ren,AV.renL,Q0p,go_sem];refine hK _ ?_;clear hK K))|((with_reducible refine Q0c ?_ ?_);rfl;intro K hK;simp only[go_sem];((repeat(refine ndI (by first|assumption) ?_));refine hK _ ?_;clear hK K))|(with_reducible first|(refine Q0d ?_;refine hR _ ?_;clear hR R)|((first|refine Q0e ?_);intro Ψ hΨ hΨ')|(refine Q0a ?_;intro R hR)|(refine hΨ _ ?_;clear hΨ hΨ' Ψ)|refine Q0h ?_))))
 all_goals(refine⟨by simp,⟨_,?_,AV.le_refl _⟩,Q0g (by simp[leH,hget])⟩;simp only[Tryz.results74,resL,ldA,Q0o,go_sem])
theorem wdr_no(ex:Bool)(l:List Hd)(hl:l.length≤maxLen)(ok:∀h∈l,h.ok)(a:Int)(ua:U a)(n:Nat)(hn:n<WW)(hE:(gate l a (wdrE (findH l a) n)==0)=false):Fn Tryz.prog 77 [lg ex l,vi .u64 a,wN n] [] (.tup [lgN,vi .i64 (gate l a (wdrE (findH l a) n))]) []:=by
 have fo:=findH_ok ok ua
 have W:Fn Tryz.prog 94 [lg ex l,vi .u64 a,.fn 97 [.ptr 1101 0]] [(1101,(cW n))] (.tup [lgN,vi .i64 (gate l a (wdrE (findH l a) n))]) [(1101,(cW n))]:=by
  refine Q8o ex l hl ok a 97 _ Tryz.func97 (by kernel_rfl) (by kernel_rfl) [.v (.int .u64 (l0 n)),.v (.int .u64 (l1 n)),.v (.int .u64 (l2 n)),.v (.int .u64 (l3 n))] (findH l a).a ((findH l a).p) ((findH l a).s) ((findH l a).d) ((findH l a).f) (wdrE (findH l a) n) hE (fun hl4 he=>?_)
  · have h1:(findH l a).p<n:=by
     unfold wdrE at he
     by_cases h1:(findH l a).p<n
     · exact h1
     · rw[if_neg h1] at he;cases he
    rw[show wdrE (findH l a) n=162 from if_pos h1]
    exact wdr1_no ex l (findH l a).a (findH l a).p (findH l a).s (findH l a).d (findH l a).f n fo.2.1 hn h1
 generalize gate l a (wdrE (findH l a) n)=E at W ⊢
 (refine Q0n Tryz.func77 rfl (by rfl) ?_;simp only[Tryz.ntmps77,List.length_cons,List.length_nil,Nat.reduceAdd,Nat.reduceSub,List.replicate,List.cons_append,List.nil_append])
 (repeat(any_goals(first|((with_reducible refine Q0i ?_ ?_ ?_);rfl;rfl;intro K hK;(apply Q0y (W) (fun r=>if r=1101 then 5 else r);rfl;rfl;rfl;rfl;exact Tryz.func94;kernel_rfl;rfl;rfl;(intro r hr q hq h;simp only[List.map_cons,List.map_nil,List.cons_append,List.nil_append,List.mem_cons,List.not_mem_nil,or_false] at hr hq;(try dsimp only at h);first|omega);(simp only[Q1e,Q1y,AV.ren,AV.renL,Q0p,List.mem_cons,List.not_mem_nil,forall_eq_or_imp,forall_eq,Q1v,List.contains_cons,List.contains_nil,AV.refsL,AV.refs,Q0m,AV.inN,AV.inNL,inH,Q0x,go_sem]));(simp only[Q0t,Q1w,renH,AV.ren,AV.renL,Q0p,go_sem];refine hK _ ?_;clear hK K))|((with_reducible refine Q0c ?_ ?_);rfl;intro K hK;simp only[go_sem];((repeat(refine ndI (by first|assumption) ?_));refine hK _ ?_;clear hK K))|(with_reducible first|(refine Q0d ?_;refine hR _ ?_;clear hR R)|((first|refine Q0e ?_);intro Ψ hΨ hΨ')|(refine Q0a ?_;intro R hR)|(refine hΨ _ ?_;clear hΨ hΨ' Ψ)|refine Q0h ?_))))
 all_goals(refine⟨by simp,⟨_,?_,AV.le_refl _⟩,Q0g (by simp[leH,hget])⟩;simp only[Tryz.results77,resL,ldA,Q0o,go_sem])
theorem wdr_ok(ex:Bool)(l:List Hd)(hl:l.length≤maxLen)(ok:∀h∈l,h.ok)(a:Int)(ua:U a)(n:Nat)(hn:n<WW)(hE:gate l a (wdrE (findH l a) n)=0):Fn Tryz.prog 77 [lg ex l,vi .u64 a,wN n] [] (.tup [.agg [.row 44 70 11 (putL l (wdrH (findH l a) n)).length],vi .i64 0]) [(44,rcH (putL l (wdrH (findH l a) n)))]:=by
 have fo:=findH_ok ok ua
 obtain⟨hk,ha,he⟩:=gate_zero hE
 have hl4:l.length≤400:=Nat.le_trans (Q4t hk) (by decide)
 have W:Fn Tryz.prog 94 [lg ex l,vi .u64 a,.fn 97 [.ptr 1101 0]] [(1101,(cW n))] (.tup [.agg [.row 44 70 11 (putL l (wdrH (findH l a) n)).length],vi .i64 0]) [(1101,(cW n)),(44,rcH (putL l (wdrH (findH l a) n)))]:=by
  refine X2o ex l hl4 ok hk a ha 97 _ Tryz.func97 (by kernel_rfl) (by kernel_rfl) [.v (.int .u64 (l0 n)),.v (.int .u64 (l1 n)),.v (.int .u64 (l2 n)),.v (.int .u64 (l3 n))] [.v (.int .u64 (l0 n)),.v (.int .u64 (l1 n)),.v (.int .u64 (l2 n)),.v (.int .u64 (l3 n))] (findH l a).a ((findH l a).p-n) ((findH l a).s) ((findH l a).d) ((findH l a).f) (Nat.lt_of_le_of_lt (Nat.sub_le _ _) fo.2.1) fo.2.2.1 ?_
  · have h1:¬(findH l a).p<n:=by
     intro h1
     unfold wdrE at he
     rw[if_pos h1] at he;cases he
    exact wdr1_ok ex l (findH l a).a (findH l a).p (findH l a).s (findH l a).d (findH l a).f n fo.2.1 hn h1
 generalize putL l (wdrH (findH l a) n)=m at W ⊢
 (refine Q0n Tryz.func77 rfl (by rfl) ?_;simp only[Tryz.ntmps77,List.length_cons,List.length_nil,Nat.reduceAdd,Nat.reduceSub,List.replicate,List.cons_append,List.nil_append])
 (repeat(any_goals(first|((with_reducible refine Q0i ?_ ?_ ?_);rfl;rfl;intro K hK;(apply Q0y (W) (fun r=>if r=1101 then 5 else r);rfl;rfl;rfl;rfl;exact Tryz.func94;kernel_rfl;rfl;rfl;(intro r hr q hq h;simp only[List.map_cons,List.map_nil,List.cons_append,List.nil_append,List.mem_cons,List.not_mem_nil,or_false] at hr hq;(try dsimp only at h);first|(rcases hr with rfl|rfl|rfl<;>rcases hq with rfl|rfl|rfl<;>simp at h ⊢));(simp only[Q1e,Q1y,AV.ren,AV.renL,Q0p,List.mem_cons,List.not_mem_nil,forall_eq_or_imp,forall_eq,Q1v,List.contains_cons,List.contains_nil,AV.refsL,AV.refs,Q0m,AV.inN,AV.inNL,inH,Q0x,go_sem]));(simp only[Q0t,Q1w,renH,AV.ren,AV.renL,Q0p,go_sem];refine hK _ ?_;clear hK K))|((with_reducible refine Q0c ?_ ?_);rfl;intro K hK;simp only[go_sem];((repeat(refine ndI (by first|assumption) ?_));refine hK _ ?_;clear hK K))|(with_reducible first|(refine Q0d ?_;refine hR _ ?_;clear hR R)|((first|refine Q0e ?_);intro Ψ hΨ hΨ')|(refine Q0a ?_;intro R hR)|(refine hΨ _ ?_;clear hΨ hΨ' Ψ)|refine Q0h ?_))))
 all_goals(refine⟨by simp,⟨_,?_,AV.le_refl _⟩,Q0g (by simp[leH,hget])⟩;simp only[Tryz.results77,resL,ldA,Q0o,go_sem])
theorem bond_no(ex:Bool)(l:List Hd)(hl:l.length≤maxLen)(ok:∀h∈l,h.ok)(a:Int)(ua:U a)(n:Nat)(y:Int)(hn:n<WW)(hE:(gate l a (bondE l a (findH l a) n y)==0)=false):Fn Tryz.prog 78 [lg ex l,vi .u64 a,wN n,vi .u64 y] [] (.tup [lgN,vi .i64 (gate l a (bondE l a (findH l a) n y))]) []:=by
 have fo:=findH_ok ok ua
 have W:Fn Tryz.prog 94 [lg ex l,vi .u64 a,.fn 98 [.ptr 1101 0,.ptr 1102 0]] [(1101,[vi .u64 y]),(1102,(cW n))] (.tup [lgN,vi .i64 (gate l a (bondE l a (findH l a) n y))]) [(1101,[vi .u64 y]),(1102,(cW n))]:=by
  cases h1:dly (findH l a).d y with
  |true=>
   refine Q6w ex l hl ok a 98 _ Tryz.func98 (by kernel_rfl) (by kernel_rfl) [.v (.int .u64 y)] [.v (.int .u64 (l0 n)),.v (.int .u64 (l1 n)),.v (.int .u64 (l2 n)),.v (.int .u64 (l3 n))] (findH l a).a ((findH l a).p) ((findH l a).s) ((findH l a).d) ((findH l a).f) (bondE l a (findH l a) n y) hE (fun hl4 he=>?_)
   rw[show bondE l a (findH l a) n y=2 from if_pos h1]
   exact bond1_arg ex l (findH l a).a (findH l a).p (findH l a).s (findH l a).d (findH l a).f n y h1
  |false=>
   cases h2:(decide ((findH l a).s=0)&&decide (n=0)) with
   |true=>
    refine Q6w ex l hl ok a 98 _ Tryz.func98 (by kernel_rfl) (by kernel_rfl) [.v (.int .u64 y)] [.v (.int .u64 (l0 n)),.v (.int .u64 (l1 n)),.v (.int .u64 (l2 n)),.v (.int .u64 (l3 n))] (findH l a).a ((findH l a).p) ((findH l a).s) ((findH l a).d) ((findH l a).f) (bondE l a (findH l a) n y) hE (fun hl4 he=>?_)
    rw[show bondE l a (findH l a) n y=172 by unfold bondE;rw[if_neg (by rw[h1];decide),if_pos h2]]
    exact X9e ex l (findH l a).a (findH l a).p (findH l a).s (findH l a).d (findH l a).f n y fo.2.2.1 hn h1 h2
   |false=>
    refine Q6w ex l hl ok a 98 _ Tryz.func98 (by kernel_rfl) (by kernel_rfl) [.v (.int .u64 y)] [.v (.int .u64 (l0 n)),.v (.int .u64 (l1 n)),.v (.int .u64 (l2 n)),.v (.int .u64 (l3 n))] (findH l a).a ((findH l a).p) (((findH l a).s+n)%WW) (y) (0) (bondE l a (findH l a) n y) hE (fun hl4 he=>?_)
    rw[show bondE l a (findH l a) n y=fitsE l (findH l a).a n by unfold bondE;rw[if_neg (by rw[h1];decide),if_neg (by rw[h2];decide),X1c]]
    exact X7z ex l hl4 ok (findH l a).a (findH l a).p (findH l a).s (findH l a).d (findH l a).f n y fo.2.2.1 hn h1 h2
 generalize gate l a (bondE l a (findH l a) n y)=E at W ⊢
 (refine Q0n Tryz.func78 rfl (by rfl) ?_;simp only[Tryz.ntmps78,List.length_cons,List.length_nil,Nat.reduceAdd,Nat.reduceSub,List.replicate,List.cons_append,List.nil_append])
 (repeat(any_goals(first|((with_reducible refine Q0i ?_ ?_ ?_);rfl;rfl;intro K hK;(apply Q0y (W) (fun r=>if r=1101 then 7 else if r=1102 then 6 else r);rfl;rfl;rfl;rfl;exact Tryz.func94;kernel_rfl;rfl;rfl;(intro r hr q hq h;simp only[List.map_cons,List.map_nil,List.cons_append,List.nil_append,List.mem_cons,List.not_mem_nil,or_false] at hr hq;(try dsimp only at h);first|((repeat' split at h)<;>omega));(simp only[Q1e,Q1y,AV.ren,AV.renL,Q0p,List.mem_cons,List.not_mem_nil,forall_eq_or_imp,forall_eq,Q1v,List.contains_cons,List.contains_nil,AV.refsL,AV.refs,Q0m,AV.inN,AV.inNL,inH,Q0x,go_sem]));(simp only[Q0t,Q1w,renH,AV.ren,AV.renL,Q0p,go_sem];refine hK _ ?_;clear hK K))|((with_reducible refine Q0c ?_ ?_);rfl;intro K hK;simp only[go_sem];((repeat(refine ndI (by first|assumption) ?_));refine hK _ ?_;clear hK K))|(with_reducible first|(refine Q0d ?_;refine hR _ ?_;clear hR R)|((first|refine Q0e ?_);intro Ψ hΨ hΨ')|(refine Q0a ?_;intro R hR)|(refine hΨ _ ?_;clear hΨ hΨ' Ψ)|refine Q0h ?_))))
 all_goals(refine⟨by simp,⟨_,?_,AV.le_refl _⟩,Q0g (by simp[leH,hget])⟩;simp only[Tryz.results78,resL,ldA,Q0o,go_sem])
theorem bond_ok(ex:Bool)(l:List Hd)(hl:l.length≤maxLen)(ok:∀h∈l,h.ok)(a:Int)(ua:U a)(n:Nat)(y:Int)(hn:n<WW)(hE:gate l a (bondE l a (findH l a) n y)=0):Fn Tryz.prog 78 [lg ex l,vi .u64 a,wN n,vi .u64 y] [] (.tup [.agg [.row 44 70 11 (putL l (bondH (findH l a) n y)).length],vi .i64 0]) [(44,rcH (putL l (bondH (findH l a) n y)))]:=by
 have fo:=findH_ok ok ua
 obtain⟨hk,ha,he⟩:=gate_zero hE
 have hl4:l.length≤400:=Nat.le_trans (Q4t hk) (by decide)
 have W:Fn Tryz.prog 94 [lg ex l,vi .u64 a,.fn 98 [.ptr 1101 0,.ptr 1102 0]] [(1101,[vi .u64 y]),(1102,(cW n))] (.tup [.agg [.row 44 70 11 (putL l (bondH (findH l a) n y)).length],vi .i64 0]) [(1101,[vi .u64 y]),(1102,(cW n)),(44,rcH (putL l (bondH (findH l a) n y)))]:=by
  refine X7a ex l hl4 ok hk a ha 98 _ Tryz.func98 (by kernel_rfl) (by kernel_rfl) [.v (.int .u64 y)] [.v (.int .u64 (l0 n)),.v (.int .u64 (l1 n)),.v (.int .u64 (l2 n)),.v (.int .u64 (l3 n))] [.v (.int .u64 y)] [.v (.int .u64 (l0 n)),.v (.int .u64 (l1 n)),.v (.int .u64 (l2 n)),.v (.int .u64 (l3 n))] (findH l a).a ((findH l a).p) (((findH l a).s+n)%WW) (y) (0) fo.2.1 (Nat.mod_lt _ (by decide)) ?_
  · unfold bondE at he
    cases h1:dly (findH l a).d y with
    |true=>rw[if_pos h1] at he;cases he
    |false=>
     rw[if_neg (by rw[h1];decide)] at he
     cases h2:(decide ((findH l a).s=0)&&decide (n=0)) with
     |true=>rw[if_pos h2] at he;cases he
     |false=>
      rw[if_neg (by rw[h2];decide)] at he
      have:=X7z ex l hl4 ok (findH l a).a (findH l a).p (findH l a).s (findH l a).d (findH l a).f n y fo.2.2.1 hn h1 h2
      rw[show fitsE l (findH l a).a n=fitsE l a n by rw[X1c],he] at this
      exact this
 generalize putL l (bondH (findH l a) n y)=m at W ⊢
 (refine Q0n Tryz.func78 rfl (by rfl) ?_;simp only[Tryz.ntmps78,List.length_cons,List.length_nil,Nat.reduceAdd,Nat.reduceSub,List.replicate,List.cons_append,List.nil_append])
 (repeat(any_goals(first|((with_reducible refine Q0i ?_ ?_ ?_);rfl;rfl;intro K hK;(apply Q0y (W) (fun r=>if r=1101 then 7 else if r=1102 then 6 else r);rfl;rfl;rfl;rfl;exact Tryz.func94;kernel_rfl;rfl;rfl;(intro r hr q hq h;simp only[List.map_cons,List.map_nil,List.cons_append,List.nil_append,List.mem_cons,List.not_mem_nil,or_false] at hr hq;(try dsimp only at h);first|((repeat' split at h)<;>omega));(simp only[Q1e,Q1y,AV.ren,AV.renL,Q0p,List.mem_cons,List.not_mem_nil,forall_eq_or_imp,forall_eq,Q1v,List.contains_cons,List.contains_nil,AV.refsL,AV.refs,Q0m,AV.inN,AV.inNL,inH,Q0x,go_sem]));(simp only[Q0t,Q1w,renH,AV.ren,AV.renL,Q0p,go_sem];refine hK _ ?_;clear hK K))|((with_reducible refine Q0c ?_ ?_);rfl;intro K hK;simp only[go_sem];((repeat(refine ndI (by first|assumption) ?_));refine hK _ ?_;clear hK K))|(with_reducible first|(refine Q0d ?_;refine hR _ ?_;clear hR R)|((first|refine Q0e ?_);intro Ψ hΨ hΨ')|(refine Q0a ?_;intro R hR)|(refine hΨ _ ?_;clear hΨ hΨ' Ψ)|refine Q0h ?_))))
 all_goals(refine⟨by simp,⟨_,?_,AV.le_refl _⟩,Q0g (by simp[leH,hget])⟩;simp only[Tryz.results78,resL,ldA,Q0o,go_sem])
theorem unl_no(ex:Bool)(l:List Hd)(hl:l.length≤maxLen)(ok:∀h∈l,h.ok)(a:Int)(ua:U a)(y:Int)(hy:U y)(hE:(gate l a (unlE (findH l a) y)==0)=false):Fn Tryz.prog 80 [lg ex l,vi .u64 a,vi .u64 y] [] (.tup [lgN,vi .i64 (gate l a (unlE (findH l a) y))]) []:=by
 have fo:=findH_ok ok ua
 have W:Fn Tryz.prog 94 [lg ex l,vi .u64 a,.fn 99 [.ptr 1101 0]] [(1101,[vi .u64 y])] (.tup [lgN,vi .i64 (gate l a (unlE (findH l a) y))]) [(1101,[vi .u64 y])]:=by
  refine Q8o ex l hl ok a 99 _ Tryz.func99 (by kernel_rfl) (by kernel_rfl) [.v (.int .u64 y)] (findH l a).a ((findH l a).p) ((findH l a).s) ((findH l a).d) ((findH l a).f) (unlE (findH l a) y) hE (fun hl4 he=>?_)
  · unfold unlE at he ⊢
    by_cases h1:y>1099511627776
    · rw[if_pos h1]
      exact unl1_late ex l (findH l a).a (findH l a).p (findH l a).s (findH l a).d (findH l a).f y h1
    · rw[if_neg h1] at he ⊢
      cases h2:(!decide ((findH l a).s=0)&&((findH l a).f==0)) with
      |false=>
       rw[if_pos rfl]
       exact unl1_no ex l (findH l a).a (findH l a).p (findH l a).s (findH l a).d (findH l a).f y fo.2.2.1 h1 h2
      |true=>rw[h2,if_neg (by decide)] at he;cases he
 generalize gate l a (unlE (findH l a) y)=E at W ⊢
 (refine Q0n Tryz.func80 rfl (by rfl) ?_;simp only[Tryz.ntmps80,List.length_cons,List.length_nil,Nat.reduceAdd,Nat.reduceSub,List.replicate,List.cons_append,List.nil_append])
 (repeat(any_goals(first|((with_reducible refine Q0i ?_ ?_ ?_);rfl;rfl;intro K hK;(apply Q0y (W) (fun r=>if r=1101 then 5 else r);rfl;rfl;rfl;rfl;exact Tryz.func94;kernel_rfl;rfl;rfl;(intro r hr q hq h;simp only[List.map_cons,List.map_nil,List.cons_append,List.nil_append,List.mem_cons,List.not_mem_nil,or_false] at hr hq;(try dsimp only at h);first|omega);(simp only[Q1e,Q1y,AV.ren,AV.renL,Q0p,List.mem_cons,List.not_mem_nil,forall_eq_or_imp,forall_eq,Q1v,List.contains_cons,List.contains_nil,AV.refsL,AV.refs,Q0m,AV.inN,AV.inNL,inH,Q0x,go_sem]));(simp only[Q0t,Q1w,renH,AV.ren,AV.renL,Q0p,go_sem];refine hK _ ?_;clear hK K))|((with_reducible refine Q0c ?_ ?_);rfl;intro K hK;simp only[go_sem];((repeat(refine ndI (by first|assumption) ?_));refine hK _ ?_;clear hK K))|(with_reducible first|(refine Q0d ?_;refine hR _ ?_;clear hR R)|((first|refine Q0e ?_);intro Ψ hΨ hΨ')|(refine Q0a ?_;intro R hR)|(refine hΨ _ ?_;clear hΨ hΨ' Ψ)|refine Q0h ?_))))
 all_goals(refine⟨by simp,⟨_,?_,AV.le_refl _⟩,Q0g (by simp[leH,hget])⟩;simp only[Tryz.results80,resL,ldA,Q0o,go_sem])
theorem unl_ok(ex:Bool)(l:List Hd)(hl:l.length≤maxLen)(ok:∀h∈l,h.ok)(a:Int)(ua:U a)(y:Int)(hy:U y)(hE:gate l a (unlE (findH l a) y)=0):Fn Tryz.prog 80 [lg ex l,vi .u64 a,vi .u64 y] [] (.tup [.agg [.row 44 70 11 (putL l (unlH (findH l a) y)).length],vi .i64 0]) [(44,rcH (putL l (unlH (findH l a) y)))]:=by
 have fo:=findH_ok ok ua
 obtain⟨hk,ha,he⟩:=gate_zero hE
 have hl4:l.length≤400:=Nat.le_trans (Q4t hk) (by decide)
 have W:Fn Tryz.prog 94 [lg ex l,vi .u64 a,.fn 99 [.ptr 1101 0]] [(1101,[vi .u64 y])] (.tup [.agg [.row 44 70 11 (putL l (unlH (findH l a) y)).length],vi .i64 0]) [(1101,[vi .u64 y]),(44,rcH (putL l (unlH (findH l a) y)))]:=by
  refine X2o ex l hl4 ok hk a ha 99 _ Tryz.func99 (by kernel_rfl) (by kernel_rfl) [.v (.int .u64 y)] [.v (.int .u64 y)] (findH l a).a ((findH l a).p) ((findH l a).s) ((findH l a).d) ((y+(findH l a).d)) fo.2.1 fo.2.2.1 ?_
  · unfold unlE at he
    by_cases h1:y>1099511627776
    · rw[if_pos h1] at he;cases he
    · rw[if_neg h1] at he
      cases h2:(!decide ((findH l a).s=0)&&((findH l a).f==0)) with
      |false=>rw[h2,if_pos rfl] at he;cases he
      |true=>exact unl1_ok ex l (findH l a).a (findH l a).p (findH l a).s (findH l a).d (findH l a).f y fo.2.2.1 h1 h2 hy.1 fo.2.2.2.1.1 (findH_d hk a)
 generalize putL l (unlH (findH l a) y)=m at W ⊢
 (refine Q0n Tryz.func80 rfl (by rfl) ?_;simp only[Tryz.ntmps80,List.length_cons,List.length_nil,Nat.reduceAdd,Nat.reduceSub,List.replicate,List.cons_append,List.nil_append])
 (repeat(any_goals(first|((with_reducible refine Q0i ?_ ?_ ?_);rfl;rfl;intro K hK;(apply Q0y (W) (fun r=>if r=1101 then 5 else r);rfl;rfl;rfl;rfl;exact Tryz.func94;kernel_rfl;rfl;rfl;(intro r hr q hq h;simp only[List.map_cons,List.map_nil,List.cons_append,List.nil_append,List.mem_cons,List.not_mem_nil,or_false] at hr hq;(try dsimp only at h);first|(rcases hr with rfl|rfl|rfl<;>rcases hq with rfl|rfl|rfl<;>simp at h ⊢));(simp only[Q1e,Q1y,AV.ren,AV.renL,Q0p,List.mem_cons,List.not_mem_nil,forall_eq_or_imp,forall_eq,Q1v,List.contains_cons,List.contains_nil,AV.refsL,AV.refs,Q0m,AV.inN,AV.inNL,inH,Q0x,go_sem]));(simp only[Q0t,Q1w,renH,AV.ren,AV.renL,Q0p,go_sem];refine hK _ ?_;clear hK K))|((with_reducible refine Q0c ?_ ?_);rfl;intro K hK;simp only[go_sem];((repeat(refine ndI (by first|assumption) ?_));refine hK _ ?_;clear hK K))|(with_reducible first|(refine Q0d ?_;refine hR _ ?_;clear hR R)|((first|refine Q0e ?_);intro Ψ hΨ hΨ')|(refine Q0a ?_;intro R hR)|(refine hΨ _ ?_;clear hΨ hΨ' Ψ)|refine Q0h ?_))))
 all_goals(refine⟨by simp,⟨_,?_,AV.le_refl _⟩,Q0g (by simp[leH,hget])⟩;simp only[Tryz.results80,resL,ldA,Q0o,go_sem])
theorem rel_no(ex:Bool)(l:List Hd)(hl:l.length≤maxLen)(ok:∀h∈l,h.ok)(a:Int)(ua:U a)(y:Int)(hE:(gate l a (relE (findH l a) y)==0)=false):Fn Tryz.prog 81 [lg ex l,vi .u64 a,vi .u64 y] [] (.tup [lgN,wN 0,vi .i64 (gate l a (relE (findH l a) y))]) []:=by
 have fo:=findH_ok ok ua
 have W:Fn Tryz.prog 94 [lg ex l,vi .u64 a,.fn 101 [.ptr 1101 0,.ptr 1102 0]] [(1101,[vi .u64 y]),(1102,(cW 0))] (.tup [lgN,vi .i64 (gate l a (relE (findH l a) y))]) [(1101,[vi .u64 y]),(1102,(cW 0))]:=by
  refine Q6w ex l hl ok a 101 _ Tryz.func101 (by kernel_rfl) (by kernel_rfl) [.v (.int .u64 y)] [.v (.int .u64 (l0 0)),.v (.int .u64 (l1 0)),.v (.int .u64 (l2 0)),.v (.int .u64 (l3 0))] (findH l a).a ((findH l a).p) ((findH l a).s) ((findH l a).d) ((findH l a).f) (relE (findH l a) y) hE (fun hl4 he=>?_)
  · unfold relE at he ⊢
    by_cases h1:y>1099511627776
    · rw[if_pos h1]
      exact rel1_late ex l (findH l a).a (findH l a).p (findH l a).s (findH l a).d (findH l a).f y h1
    · rw[if_neg h1] at he ⊢
      by_cases h2:(findH l a).s=0
      · rw[if_pos h2]
        exact rel1_none ex l (findH l a).a (findH l a).p (findH l a).s (findH l a).d (findH l a).f y fo.2.2.1 h1 h2
      · rw[if_neg h2] at he ⊢
        by_cases h3:(findH l a).f=0∨y<(findH l a).f
        · rw[if_pos h3]
          exact rel1_lock ex l (findH l a).a (findH l a).p (findH l a).s (findH l a).d (findH l a).f y fo.2.2.1 h1 h2 h3
        · rw[if_neg h3] at he;cases he
 simp only[cW,Q2q,Q2p,Q2o,Q2n] at W
 generalize gate l a (relE (findH l a) y)=E at W ⊢
 simp only[wN,w4,Q2q,Q2p,Q2o,Q2n]
 (refine Q0n Tryz.func81 rfl (by rfl) ?_;simp only[Tryz.ntmps81,List.length_cons,List.length_nil,Nat.reduceAdd,Nat.reduceSub,List.replicate,List.cons_append,List.nil_append])
 (repeat(any_goals(first|((with_reducible refine Q0i ?_ ?_ ?_);rfl;rfl;intro K hK;(apply Q0y (W) (fun r=>if r=1101 then 5 else if r=1102 then 9 else r);rfl;rfl;rfl;rfl;exact Tryz.func94;kernel_rfl;rfl;rfl;(intro r hr q hq h;simp only[List.map_cons,List.map_nil,List.cons_append,List.nil_append,List.mem_cons,List.not_mem_nil,or_false] at hr hq;(try dsimp only at h);first|((repeat' split at h)<;>omega));(simp only[Q1e,Q1y,AV.ren,AV.renL,Q0p,List.mem_cons,List.not_mem_nil,forall_eq_or_imp,forall_eq,Q1v,List.contains_cons,List.contains_nil,AV.refsL,AV.refs,Q0m,AV.inN,AV.inNL,inH,Q0x,go_sem]));(simp only[Q0t,Q1w,renH,AV.ren,AV.renL,Q0p,go_sem];refine hK _ ?_;clear hK K))|((with_reducible refine Q0c ?_ ?_);rfl;intro K hK;simp only[go_sem];((repeat(refine ndI (by first|assumption|rfl) ?_));refine hK _ ?_;clear hK K))|(with_reducible first|(refine Q0d ?_;refine hR _ ?_;clear hR R)|((first|refine Q0e ?_);intro Ψ hΨ hΨ')|(refine Q0a ?_;intro R hR)|(refine hΨ _ ?_;clear hΨ hΨ' Ψ)|refine Q0h ?_)|((with_reducible refine Q0v ?_ ?_);kernel_rfl;(with_reducible refine hR _ ?_);clear hR R)|(((with_reducible apply Q0w);rfl;rfl;(simp only[rdE,rdOf,go_sem];rfl);(intro τ hA hQ hN;((try simp only[Q1a,Op.operands,Call.operands,go_sem,List.mem_cons,List.not_mem_nil,forall_eq_or_imp,forall_eq,List.append_toArray,Option.toArray] at hA);(try simp only[go_sem,List.mem_cons,List.not_mem_nil,forall_eq_or_imp,forall_eq] at hQ hN);(first|(revert hA;intro hA));(first|(revert hQ;intro hQ));(first|(revert hN;intro hN));simp only[go_sem,hA,hQ,hN];(repeat(refine ndI (by first|assumption) ?_));(first|apply Q0z|apply Q2g))));(simp only[St.eff,setO,Q0t,go_sem]))|((with_reducible refine Q0q ?_ ?_ ?_ ?_);kernel_rfl;kernel_rfl;(first|kernel_rfl);intro R hR))))
 all_goals(refine⟨by simp,⟨_,?_,AV.le_refl _⟩,Q0g (by simp[leH,hget])⟩;simp only[Tryz.results81,resL,ldA,Q0o,go_sem])
theorem rel_ok(ex:Bool)(l:List Hd)(hl:l.length≤maxLen)(ok:∀h∈l,h.ok)(a:Int)(ua:U a)(y:Int)(hE:gate l a (relE (findH l a) y)=0):Fn Tryz.prog 81 [lg ex l,vi .u64 a,vi .u64 y] [] (.tup [.agg [.row 44 70 11 (putL l (relH (findH l a))).length],wN (findH l a).s,vi .i64 0]) [(44,rcH (putL l (relH (findH l a))))]:=by
 have fo:=findH_ok ok ua
 obtain⟨hk,ha,he⟩:=gate_zero hE
 have hl4:l.length≤400:=Nat.le_trans (Q4t hk) (by decide)
 have W:Fn Tryz.prog 94 [lg ex l,vi .u64 a,.fn 101 [.ptr 1101 0,.ptr 1102 0]] [(1101,[vi .u64 y]),(1102,(cW 0))] (.tup [.agg [.row 44 70 11 (putL l (relH (findH l a))).length],vi .i64 0]) [(1101,[vi .u64 y]),(1102,(cW (findH l a).s)),(44,rcH (putL l (relH (findH l a))))]:=by
  refine X7a ex l hl4 ok hk a ha 101 _ Tryz.func101 (by kernel_rfl) (by kernel_rfl) [.v (.int .u64 y)] [.v (.int .u64 (l0 0)),.v (.int .u64 (l1 0)),.v (.int .u64 (l2 0)),.v (.int .u64 (l3 0))] [.v (.int .u64 y)] [.v (.int .u64 (l0 (findH l a).s)),.v (.int .u64 (l1 (findH l a).s)),.v (.int .u64 (l2 (findH l a).s)),.v (.int .u64 (l3 (findH l a).s))] (findH l a).a ((findH l a).p) (0) (0) (0) fo.2.1 (by decide) ?_
  · unfold relE at he
    by_cases h1:y>1099511627776
    · rw[if_pos h1] at he;cases he
    · rw[if_neg h1] at he
      by_cases h2:(findH l a).s=0
      · rw[if_pos h2] at he;cases he
      · rw[if_neg h2] at he
        by_cases h3:(findH l a).f=0∨y<(findH l a).f
        · rw[if_pos h3] at he;cases he
        · exact rel1_ok ex l (findH l a).a (findH l a).p (findH l a).s (findH l a).d (findH l a).f y fo.2.2.1 h1 h2 (fun h=>h3 (.inl h)) (fun h=>h3 (.inr h))
 simp only[cW,Q2q,Q2p,Q2o,Q2n] at W
 generalize putL l (relH (findH l a))=m at W ⊢
 generalize (findH l a).s=was at W ⊢
 (refine Q0n Tryz.func81 rfl (by rfl) ?_;simp only[Tryz.ntmps81,List.length_cons,List.length_nil,Nat.reduceAdd,Nat.reduceSub,List.replicate,List.cons_append,List.nil_append])
 (repeat(any_goals(first|((with_reducible refine Q0i ?_ ?_ ?_);rfl;rfl;intro K hK;(apply Q0y (W) (fun r=>if r=1101 then 5 else if r=1102 then 9 else r);rfl;rfl;rfl;rfl;exact Tryz.func94;kernel_rfl;rfl;rfl;(intro r hr q hq h;simp only[List.map_cons,List.map_nil,List.cons_append,List.nil_append,List.mem_cons,List.not_mem_nil,or_false] at hr hq;(try dsimp only at h);first|((repeat' split at h)<;>omega));(simp only[Q1e,Q1y,AV.ren,AV.renL,Q0p,List.mem_cons,List.not_mem_nil,forall_eq_or_imp,forall_eq,Q1v,List.contains_cons,List.contains_nil,AV.refsL,AV.refs,Q0m,AV.inN,AV.inNL,inH,Q0x,go_sem]));(simp only[Q0t,Q1w,renH,AV.ren,AV.renL,Q0p,go_sem];refine hK _ ?_;clear hK K))|((with_reducible refine Q0c ?_ ?_);rfl;intro K hK;simp only[go_sem];((repeat(refine ndI (by first|assumption|rfl) ?_));refine hK _ ?_;clear hK K))|(with_reducible first|(refine Q0d ?_;refine hR _ ?_;clear hR R)|((first|refine Q0e ?_);intro Ψ hΨ hΨ')|(refine Q0a ?_;intro R hR)|(refine hΨ _ ?_;clear hΨ hΨ' Ψ)|refine Q0h ?_)|((with_reducible refine Q0v ?_ ?_);kernel_rfl;(with_reducible refine hR _ ?_);clear hR R)|(((with_reducible apply Q0w);rfl;rfl;(simp only[rdE,rdOf,go_sem];rfl);(intro τ hA hQ hN;((try simp only[Q1a,Op.operands,Call.operands,go_sem,List.mem_cons,List.not_mem_nil,forall_eq_or_imp,forall_eq,List.append_toArray,Option.toArray] at hA);(try simp only[go_sem,List.mem_cons,List.not_mem_nil,forall_eq_or_imp,forall_eq] at hQ hN);(first|(revert hA;intro hA));(first|(revert hQ;intro hQ));(first|(revert hN;intro hN));simp only[go_sem,hA,hQ,hN];(repeat(refine ndI (by first|assumption) ?_));(first|apply Q0z|apply Q2g))));(simp only[St.eff,setO,Q0t,go_sem]))|((with_reducible refine Q0q ?_ ?_ ?_ ?_);kernel_rfl;kernel_rfl;(first|kernel_rfl);intro R hR))))
 all_goals(refine⟨by simp,⟨_,?_,AV.le_refl _⟩,Q0g (by simp[leH,hget])⟩;simp only[Tryz.results81,resL,ldA,Q0o,go_sem])
end lg
namespace lg
open Go.RowKit
set_option maxRecDepth 20000
set_option maxHeartbeats 2000000
theorem Fn.res{P:Program}{f:FuncId}{args:List AV}{H0 H1:List (Nat×List AV)}{res res':AV}(h:Fn P f args H0 res H1)(hr:∀S ι w v,RV S ι w v res→RV S ι w v res'):Fn P f args H0 res' H1:=by
 intro E vs hD hS hH hlen hargs
 refine(h E vs hD hS hH hlen hargs).mono fun e w'=>?_
 rintro ⟨v,ι',rfl,hres,hc,hk⟩
 exact⟨v,ι',rfl,hr _ _ _ _ hres,hc,hk⟩
theorem imp_nil{S:Nat→Prop}{ι : Nat→Nat×Nat×Nat}{w:World}{v:Value}(h:RV S ι w v nilS):RV S ι w v (hsl false []):=by
 cases h with
 |c _ _ hp=>
  cases hp with
  |v _ _=>exact .c _ _ (.sl false 11 none 0 0 [] [] (Nat.le_refl _) (Nat.zero_le _) (fun _=>rfl) (fun h=>by cases h) rfl rfl (fun h=>absurd rfl h) (fun j u x hu=>by cases hu))
theorem imp_lgN{S:Nat→Prop}{ι : Nat→Nat×Nat×Nat}{w:World}{v:Value}(h:RV S ι w v lgN):RV S ι w v (lg false []):=by
 cases h with
 |agg us _ hl h1 h=>
  refine .agg us _ hl h1 fun j u x hu hx=>?_
  cases j with
  |zero=>
   simp only[List.getElem?_cons_zero,Option.some.injEq] at hx
   subst hx
   exact imp_nil (h 0 u nilS hu rfl)
  |succ j=>simp at hx
theorem imp_tup{S:Nat→Prop}{ι : Nat→Nat×Nat×Nat}{w:World}{v:Value}{r:List AV}(h:RV S ι w v (.tup (lgN::r))):RV S ι w v (.tup (lg false []::r)):=by
 cases h with
 |tup us _ hl h=>
  refine .tup us _ hl fun j u x hu hx=>?_
  cases j with
  |zero=>
   simp only[List.getElem?_cons_zero,Option.some.injEq] at hx
   subst hx
   exact imp_lgN (h 0 u lgN hu rfl)
  |succ j=>exact h (j+1) u x hu (by simpa using hx)
theorem val_tup{P:Program}{f:FuncId}{args r:List AV}{m:List Hd}(hr:∀pcs,AV.frzL 44 pcs r=r)(h:Fn P f args [] (.tup (.agg [.row 44 70 11 m.length]::r)) [(44,rcH m)]):Fn P f args [] (.tup (lg false m::r)) []:=by
 have h2:=Fn.frzG (pcs:=m.flatMap Hd.pv) h
 simpa [AV.frz,AV.frzL,hr,Q0u hd_len,-List.length_flatMap] using h2
theorem val2{P:Program}{f:FuncId}{args:List AV}{E:Int}{m:List Hd}(hno:(E==0)=false→Fn P f args [] (.tup [lgN,vi .i64 E]) [])(hok:E=0→Fn P f args [] (.tup [.agg [.row 44 70 11 m.length],vi .i64 0]) [(44,rcH m)]) :
 Fn P f args [] (.tup [lg false (if E=0 then m else[]),vi .i64 E]) []:=by
 by_cases h:E=0
 · subst h
   rw[if_pos rfl]
   exact val_tup (fun _=>rfl) (hok rfl)
 · rw[if_neg h]
   exact Fn.res (hno (by simp[h])) fun _ _ _ _=>imp_tup
theorem val3{P:Program}{f:FuncId}{args:List AV}{E:Int}{m:List Hd}{s:Nat}(hno:(E==0)=false→Fn P f args [] (.tup [lgN,wN 0,vi .i64 E]) [])(hok:E=0→Fn P f args [] (.tup [.agg [.row 44 70 11 m.length],wN s,vi .i64 0]) [(44,rcH m)]) :
 Fn P f args [] (.tup [lg false (if E=0 then m else[]),wN (if E=0 then s else 0),vi .i64 E]) []:=by
 by_cases h:E=0
 · subst h
   rw[if_pos rfl,if_pos rfl]
   exact val_tup (fun _=>rfl) (hok rfl)
 · rw[if_neg h,if_neg h]
   exact Fn.res (hno (by simp[h])) fun _ _ _ _=>imp_tup
structure Dd where
 k:Int
 a:Int
 n:Nat
 y:Int
 t:Int
def Dd.ok(D:Dd):Prop:=U D.a∧D.n<WW∧U D.y∧U D.t
def Dd.q(D:Dd):Int:=(IntKind.u64.wrap D.k).tmod 5
def Dd.er(D:Dd)(l:List Hd)(h:Hd):Int:=if D.q=0 then fitsE l D.a D.n else if D.q=1 then wdrE h D.n else if D.q=2 then bondE l D.a h D.n D.y else if D.q=3 then unlE h D.t else relE h D.t
def Dd.row(D:Dd)(h:Hd):Hd:=if D.q=0 then depH h D.n else if D.q=1 then wdrH h D.n else if D.q=2 then bondH h D.n D.y else if D.q=3 then unlH h D.t else relH h
def Dd.E(D:Dd)(l:List Hd):Int:=gate l D.a (D.er l (findH l D.a))
def Dd.M(D:Dd)(l:List Hd):List Hd:=if D.E l=0 then putL l (D.row (findH l D.a)) else[]
def Dd.W(D:Dd)(l:List Hd):Nat:=if D.q=0∨D.q=1∨D.q=2∨D.q=3 then 0 else if D.E l=0 then(findH l D.a).s else 0
end lg
namespace lg
open Go.RowKit
set_option maxRecDepth 20000
set_option maxHeartbeats 2000000
def srt(l:List Hd):Prop:=l.Pairwise fun x y=>x.a<y.a
theorem X2d{l:List Hd}{i:Nat}{y:Hd}(h:l[i]? = some y):X1s l (i+1)=y.a:=by
 show(match l[i]? with|some y=>y.a|none=>0)=y.a
 rw[h]
theorem okU_of{l:List Hd}:∀{n:Nat},(∀i,i<n→okR l i=true)→okU l n=true
 |0,_=>rfl
 |n+1,h=>by
  unfold okU
  rw[okU_of fun i hi=>h i (by omega),h n (by omega)];rfl
theorem okL_srt{l:List Hd}(h:okL l=true):srt l:=by
 unfold okL at h
 rw[Bool.and_eq_true,Bool.and_eq_true] at h
 have hR:=X6i h.2.1
 have key:∀j,∀i,i<j→∀(hj:j<l.length) (hi:i<l.length),l[i].a<l[j].a:=by
  intro j
  induction j with
  |zero=>intro i hi;omega
  |succ j ih=>
   intro i hi hj hi'
   have h1:=hR (j+1) hj
   unfold okR at h1
   rw[List.getElem?_eq_getElem hj] at h1
   dsimp only at h1
   rw[Bool.and_eq_true,decide_eq_true_eq,X2d (List.getElem?_eq_getElem (by omega:j<l.length))] at h1
   rcases Nat.lt_or_ge i j with h2|h2
   · exact Int.lt_trans (ih i h2 (by omega) hi') h1.2
   · obtain rfl:i=j:=by omega
     exact h1.2
 unfold srt
 rw[List.pairwise_iff_getElem]
 intro i j hi hj hij
 exact key j i hij hj hi
theorem okL_of{l:List Hd}(h24:l.length≤24)(hr:∀h∈l,Q5w h=true)(hp:∀h∈l,0≤h.a)(hs:srt l)(ht:tot l<WW):okL l=true:=by
 unfold okL
 rw[decide_eq_true h24,decide_eq_true ht,Bool.and_true,Bool.true_and]
 refine okU_of fun i hi=>?_
 unfold okR
 rw[List.getElem?_eq_getElem hi]
 dsimp only
 rw[hr _ (List.getElem_mem hi),Bool.true_and,decide_eq_true_eq]
 cases i with
 |zero=>
  have h1:=hr _ (List.getElem_mem hi)
  have h2:=hp _ (List.getElem_mem hi)
  unfold Q5w at h1
  simp only[Bool.and_eq_true,bne_iff_ne,ne_eq] at h1
  show(0:Int)<_
  omega
 |succ i=>
  rw[X2d (List.getElem?_eq_getElem (by omega:i<l.length))]
  exact(List.pairwise_iff_getElem.1 hs) i (i+1) (by omega) hi (by omega)
def Q4h(h:Hd):Bool:=decide (h.p=0)&&decide (h.s=0)
def zH(a:Int):Hd:=⟨a,0,0,0,0⟩
theorem cutA{l:List Hd}(hs:srt l)(a:Int):∃(A:List Hd) (o:Option Hd) (B:List Hd),l=A++(o.toList++B)∧(∀x∈A,x.a<a)∧(∀x∈o,x.a=a)∧(∀x∈B,a<x.a)∧isA l a=o.isSome∧findH l a=o.getD (zH a)∧∀h:Hd,h.a=a→putL l h=A++((if Q4h h=true then[] else[h])++B):=by
 have hle:=X6e l a
 have hA:∀x∈l.take (posA l a),x.a<a:=by
  intro x hx
  obtain⟨i,hi,rfl⟩:=List.getElem_of_mem hx
  rw[List.length_take] at hi
  rw[List.getElem_take]
  have hlt:i<l.findIdx fun h=>decide (a≤h.a):=by
   have:posA l a=l.findIdx fun h=>decide (a≤h.a):=rfl
   omega
  have:=List.not_of_lt_findIdx hlt
  simpa using this
 rcases Nat.lt_or_ge (posA l a) l.length with hlt|hge
 · have hat:a≤(l[posA l a]).a:=by
    have h2:l.findIdx (fun h=>decide (a≤h.a))<l.length:=hlt
    have:=List.findIdx_getElem (w:=h2)
    exact of_decide_eq_true this
   have hl:l=l.take (posA l a)++l[posA l a]::l.drop (posA l a+1):=by
    conv=>lhs;rw[←List.take_append_drop (posA l a) l,List.drop_eq_getElem_cons hlt]
   have hB:∀x∈l.drop (posA l a+1),(l[posA l a]).a<x.a:=by
    intro x hx
    unfold srt at hs
    rw[hl,List.pairwise_append] at hs
    exact(List.pairwise_cons.1 hs.2.1).1 x hx
   have hg:=List.getElem?_eq_getElem hlt
   by_cases he:(l[posA l a]).a=a
   · have hi:isA l a=true:=by unfold isA;rw[hg];simp[he]
     refine⟨l.take (posA l a),some l[posA l a],l.drop (posA l a+1),hl,hA,fun x hx=>by cases hx;exact he,fun x hx=>by have:=hB x hx;omega,hi,by unfold findH;rw[hg];simp[he],?_⟩
     intro h hh
     have hrem:remL l a=l.take (posA l a)++l.drop (posA l a+1):=by unfold remL;rw[if_pos hi]
     unfold putL
     rw[hh,hrem,List.take_append_of_le_length (by simp;omega),List.take_take,Nat.min_self,List.drop_append_of_le_length (by simp;omega)]
     have:(l.take (posA l a)).drop (posA l a)=[]:=List.drop_eq_nil_of_le (by simp;omega)
     rw[this,List.nil_append]
     unfold Q4h
     split<;>rfl
   · have hi:isA l a=false:=by unfold isA;rw[hg];simp[he]
     refine⟨l.take (posA l a),none,l.drop (posA l a),(List.take_append_drop _ _).symm,hA,fun x hx=>(by cases hx),fun x hx=>?_,hi,by unfold findH;rw[hg];simp[he,zH],?_⟩
     · rw[List.drop_eq_getElem_cons hlt] at hx
       rcases List.mem_cons.1 hx with rfl|hx
       · omega
       · have:=hB x hx;omega
     · intro h hh
       have hrem:remL l a=l:=by unfold remL;rw[if_neg (by rw[hi];decide)]
       unfold putL
       rw[hh,hrem]
       unfold Q4h
       split
       · exact(List.take_append_drop _ _).symm
       · rfl
 · have hp:posA l a=l.length:=by omega
   have hg:l[posA l a]? = none:=List.getElem?_eq_none (by omega)
   have hi:isA l a=false:=by unfold isA;rw[hg]
   refine⟨l,none,[],by simp,by rwa [hp,List.take_length] at hA,fun x hx=>(by cases hx),fun x hx=>(by cases hx),hi,by unfold findH;rw[hg];rfl,?_⟩
   intro h hh
   have hrem:remL l a=l:=by unfold remL;rw[if_neg (by rw[hi];decide)]
   unfold putL
   rw[hh,hrem,hp,List.take_length,List.drop_length]
   unfold Q4h
   split<;>simp
theorem X8g(l m:List Hd):tot (l++m)=tot l+tot m:=by simp[tot]
theorem tot_cons(h:Hd)(l:List Hd):tot (h::l)=h.p+h.s+tot l:=by simp[tot]
theorem X6n{l:List Hd}(hs:srt l)(h x:Hd):x∈putL l h↔(x∈l∧x.a≠h.a)∨(x=h∧Q4h h=false):=by
 obtain⟨A,o,B,rfl,hA,ho,hB,_,_,hp⟩:=cutA hs h.a
 rw[hp h rfl]
 constructor
 · intro hx
   rcases List.mem_append.1 hx with hx|hx
   · exact .inl ⟨List.mem_append.2 (.inl hx),by have:=hA x hx;omega⟩
   rcases List.mem_append.1 hx with hx|hx
   · split at hx
     · cases hx
     · rename_i he
       exact .inr ⟨by simpa using hx,by simpa using he⟩
   · exact .inl ⟨by simp[hx],by have:=hB x hx;omega⟩
 · rintro (⟨hx,hne⟩|⟨rfl,he⟩)
   · rcases List.mem_append.1 hx with hx|hx
     · exact List.mem_append.2 (.inl hx)
     rcases List.mem_append.1 hx with hx|hx
     · exact absurd (ho x (by simpa using hx)) hne
     · simp[hx]
   · simp[he]
theorem srt_put{l:List Hd}(hs:srt l)(h:Hd):srt (putL l h):=by
 obtain⟨A,o,B,rfl,hA,ho,hB,_,_,hp⟩:=cutA hs h.a
 rw[hp h rfl]
 unfold srt at hs ⊢
 rw[List.pairwise_append,List.pairwise_append] at hs
 obtain⟨h1,⟨h2,h3,h4⟩,h5⟩:=hs
 rw[List.pairwise_append,List.pairwise_append]
 refine⟨h1,⟨by split<;>simp,h3,?_⟩,?_⟩
 · intro x hx y hy
   split at hx
   · cases hx
   · obtain rfl:x=h:=by simpa using hx
     exact hB y hy
 · intro x hx y hy
   rcases List.mem_append.1 hy with hy|hy
   · split at hy
     · cases hy
     · obtain rfl:y=h:=by simpa using hy
       exact hA x hx
   · exact h5 x hx y (by simp[hy])
theorem tot_put{l:List Hd}(hs:srt l)(h:Hd):tot (putL l h)+((findH l h.a).p+(findH l h.a).s)=tot l+(h.p+h.s):=by
 obtain⟨A,o,B,rfl,hA,ho,hB,_,hf,hp⟩:=cutA hs h.a
 rw[hp h rfl,hf]
 simp only[X8g]
 have h1:tot (if Q4h h=true then[] else[h])=h.p+h.s:=by
  split
  · rename_i he
    unfold Q4h at he
    simp only[Bool.and_eq_true,decide_eq_true_eq] at he
    simp[tot,he]
  · simp[tot]
 have h2:tot o.toList=(o.getD (zH h.a)).p+(o.getD (zH h.a)).s:=by
  cases o<;>simp[tot,zH]
 omega
theorem len_put{l:List Hd}(hs:srt l)(h:Hd):(putL l h).length+(if isA l h.a=true then 1 else 0)=l.length+(if Q4h h=true then 0 else 1):=by
 obtain⟨A,o,B,rfl,hA,ho,hB,hi,hf,hp⟩:=cutA hs h.a
 rw[hp h rfl,hi]
 cases o<;>cases Q4h h<;>simp<;>omega
theorem isA_mem{l:List Hd}(hs:srt l){a:Int}(h:isA l a=true):findH l a∈l:=by
 obtain⟨A,o,B,rfl,hA,ho,hB,hi,hf,_⟩:=cutA hs a
 rw[hi] at h
 cases o with
 |none=>cases h
 |some z=>rw[hf];simp
theorem isA_no{l:List Hd}(hs:srt l){a:Int}(h:isA l a=false):findH l a=zH a:=by
 obtain⟨A,o,B,rfl,hA,ho,hB,hi,hf,_⟩:=cutA hs a
 rw[hi] at h
 cases o with
 |none=>rw[hf];rfl
 |some z=>cases h
end lg
namespace lg
open Go.RowKit
set_option maxRecDepth 20000
set_option maxHeartbeats 2000000
def gr(h:Hd):Prop:=h.d≤1073741824∧h.f≤1100585369600∧(h.d=0↔h.s=0)∧(h.f=0∨h.s≠0)
theorem X1z(h:Hd):Q5w h=true↔h.a≠0∧gr h∧Q4h h=false:=by
 unfold Q5w gr Q4h
 simp only[Bool.and_eq_true,Bool.or_eq_true,Bool.not_eq_true',bne_iff_ne,ne_eq,decide_eq_true_eq,decide_eq_false_iff_not,beq_iff_eq]
 constructor
 · rintro ⟨h1,h2,h3,h4,h5,h6⟩
   refine⟨h1,⟨h2,h3,?_,h6⟩,h4⟩
   by_cases e:h.s=0
   · simp[e] at h5 ⊢;exact h5
   · simp[e] at h5 ⊢;exact h5
 · rintro ⟨h1,⟨h2,h3,h5,h6⟩,h4⟩
   refine⟨h1,h2,h3,h4,?_,h6⟩
   by_cases e:h.s=0
   · simp[e] at h5 ⊢;exact h5
   · simp[e] at h5 ⊢;exact h5
theorem gr_zH(a:Int):gr (zH a):=⟨(by decide:(0:Int)≤1073741824),(by decide:(0:Int)≤1100585369600),by simp[zH],.inl rfl⟩
theorem findH_gr{l:List Hd}(h:okL l=true)(a:Int):gr (findH l a):=by
 cases hi:isA l a with
 |true=>exact((X1z _).1 (X0u h (isA_mem (okL_srt h) hi))).2.1
 |false=>rw[isA_no (okL_srt h) hi];exact gr_zH a
theorem tot_mem{l:List Hd}{y:Hd}(h:y∈l):y.p+y.s≤tot l:=by
 induction l with
 |nil=>cases h
 |cons x l ih=>
  rw[tot_cons]
  rcases List.mem_cons.1 h with rfl|h
  · omega
  · have:=ih h;omega
theorem findH_tot{l:List Hd}(h:okL l=true)(a:Int):(findH l a).p+(findH l a).s≤tot l:=by
 cases hi:isA l a with
 |true=>exact tot_mem (isA_mem (okL_srt h) hi)
 |false=>rw[isA_no (okL_srt h) hi];exact Nat.zero_le _
theorem okL_put{l:List Hd}(hk:okL l=true)(ok:∀x∈l,x.ok){h:Hd}(ha:h.a≠0)(ho:h.ok)(hg:Q4h h=false→gr h)(hlen:isA l h.a=true∨Q4h h=true∨l.length≠24)(htot:tot l+(h.p+h.s)<WW+((findH l h.a).p+(findH l h.a).s)):okL (putL l h)=true:=by
 have hs:=okL_srt hk
 have h24:=Q4t hk
 refine okL_of ?_ ?_ ?_ (srt_put hs h) ?_
 · have:=len_put hs h
   rcases hlen with e|e|e
   · rw[e,if_pos rfl] at this;split at this<;>omega
   · rw[e,if_pos rfl] at this;split at this<;>omega
   · split at this<;>split at this<;>omega
 · intro x hx
   rcases(X6n hs h x).1 hx with⟨hx,_⟩|⟨rfl,he⟩
   · exact X0u hk hx
   · exact(X1z _).2 ⟨ha,hg he,he⟩
 · intro x hx
   rcases(X6n hs h x).1 hx with⟨hx,_⟩|⟨rfl,he⟩
   · exact(ok x hx).1.1
   · exact ho.1.1
 · have:=tot_put hs h
   omega
theorem ok_put{l:List Hd}(hk:okL l=true)(ok:∀x∈l,x.ok){h:Hd}(ho:h.ok):∀x∈putL l h,x.ok:=by
 intro x hx
 rcases(X6n (okL_srt hk) h x).1 hx with⟨hx,_⟩|⟨rfl,he⟩
 · exact ok x hx
 · exact ho
theorem X5h{l:List Hd}{a:Int}{n:Nat}(h:fitsE l a n=0):n+tot l<WW∧(isA l a=true∨n=0∨l.length≠24):=by
 unfold fitsE at h
 by_cases h1:WW≤n+tot l
 · rw[if_pos h1] at h;cases h
 · rw[if_neg h1] at h
   refine⟨by omega,?_⟩
   cases h2:isA l a with
   |true=>exact .inl rfl
   |false=>
    by_cases h3:n=0
    · exact .inr (.inl h3)
    · by_cases h4:l.length=24
      · rw[h2,if_pos (by simp[h3,h4])] at h;cases h
      · exact .inr (.inr h4)
structure RowOk (l:List Hd) (D:Dd) (h r:Hd):Prop where
 a:r.a=D.a
 ok:r.ok
 g:gr r
 len:isA l D.a=true∨Q4h r=true∨l.length≠24
 tot:tot l+(r.p+r.s)<WW+(h.p+h.s)
 sum:(D.q=0∨D.q=2)∧r.p+r.s=h.p+h.s+D.n∨D.q=1∧r.p+r.s+D.n=h.p+h.s∨(D.q≠0∧D.q≠1∧D.q≠2)∧r.p+r.s+D.W l=h.p+h.s∧(D.q=3→D.W l=0)
 two:(D.q=0∨D.q=1)∧r.s=h.s∧r.d=h.d∧r.f=h.f∨(D.q≠0∧D.q≠1)∧r.p=h.p
theorem X1g{h:Hd}(hp:h.p=0)(hs:h.s=0):Q4h h=true:=by unfold Q4h;simp[hp,hs]
theorem deed_row{l:List Hd}(hk:okL l=true)(ok:∀x∈l,x.ok){D:Dd}(hD:D.ok)(hE:D.E l=0):D.a≠0∧RowOk l D (findH l D.a) (D.row (findH l D.a)):=by
 obtain⟨_,ha,he⟩:=gate_zero hE
 have ha0:D.a≠0:=by simpa using ha
 refine⟨ha0,?_⟩
 have hg:=findH_gr hk D.a
 have ho:=findH_ok ok hD.1
 have hfa:=X1c l D.a
 have ht:=findH_tot hk D.a
 have hT:=X6j hk
 have hno:isA l D.a=false→findH l D.a=zH D.a:=isA_no (okL_srt hk)
 have hW:D.W l=if D.q=0∨D.q=1∨D.q=2∨D.q=3 then 0 else(findH l D.a).s:=by
  unfold Dd.W;rw[if_pos hE]
 unfold Dd.er at he
 unfold Dd.row
 generalize findH l D.a=h at *
 obtain⟨ua,un,uy,ut⟩:=hD
 obtain⟨o1,o2,o3,o4,o5⟩:=ho
 by_cases q0:D.q=0
 · rw[if_pos q0] at he ⊢
   obtain⟨f1,f2⟩:=X5h he
   have hm:(h.p+D.n)%WW=h.p+D.n:=Nat.mod_eq_of_lt (by omega)
   unfold depH
   rw[hm]
   refine⟨hfa,⟨o1,(by show h.p+D.n<WW;omega),o3,o4,o5⟩,hg,?_,(by show tot l+(h.p+D.n+h.s)<_;omega),.inl ⟨.inl q0,(by show h.p+D.n+h.s=_;omega)⟩,.inl ⟨.inl q0,rfl,rfl,rfl⟩⟩
   rcases f2 with f2|f2|f2
   · exact .inl f2
   · cases hi:isA l D.a with
     |true=>exact .inl rfl
     |false=>
      have:=hno hi
      subst this
      exact .inr (.inl (X1g (by show 0+D.n=0;omega) rfl))
   · exact .inr (.inr f2)
 rw[if_neg q0] at he ⊢
 by_cases q1:D.q=1
 · rw[if_pos q1] at he ⊢
   unfold wdrE at he
   by_cases hlt:h.p<D.n
   · rw[if_pos hlt] at he;cases he
   unfold wdrH
   refine⟨hfa,⟨o1,(by show h.p-D.n<WW;omega),o3,o4,o5⟩,hg,?_,(by show tot l+(h.p-D.n+h.s)<_;omega),.inr (.inl ⟨q1,(by show h.p-D.n+h.s+D.n=_;omega)⟩),.inl ⟨.inr q1,rfl,rfl,rfl⟩⟩
   cases hi:isA l D.a with
   |true=>exact .inl rfl
   |false=>
    have:=hno hi
    subst this
    exact .inr (.inl (X1g (by show 0-D.n=0;omega) rfl))
 rw[if_neg q1] at he ⊢
 by_cases q2:D.q=2
 · rw[if_pos q2] at he ⊢
   unfold bondE at he
   cases hd:dly h.d D.y with
   |true=>rw[hd,if_pos rfl] at he;cases he
   |false=>
    rw[hd,if_neg (by decide)] at he
    cases hz:(decide (h.s=0)&&decide (D.n=0)) with
    |true=>rw[hz,if_pos rfl] at he;cases he
    |false=>
     rw[hz,if_neg (by decide)] at he
     obtain⟨f1,f2⟩:=X5h he
     obtain⟨d1,d2,d3⟩:=X1h hd
     have hm:(h.s+D.n)%WW=h.s+D.n:=Nat.mod_eq_of_lt (by omega)
     have d1':D.y≠0:=by simpa using d1
     have d2':D.y≤1073741824:=by simpa using d2
     have hsn:h.s+D.n≠0:=by
      intro e
      rw[decide_eq_true (by omega:h.s=0),decide_eq_true (by omega:D.n=0)] at hz
      cases hz
     unfold bondH
     rw[hm]
     refine⟨hfa,⟨o1,o2,(by show h.s+D.n<WW;omega),uy,⟨Int.le_refl 0,(by decide:(0:Int)≤18446744073709551615)⟩⟩,⟨d2',(by decide:(0:Int)≤1100585369600),⟨fun e=>absurd e d1',fun e=>absurd e hsn⟩,.inl rfl⟩,?_,(by show tot l+(h.p+(h.s+D.n))<_;omega),.inl ⟨.inr q2,(by show h.p+(h.s+D.n)=_;omega)⟩,.inr ⟨⟨q0,q1⟩,rfl⟩⟩
     rcases f2 with f2|f2|f2
     · exact .inl f2
     · cases hi:isA l D.a with
       |true=>exact .inl rfl
       |false=>
        have:=hno hi
        subst this
        exact absurd (show 0+D.n=0 by omega) hsn
     · exact .inr (.inr f2)
 rw[if_neg q2] at he ⊢
 by_cases q3:D.q=3
 · rw[if_pos q3] at he ⊢
   rw[if_pos (.inr (.inr (.inr q3)))] at hW
   unfold unlE at he
   by_cases hn:D.t>1099511627776
   · rw[if_pos hn] at he;cases he
   rw[if_neg hn] at he
   cases hz:(!decide (h.s=0)&&(h.f==0)) with
   |false=>rw[hz,if_pos rfl] at he;cases he
   |true=>
    simp only[Bool.and_eq_true,Bool.not_eq_true',decide_eq_false_iff_not,beq_iff_eq] at hz
    unfold unlH
    have g1:h.d≤1073741824:=hg.1
    have t1:0≤D.t:=ut.1
    have t2:0≤h.d:=o4.1
    refine⟨hfa,⟨o1,o2,o3,o4,⟨(by show 0≤D.t+h.d;omega),(by show D.t+h.d≤_;omega)⟩⟩,⟨g1,(by show D.t+h.d≤_;omega),hg.2.2.1,.inr hz.1⟩,?_,(by show tot l+(h.p+h.s)<_;omega),.inr (.inr ⟨⟨q0,q1,q2⟩,(by show h.p+h.s+D.W l=_;omega),fun _=>hW⟩),.inr ⟨⟨q0,q1⟩,rfl⟩⟩
    cases hi:isA l D.a with
    |true=>exact .inl rfl
    |false=>
     have:=hno hi
     subst this
     exact absurd rfl hz.1
 · rw[if_neg q3] at he ⊢
   rw[if_neg (by simp[q0,q1,q2,q3])] at hW
   unfold relE at he
   by_cases hn:D.t>1099511627776
   · rw[if_pos hn] at he;cases he
   rw[if_neg hn] at he
   by_cases hz:h.s=0
   · rw[if_pos hz] at he;cases he
   unfold relH
   refine⟨hfa,⟨o1,o2,(by decide:0<WW),⟨Int.le_refl 0,(by decide:(0:Int)≤18446744073709551615)⟩,⟨Int.le_refl 0,(by decide:(0:Int)≤18446744073709551615)⟩⟩,⟨(by decide:(0:Int)≤1073741824),(by decide:(0:Int)≤1100585369600),(by show(0:Int)=0↔0=0;simp),.inl rfl⟩,?_,(by show tot l+(h.p+0)<_;omega),.inr (.inr ⟨⟨q0,q1,q2⟩,(by show h.p+0+D.W l=_;omega),fun e=>absurd e q3⟩),.inr ⟨⟨q0,q1⟩,rfl⟩⟩
   cases hi:isA l D.a with
   |true=>exact .inl rfl
   |false=>
    have:=hno hi
    subst this
    exact absurd rfl hz
theorem deed_M{l:List Hd}{D:Dd}(hE:D.E l=0):D.M l=putL l (D.row (findH l D.a)):=by unfold Dd.M;rw[if_pos hE]
theorem deed_okL{l:List Hd}(hk:okL l=true)(ok:∀x∈l,x.ok){D:Dd}(hD:D.ok)(hE:D.E l=0):okL (D.M l)=true:=by
 obtain⟨h0,r⟩:=deed_row hk ok hD hE
 rw[deed_M hE]
 exact okL_put hk ok (by rw[r.a];exact h0) r.ok (fun _=>r.g) (by rw[r.a];exact r.len) (by rw[r.a];exact r.tot)
theorem deed_ok{l:List Hd}(hk:okL l=true)(ok:∀x∈l,x.ok){D:Dd}(hD:D.ok)(hE:D.E l=0):∀x∈D.M l,x.ok:=by
 obtain⟨h0,r⟩:=deed_row hk ok hD hE
 rw[deed_M hE]
 exact ok_put hk ok r.ok
theorem deed_len{l:List Hd}(hk:okL l=true)(ok:∀x∈l,x.ok){D:Dd}(hD:D.ok):(D.M l).length≤24∧∀x∈D.M l,x.ok:=by
 by_cases hE:D.E l=0
 · exact⟨Q4t (deed_okL hk ok hD hE),deed_ok hk ok hD hE⟩
 · unfold Dd.M
   rw[if_neg hE]
   exact⟨Nat.zero_le _,fun x hx=>by cases hx⟩
end lg
section
open Go.RowKit
set_option maxHeartbeats 2000000
theorem Q8a{A R:List Ac}{a b:Int}{n:Nat}(h:Q2l A a b n=(R,0)):okSt A=true∧okSt R=true∧(∀y,y≠a→y≠b→ofS R y=ofS A y)∧totS A=totS R:=by
 have hk:okSt A=true:=by
  unfold Q2l Q4j at h
  cases e:okSt A with
  |true=>rfl
  |false=>rw[e] at h;simp at h
 have k:∀(a b:Int) (n:Nat) (p:Pr) (x:Ac),Q6b ⟨2,a,b,n,p,x⟩=2:=fun _ _ _ _ _=>(by decide:(IntKind.u64.wrap 2).tmod 5=2)
 have hd:doS A ⟨2,a,b,n,⟨0,0⟩,⟨0,0,0,[],[]⟩⟩=(R,0):=by
  unfold doS
  rw[if_pos hk,k,if_neg (by decide),if_neg (by decide),if_pos rfl]
  exact h
 obtain⟨h1,h2,_,_,_,h5,_⟩:=kept_of hd
 exact⟨h1,h2,h5 (k _ _ _ _ _)⟩
theorem X3h{A R:List Ac}(hA:A.length≤700)(kA:∀y∈A,Okx y){a b:Int}(ua:U a)(ub:U b){n:Nat}(h:Q2l A a b n=(R,0)) :
 (a=b∧R=A)∨(a≠b∧(ofS R a).b+n=(ofS A a).b∧(ofS R b).b=(ofS A b).b+n):=by
 obtain⟨k1,k2,_⟩:=Q8a h
 have hof:∀z,OfS A z=ofS A z:=fun z=>by unfold OfS;rw[if_pos k1]
 have hor:∀z,OfS R z=ofS R z:=fun z=>by unfold OfS;rw[if_pos k2]
 rcases X8u hA kA ua ub n with c|⟨_,c⟩|⟨_,_,c⟩|⟨_,c⟩|⟨_,c⟩|⟨e,c⟩|⟨e,h1,h2,M,c,_,h3,h4,_⟩
 · rw[h] at c;simp at c
 · rw[h] at c;simp at c
 · rw[h] at c;simp at c
 · rw[h] at c;simp at c
 · rw[h] at c;simp at c
 · rw[h] at c
   exact .inl ⟨e,(Prod.mk.inj c).1⟩
 · rw[h] at c
   obtain rfl:=(Prod.mk.inj c).1
   rw[hor,hof] at h3 h4
   rw[hof] at h1 h2
   refine .inr ⟨e,?_,?_⟩
   · rw[h3];show(ofS A a).b-n+n=_;omega
   · rw[h4];rfl
theorem X6k{Q:Ac→Prop}{A:List Ac}(hA:∀y∈A,Q y){z:Int}(h0:Q ⟨z,0,0,[],[]⟩):Q (ofS A z):=by
 unfold ofS
 split
 · cases h:A[posS A z]? with
   |none=>exact h0
   |some y=>exact hA y (List.mem_of_getElem? h)
 · exact h0
theorem Q8b{Q:Ac→Prop}(hq:∀x,Q x→x.b<WW)(hb:∀(x:Ac) (b:Nat),b<WW→Q x→Q {x with b:=b}){A:List Ac}(hA:∀y∈A,Q y){a b:Int}(h0:Q ⟨a,0,0,[],[]⟩)(h1:Q ⟨b,0,0,[],[]⟩)(n:Nat):(Q2l A a b n).1.length≤A.length+2∧∀y∈(Q2l A a b n).1,Q y:=by
 have lay:∀{L:List Ac} {x:Ac},(∀y∈L,Q y)→Q x→∀y∈Q1p L x,Q y:=fun hL hx y hy=>by
  rcases Q6n hy with rfl|h
  · exact hx
  · exact hL y h
 have n0:∀{k:Int},(([],k):List Ac×Int).1.length≤A.length+2∧∀y∈(([],k):List Ac×Int).1,Q y:=⟨Nat.zero_le _,fun y hy=>by cases hy⟩
 have qa:=X6k hA h0
 have qb:=X6k hA h1
 have ba:=hq _ qa
 unfold Q2l Q4j
 split
 · exact n0
 split
 · exact n0
 unfold Q7i
 split
 · exact n0
 split
 · exact n0
 split
 · exact⟨by have:=Q2m A (ofS A a);dsimp only;omega,lay hA qa⟩
 split
 · exact n0
 · exact⟨Nat.le_trans (Q2m _ _) (Nat.add_le_add_right (Q2m _ _) 1),lay (lay hA (hb _ _ (by omega) qa)) (hb _ _ (Nat.mod_lt _ (by decide)) qb)⟩
theorem mint_kept{A R:List Ac}{a:Int}{n:Nat}(h:Q7d A a n=(R,0)):okSt A=true∧okSt R=true∧(∀y,y≠a→ofS R y=ofS A y)∧totS R=totS A+n∧(ofS R a).b=(ofS A a).b+n:=by
 have hk:okSt A=true:=by
  unfold Q7d Q4j at h
  cases e:okSt A with
  |true=>rfl
  |false=>rw[e] at h;simp at h
 have k:∀(a b:Int) (n:Nat) (p:Pr) (x:Ac),Q6b ⟨3,a,b,n,p,x⟩=3:=fun _ _ _ _ _=>(by decide:(IntKind.u64.wrap 3).tmod 5=3)
 have hd:doS A ⟨3,a,0,n,⟨0,0⟩,⟨0,0,0,[],[]⟩⟩=(R,0):=by
  unfold doS
  rw[if_pos hk,k,if_neg (by decide),if_neg (by decide),if_neg (by decide),if_pos rfl]
  exact h
 obtain⟨h1,h2,_,_,_,_,h6,_⟩:=kept_of hd
 obtain⟨g1,g2⟩:=h6 (k _ _ _ _ _)
 refine⟨h1,h2,g1,g2,?_⟩
 obtain⟨r1,_,r3,_⟩:=Q2x.1 hk
 have hle:=X4y r1 a
 unfold Q7d Q4j at h
 rw[hk] at h
 simp only[Bool.not_true,Bool.false_eq_true,if_false] at h
 split at h
 · simp at h
 split at h
 · simp at h
 · rename_i hw
   obtain⟨e,_,_⟩:=put_ok hk h
   have hx:(ofS A a).a=a:=Q9o r1 a
   rw[e,Q2j r1,if_pos (by exact hx.symm)]
   show((ofS A a).b+n)%WW=_
   rw[Nat.mod_eq_of_lt (by omega)]
theorem Q8v{l:List lg.Hd}(hk:lg.okL l=true)(ok:∀x∈l,x.ok){D:lg.Dd}(hD:D.ok)(hE:D.E l=0) :
 lg.okL (D.M l)=true∧((D.q=0∨D.q=2)∧lg.tot (D.M l)=lg.tot l+D.n∨D.q=1∧lg.tot (D.M l)+D.n=lg.tot l∨(D.q≠0∧D.q≠1∧D.q≠2)∧lg.tot (D.M l)+D.W l=lg.tot l):=by
 obtain⟨h0,r⟩:=lg.deed_row hk ok hD hE
 have t3:=lg.findH_tot hk D.a
 have t4:=lg.tot_put (lg.okL_srt hk) (D.row (lg.findH l D.a))
 rw[←lg.deed_M hE,r.a] at t4
 refine⟨lg.deed_okL hk ok hD hE,?_⟩
 rcases r.sum with⟨q,e⟩|⟨q,e⟩|⟨q,e,e3⟩
 · exact .inl ⟨q,by omega⟩
 · exact .inr (.inl ⟨q,by omega⟩)
 · exact .inr (.inr ⟨q,by omega⟩)
structure LedP (l m:List lg.Hd) (n bk:Nat):Prop where
 k:lg.okL m=true
 ok:m.length≤24∧∀x∈m,x.ok
 t:lg.tot m+bk=lg.tot l+n
 b:bk<WW
section
variable {l:List lg.Hd} (hl:l.length≤maxLen) (ok:∀h∈l,h.ok) {a:Int} (ua:U a)
include ok
theorem X5a{D:lg.Dd}(hD:D.ok){n bk:Nat}(hbk:bk<WW)(hr:∀(_:lg.okL l=true),D.E l=0→lg.tot (D.M l)+bk=lg.tot l+n)(hE:D.E l=0):LedP l (D.M l) n bk:=by
 obtain⟨hk,_,_⟩:=lg.gate_zero hE
 obtain⟨h1,h2⟩:=Q8v hk ok hD hE
 exact⟨h1,lg.deed_len hk ok hD,hr hk hE,hbk⟩
include hl ua
theorem dep_all{n:Nat}(hn:n<WW):∃m e,Fn Tryz.prog 74 [lg.lg false l,vi .u64 a,wN n] [] (.tup [lg.lg false m,vi .i64 e]) []∧(e=0→LedP l m n 0)∧m.length≤60∧∀x∈m,x.ok:=by
 have C:=lg.val2 (lg.dep_no false l hl ok a ua n hn) (lg.dep_ok false l hl ok a ua n hn)
 have hq:(⟨0,a,n,0,0⟩:lg.Dd).q=0:=(by decide:(IntKind.u64.wrap 0).tmod 5=0)
 have hD:(⟨0,a,n,0,0⟩:lg.Dd).ok:=⟨ua,hn,⟨Int.le_refl 0,(by decide:(0:Int)≤18446744073709551615)⟩,⟨Int.le_refl 0,(by decide:(0:Int)≤18446744073709551615)⟩⟩
 have hE:(⟨0,a,n,0,0⟩:lg.Dd).E l=lg.gate l a (lg.fitsE l a n):=by unfold lg.Dd.E lg.Dd.er;rw[if_pos hq]
 have hM:(⟨0,a,n,0,0⟩:lg.Dd).M l=if lg.gate l a (lg.fitsE l a n)=0 then lg.putL l (lg.depH (lg.findH l a) n) else[]:=by unfold lg.Dd.M lg.Dd.row;rw[hE,if_pos hq]
 rw[←hM,←hE] at C
 refine⟨_,_,C,fun h=>X5a ok hD (by decide) (fun hk h=>?_) h,?_⟩
 · rcases(Q8v hk ok hD h).2 with⟨_,e⟩|⟨q,_⟩|⟨q,_⟩
   · exact e
   · rw[hq] at q;cases q
   · exact absurd hq q.1
 · by_cases h:(⟨0,a,n,0,0⟩:lg.Dd).E l=0
   · have:=lg.deed_len (lg.gate_zero h).1 ok hD
     exact⟨by omega,this.2⟩
   · unfold lg.Dd.M;rw[if_neg h];exact⟨Nat.zero_le _,fun x hx=>by cases hx⟩
theorem wdr_all{n:Nat}(hn:n<WW):∃m e,Fn Tryz.prog 77 [lg.lg false l,vi .u64 a,wN n] [] (.tup [lg.lg false m,vi .i64 e]) []∧(e=0→LedP l m 0 n)∧m.length≤60∧∀x∈m,x.ok:=by
 have C:=lg.val2 (lg.wdr_no false l hl ok a ua n hn) (lg.wdr_ok false l hl ok a ua n hn)
 have hq:(⟨1,a,n,0,0⟩:lg.Dd).q=1:=(by decide:(IntKind.u64.wrap 1).tmod 5=1)
 have n0:¬(⟨1,a,n,0,0⟩:lg.Dd).q=0:=by rw[hq];decide
 have hD:(⟨1,a,n,0,0⟩:lg.Dd).ok:=⟨ua,hn,⟨Int.le_refl 0,(by decide:(0:Int)≤18446744073709551615)⟩,⟨Int.le_refl 0,(by decide:(0:Int)≤18446744073709551615)⟩⟩
 have hE:(⟨1,a,n,0,0⟩:lg.Dd).E l=lg.gate l a (lg.wdrE (lg.findH l a) n):=by unfold lg.Dd.E lg.Dd.er;rw[if_neg n0,if_pos hq]
 have hM:(⟨1,a,n,0,0⟩:lg.Dd).M l=if lg.gate l a (lg.wdrE (lg.findH l a) n)=0 then lg.putL l (lg.wdrH (lg.findH l a) n) else[]:=by unfold lg.Dd.M lg.Dd.row;rw[hE,if_neg n0,if_pos hq]
 rw[←hM,←hE] at C
 refine⟨_,_,C,fun h=>X5a ok hD hn (fun hk h=>?_) h,?_⟩
 · rcases(Q8v hk ok hD h).2 with⟨q,_⟩|⟨_,e⟩|⟨q,_⟩
   · rw[hq] at q;rcases q with q|q<;>cases q
   · exact e
   · exact absurd hq q.2.1
 · by_cases h:(⟨1,a,n,0,0⟩:lg.Dd).E l=0
   · have:=lg.deed_len (lg.gate_zero h).1 ok hD
     exact⟨by omega,this.2⟩
   · unfold lg.Dd.M;rw[if_neg h];exact⟨Nat.zero_le _,fun x hx=>by cases hx⟩
theorem bond_all{n:Nat}(hn:n<WW){y:Int}(uy:U y):∃m e,Fn Tryz.prog 78 [lg.lg false l,vi .u64 a,wN n,vi .u64 y] [] (.tup [lg.lg false m,vi .i64 e]) []∧(e=0→LedP l m n 0)∧m.length≤60∧∀x∈m,x.ok:=by
 have C:=lg.val2 (lg.bond_no false l hl ok a ua n y hn) (lg.bond_ok false l hl ok a ua n y hn)
 have hq:(⟨2,a,n,y,0⟩:lg.Dd).q=2:=(by decide:(IntKind.u64.wrap 2).tmod 5=2)
 have n0:¬(⟨2,a,n,y,0⟩:lg.Dd).q=0:=by rw[hq];decide
 have n1:¬(⟨2,a,n,y,0⟩:lg.Dd).q=1:=by rw[hq];decide
 have hD:(⟨2,a,n,y,0⟩:lg.Dd).ok:=⟨ua,hn,uy,⟨Int.le_refl 0,(by decide:(0:Int)≤18446744073709551615)⟩⟩
 have hE:(⟨2,a,n,y,0⟩:lg.Dd).E l=lg.gate l a (lg.bondE l a (lg.findH l a) n y):=by unfold lg.Dd.E lg.Dd.er;rw[if_neg n0,if_neg n1,if_pos hq]
 have hM:(⟨2,a,n,y,0⟩:lg.Dd).M l=if lg.gate l a (lg.bondE l a (lg.findH l a) n y)=0 then lg.putL l (lg.bondH (lg.findH l a) n y) else[]:=by unfold lg.Dd.M lg.Dd.row;rw[hE,if_neg n0,if_neg n1,if_pos hq]
 rw[←hM,←hE] at C
 refine⟨_,_,C,fun h=>X5a ok hD (by decide) (fun hk h=>?_) h,?_⟩
 · rcases(Q8v hk ok hD h).2 with⟨_,e⟩|⟨q,_⟩|⟨q,_⟩
   · exact e
   · rw[hq] at q;cases q
   · exact absurd hq q.2.2
 · by_cases h:(⟨2,a,n,y,0⟩:lg.Dd).E l=0
   · have:=lg.deed_len (lg.gate_zero h).1 ok hD
     exact⟨by omega,this.2⟩
   · unfold lg.Dd.M;rw[if_neg h];exact⟨Nat.zero_le _,fun x hx=>by cases hx⟩
theorem unl_all{y:Int}(uy:U y):∃m e,Fn Tryz.prog 80 [lg.lg false l,vi .u64 a,vi .u64 y] [] (.tup [lg.lg false m,vi .i64 e]) []∧(e=0→LedP l m 0 0)∧m.length≤60∧∀x∈m,x.ok:=by
 have C:=lg.val2 (lg.unl_no false l hl ok a ua y uy) (lg.unl_ok false l hl ok a ua y uy)
 have hq:(⟨3,a,0,0,y⟩:lg.Dd).q=3:=(by decide:(IntKind.u64.wrap 3).tmod 5=3)
 have n0:¬(⟨3,a,0,0,y⟩:lg.Dd).q=0:=by rw[hq];decide
 have n1:¬(⟨3,a,0,0,y⟩:lg.Dd).q=1:=by rw[hq];decide
 have n2:¬(⟨3,a,0,0,y⟩:lg.Dd).q=2:=by rw[hq];decide
 have hD:(⟨3,a,0,0,y⟩:lg.Dd).ok:=⟨ua,(by decide:0<WW),⟨Int.le_refl 0,(by decide:(0:Int)≤18446744073709551615)⟩,uy⟩
 have hE:(⟨3,a,0,0,y⟩:lg.Dd).E l=lg.gate l a (lg.unlE (lg.findH l a) y):=by unfold lg.Dd.E lg.Dd.er;rw[if_neg n0,if_neg n1,if_neg n2,if_pos hq]
 have hM:(⟨3,a,0,0,y⟩:lg.Dd).M l=if lg.gate l a (lg.unlE (lg.findH l a) y)=0 then lg.putL l (lg.unlH (lg.findH l a) y) else[]:=by unfold lg.Dd.M lg.Dd.row;rw[hE,if_neg n0,if_neg n1,if_neg n2,if_pos hq]
 rw[←hM,←hE] at C
 refine⟨_,_,C,fun h=>X5a ok hD (by decide) (fun hk h=>?_) h,?_⟩
 · rcases(Q8v hk ok hD h).2 with⟨q,_⟩|⟨q,_⟩|⟨_,e⟩
   · rw[hq] at q;rcases q with q|q<;>cases q
   · rw[hq] at q;cases q
   · have hW:(⟨3,a,0,0,y⟩:lg.Dd).W l=0:=by unfold lg.Dd.W;rw[if_pos (by rw[hq];decide)]
     rw[hW] at e
     exact e
 · by_cases h:(⟨3,a,0,0,y⟩:lg.Dd).E l=0
   · have:=lg.deed_len (lg.gate_zero h).1 ok hD
     exact⟨by omega,this.2⟩
   · unfold lg.Dd.M;rw[if_neg h];exact⟨Nat.zero_le _,fun x hx=>by cases hx⟩
theorem rel_all{y:Int}(uy:U y):∃m s e,Fn Tryz.prog 81 [lg.lg false l,vi .u64 a,vi .u64 y] [] (.tup [lg.lg false m,wN s,vi .i64 e]) []∧(e=0→LedP l m 0 s)∧s<WW∧m.length≤60∧∀x∈m,x.ok:=by
 have C:=lg.val3 (lg.rel_no false l hl ok a ua y) (lg.rel_ok false l hl ok a ua y)
 have hq:(⟨4,a,0,0,y⟩:lg.Dd).q=4:=(by decide:(IntKind.u64.wrap 4).tmod 5=4)
 have hD:(⟨4,a,0,0,y⟩:lg.Dd).ok:=⟨ua,(by decide:0<WW),⟨Int.le_refl 0,(by decide:(0:Int)≤18446744073709551615)⟩,uy⟩
 have n0:¬(⟨4,a,0,0,y⟩:lg.Dd).q=0:=by rw[hq];decide
 have n1:¬(⟨4,a,0,0,y⟩:lg.Dd).q=1:=by rw[hq];decide
 have n2:¬(⟨4,a,0,0,y⟩:lg.Dd).q=2:=by rw[hq];decide
 have n3:¬(⟨4,a,0,0,y⟩:lg.Dd).q=3:=by rw[hq];decide
 have hE:(⟨4,a,0,0,y⟩:lg.Dd).E l=lg.gate l a (lg.relE (lg.findH l a) y):=by unfold lg.Dd.E lg.Dd.er;rw[if_neg n0,if_neg n1,if_neg n2,if_neg n3]
 have hM:(⟨4,a,0,0,y⟩:lg.Dd).M l=if lg.gate l a (lg.relE (lg.findH l a) y)=0 then lg.putL l (lg.relH (lg.findH l a)) else[]:=by unfold lg.Dd.M lg.Dd.row;rw[hE,if_neg n0,if_neg n1,if_neg n2,if_neg n3]
 have hW:(⟨4,a,0,0,y⟩:lg.Dd).W l=if lg.gate l a (lg.relE (lg.findH l a) y)=0 then(lg.findH l a).s else 0:=by
  unfold lg.Dd.W
  rw[hE,if_neg (by rintro (h|h|h|h)<;>contradiction)]
 have sb:(⟨4,a,0,0,y⟩:lg.Dd).W l<WW:=by
  rw[hW]
  split
  · exact(lg.findH_ok ok ua).2.2.1
  · decide
 rw[←hM,←hW,←hE] at C
 refine⟨_,_,_,C,fun h=>X5a ok hD sb (fun hk h=>?_) h,sb,?_⟩
 · rcases(Q8v hk ok hD h).2 with⟨q,_⟩|⟨q,_⟩|⟨_,e⟩
   · rcases q with q|q<;>contradiction
   · contradiction
   · exact e
 · by_cases h:(⟨4,a,0,0,y⟩:lg.Dd).E l=0
   · have:=lg.deed_len (lg.gate_zero h).1 ok hD
     exact⟨by omega,this.2⟩
   · unfold lg.Dd.M;rw[if_neg h];exact⟨Nat.zero_le _,fun x hx=>by cases hx⟩
end
end
end Go.Proofs.YtbmcdemnnbndeaaGreatDoor
