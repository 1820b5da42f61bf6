/-
  All breaks of a case, gone over; collected. Reckoned.
-/
import Derived.Test.YtgdjkkapgghdbaaGreatDoorTrh
namespace Go.Proofs.YtgdjkkapgghdbaaGreatDoor
set_option linter.unusedSimpArgs false
set_option linter.unusedVariables false
section
open Go.RowKit
open Nat (reduceBEq)
attribute [-go_sem] IntKind.bits
set_option maxRecDepth 20000
set_option maxHeartbeats 600000
theorem idxW_fn (ex:Bool) (l:List Nat) (p:Nat→Bool) {g:FuncId} {fn:Func} {caps:List AV} (hl:l.length≤1000000) (hgf:Tryz.prog.funcs[g]? = some fn) (hgn:(fn.name == "runtime.NumGoroutine")=false) (hgb:fn.body.isNone=false) (hcap:AV.inNL [] caps=true) (hp:∀x∈l,Fn Tryz.prog g (wN x::caps) [] (vb (p x)) []) :
 Fn Tryz.prog 152 [.c (.sl ex 4 l.length (l.flatMap lpv)),.fn g caps] [] (vi .i64 (idxF p l 0)) []:=by
 obtain⟨r,hr⟩:∃r,idxF p l 0=r:=⟨_,rfl⟩
 rw[hr]
 (refine Q0t Tryz.func152 rfl (by rfl) ?_;simp only[Tryz.ntmps152,List.length_cons,List.length_nil,Nat.reduceAdd,Nat.reduceSub,List.replicate,List.cons_append,List.nil_append])
 (repeat(any_goals(first|((with_reducible refine Q0b ?_ ?_);rfl;intro K hK;simp only[go_sem];((repeat(refine ndI (by first|assumption) ?_));refine hK _ ?_;clear hK K))|(with_reducible first|(refine Q0c ?_;refine hR _ ?_;clear hR R)|((first|refine Q0e ?_|refine Q0f ?_);intro J hJ hJ')|(refine Q0a ?_;intro R hR)|(refine hJ _ ?_;clear hJ hJ' J)))))
 refine Q1p (α:={i:Nat // i≤l.length∧idxF p (l.drop i) i=r}) (fun q=>⟨[.c (.sl ex 4 l.length (l.flatMap lpv)),.fn g caps,.any,.any,.any,.any,.any,vi .i64 l.length,vi .i64 (q.1:Int),.any,.any,.any,.any,.any,.any,.any,.any,.any,.any],[]⟩) (fun q=>l.length-q.1) ⟨0,Nat.zero_le _,hr⟩ (St.le_of (by simp[leT]) (by simp[leH])) ?_
 rintro ⟨i,hi,hd⟩ J hJ hJ'
 (try dsimp only at hJ ⊢)
 rcases Nat.lt_or_ge i l.length with hlt|hge
 · obtain⟨y,hy⟩:∃y,l[i]? = some y:=⟨_,List.getElem?_eq_getElem hlt⟩
   have k1:(decide ((i:Int)<(l.length:Int)))=true:=by simp;omega
   have k2:=wsl_at hy
   have k7:(i:Int)+1=((i+1:Nat):Int):=by omega
   have hdr:l.drop i=y::l.drop (i+1):=by
    rw[List.drop_eq_getElem_cons hlt]
    rw[List.getElem?_eq_getElem hlt] at hy
    rw[Option.some.inj hy]
   have hp1:=hp y (List.mem_of_getElem? hy)
   rw[hdr] at hd
   unfold idxF at hd
   cases hxy:p y
   · rw[hxy] at hp1 hd
     rw[if_neg (by simp)] at hd
     have hJ1:=fun σ'=>hJ σ' ⟨i+1,hlt,hd⟩ (by dsimp only;omega)
     dsimp only at hJ1
     (have W:=ndI k1 (ndI k2 (ndI k7 @wrI));(repeat(any_goals(first|((with_reducible refine Q0l ?_ ?_ ?_);rfl;rfl;intro K hK;(apply Q0i (hp1);rfl;rfl;rfl;rfl;exact hgf;exact hgn;exact hgb;(focus((simp(disch:=omega) only[go_sem,W,Nat.mul_one]);(try rfl);done));(first|simp[AV.inNL,AV.inN,hcap]));(simp(disch:=omega) only[go_sem,W,Nat.mul_one];refine hK _ ?_;clear hK K))|((with_reducible refine Q0b ?_ ?_);rfl;intro K hK;simp(disch:=omega) only[go_sem,W,Nat.mul_one];((repeat(refine ndI (by first|assumption|omega|rfl) ?_));refine hK _ ?_;clear hK K))|(with_reducible first|(refine Q0c ?_;refine hR _ ?_;clear hR R)|((first|refine Q0e ?_|refine Q0f ?_);intro J hJ hJ')|(refine Q0a ?_;intro R hR)|(refine hJ _ ?_;clear hJ hJ' J)|refine Q0h ?_)|((with_reducible refine hJ' _ _ ?_ ?_);(focus(simp;done));clear hJ hJ' J)|((with_reducible apply Q0d);rfl;rfl;all_goals(intro hc;first|(cases hc;done)|(try simp only at hc)))))))
     all_goals exact hJ1 _ (St.le_of (by simp[leT]) (by simp[leH]))
   · rw[hxy] at hp1 hd
     rw[if_pos rfl] at hd
     (have W:=ndI k1 (ndI k2 (ndI k7 @wrI));(repeat(any_goals(first|((with_reducible refine Q0l ?_ ?_ ?_);rfl;rfl;intro K hK;(apply Q0i (hp1);rfl;rfl;rfl;rfl;exact hgf;exact hgn;exact hgb;(focus((simp(disch:=omega) only[go_sem,W,Nat.mul_one]);(try rfl);done));(first|simp[AV.inNL,AV.inN,hcap]));(simp(disch:=omega) only[go_sem,W,Nat.mul_one];refine hK _ ?_;clear hK K))|((with_reducible refine Q0b ?_ ?_);rfl;intro K hK;simp(disch:=omega) only[go_sem,W,Nat.mul_one];((repeat(refine ndI (by first|assumption|omega|rfl) ?_));refine hK _ ?_;clear hK K))|(with_reducible first|(refine Q0c ?_;refine hR _ ?_;clear hR R)|((first|refine Q0e ?_|refine Q0f ?_);intro J hJ hJ')|(refine Q0a ?_;intro R hR)|(refine hJ _ ?_;clear hJ hJ' J)|refine Q0h ?_|refine Q0j ?_)|((with_reducible refine hJ' _ _ ?_ ?_);(focus(simp;done));clear hJ hJ' J)|((with_reducible apply Q0d);rfl;rfl;all_goals(intro hc;first|(cases hc;done)|(try simp only at hc)))))))
     all_goals rw[←hd]
     all_goals(refine⟨by simp,⟨_,?_,AV.le_refl _⟩,Q0g (by simp[leH,hget])⟩;simp only[Tryz.results152,resL,ldA,Q0m,go_sem])
 · have k1:(decide ((i:Int)<(l.length:Int)))=false:=by simp;omega
   rw[List.drop_eq_nil_of_le hge] at hd
   have hd:r = -1:=hd.symm
   (repeat(any_goals(first|((with_reducible refine Q0b ?_ ?_);rfl;intro K hK;simp only[go_sem,k1];((repeat(refine ndI (by first|assumption) ?_));refine hK _ ?_;clear hK K))|(with_reducible first|(refine Q0c ?_;refine hR _ ?_;clear hR R)|((first|refine Q0e ?_);intro J hJ hJ')|(refine Q0a ?_;intro R hR)|(refine hJ _ ?_;clear hJ hJ' J)|refine Q0j ?_|refine Q0q ?_)|((with_reducible refine hJ' _ _ ?_ ?_);(focus(simp;done));clear hJ hJ' J)|((with_reducible apply Q0d);rfl;rfl;all_goals(intro hc;first|(cases hc;done)|(try simp only at hc))))))
   all_goals rw[hd]
   all_goals(refine⟨by simp,⟨_,?_,AV.le_refl _⟩,Q0g (by simp[leH,hget])⟩;simp only[Tryz.results152,resL,ldA,Q0m,go_sem])
theorem hasW_fn (ex:Bool) (l:List Nat) (p:Nat→Bool) {g:FuncId} {fn:Func} {caps:List AV} (hl:l.length≤1000000) (hgf:Tryz.prog.funcs[g]? = some fn) (hgn:(fn.name == "runtime.NumGoroutine")=false) (hgb:fn.body.isNone=false) (hcap:AV.inNL [] caps=true) (hp:∀x∈l,Fn Tryz.prog g (wN x::caps) [] (vb (p x)) []) :
 Fn Tryz.prog 120 [.c (.sl ex 4 l.length (l.flatMap lpv)),.fn g caps] [] (vb (l.any p)) []:=by
 have h:=idxW_fn ex l p hl hgf hgn hgb hcap hp
 have e:=Q9s p l 0
 generalize idxF p l 0=r at h e
 rw[←e]
 (refine Q0t Tryz.func120 rfl (by rfl) ?_;simp only[Tryz.ntmps120,List.length_cons,List.length_nil,Nat.reduceAdd,Nat.reduceSub,List.replicate,List.cons_append,List.nil_append])
 (repeat(any_goals(first|((with_reducible refine Q0l ?_ ?_ ?_);rfl;rfl;intro K hK;((apply Q0i (h);rfl;rfl;rfl;rfl;exact Tryz.func152);kernel_rfl;rfl;(focus((simp only[go_sem]);(try rfl);done));(first|simp[AV.inNL,AV.inN,hcap]));(simp only[go_sem];refine hK _ ?_;clear hK K))|((with_reducible refine Q0b ?_ ?_);rfl;intro K hK;simp only[go_sem];((repeat(refine ndI (by first|assumption) ?_));refine hK _ ?_;clear hK K))|(with_reducible first|(refine Q0c ?_;refine hR _ ?_;clear hR R)|((first|refine Q0e ?_);intro J hJ hJ')|(refine Q0a ?_;intro R hR)|(refine hJ _ ?_;clear hJ hJ' J)|refine Q0j ?_))))
 all_goals(refine⟨by simp,⟨_,?_,AV.le_refl _⟩,Q0g (by simp[leH,hget])⟩;simp only[Tryz.results120,resL,ldA,Q0m,go_sem])
abbrev epW(key:Nat):AV:=.ep [.v (.int .u64 (l0 key)),.v (.int .u64 (l1 key)),.v (.int .u64 (l2 key)),.v (.int .u64 (l3 key))]
theorem near1_fn(key x:Nat)(hk:key<WW)(hx:x<WW):Fn Tryz.prog 117 [wN x,epW key] [] (vb (Q4z key x)) []:=by
 have h:=near_fn key x hk hx
 (refine Q0t Tryz.func117 rfl (by rfl) ?_;simp only[Tryz.ntmps117,List.length_cons,List.length_nil,Nat.reduceAdd,Nat.reduceSub,List.replicate,List.cons_append,List.nil_append])
 (repeat(any_goals(first|((with_reducible refine Q0l ?_ ?_ ?_);rfl;rfl;intro K hK;((apply Q0i (h);rfl;rfl;rfl;rfl;exact Tryz.func118);kernel_rfl;rfl;(focus((simp only[go_sem]);(try rfl);done));(first|rfl));(simp only[go_sem];refine hK _ ?_;clear hK K))|((with_reducible refine Q0b ?_ ?_);rfl;intro K hK;simp only[go_sem];((repeat(refine ndI (by first|assumption) ?_));refine hK _ ?_;clear hK K))|(with_reducible first|(refine Q0c ?_;refine hR _ ?_;clear hR R)|((first|refine Q0e ?_);intro J hJ hJ')|(refine Q0a ?_;intro R hR)|(refine hJ _ ?_;clear hJ hJ' J)|refine Q0j ?_))))
 all_goals(refine⟨by simp,⟨_,?_,AV.le_refl _⟩,Q0g (by simp[leH,hget])⟩;simp only[Tryz.results117,resL,ldA,Q0m,go_sem])
theorem assoc_fnW(ex:Bool)(l:List Ev)(a:Int)(key:Nat)(hk:key<WW)(bs:List Nat)(hbl:bs.length≤1000)(hbo:∀x∈bs,x<WW)(tb b1:Bool)(h1:(l0 key==a&&(l1 key==0&&(l2 key==0&&l3 key==0)))=b1)
 (ck:Fn Tryz.prog 51 [evs ex l] [] (vi .i64 (if tb=true then 0 else 270)) []) (bf:tb=true→Fn Tryz.prog 121 [evs ex l,vi .u64 a] [] (wsl false bs) []) :
 FnW (fun _=>True) Tryz.prog 74 [evs ex l,vi .u64 a,wN key] [] (vb (tb&&(b1||bs.any (Q4z key)))) []:=by
 have hw:=hasW_fn false bs (Q4z key) (caps:=[epW key]) (by omega) Tryz.func117 (by kernel_rfl) rfl (by simp[AV.inNL,AV.inN]) fun x hx=>near1_fn key x hk (hbo x hx)
 have aw:=X9k a
 generalize bs.any (Q4z key)=b2 at hw ⊢
 cases tb with
 |false=>
  rw[if_neg (by simp)] at ck
  (refine Q4r Tryz.func74 rfl (by rfl) ?_;simp only[Tryz.ntmps74,List.length_cons,List.length_nil,Nat.reduceAdd,Nat.reduceSub,List.replicate,List.cons_append,List.nil_append])
  refine AWE.of ?_
  (repeat(any_goals(first|((with_reducible refine Q0l ?_ ?_ ?_);rfl;rfl;intro K hK;((apply Q0i (ck);rfl;rfl;rfl;rfl;exact Tryz.func51);kernel_rfl;rfl;(focus((simp only[go_sem]);(try rfl);done));(first|rfl));(simp only[go_sem];refine hK _ ?_;clear hK K))|((with_reducible refine Q0b ?_ ?_);rfl;intro K hK;simp only[go_sem];((repeat(refine ndI (by first|assumption) ?_));refine hK _ ?_;clear hK K))|(with_reducible first|(refine Q0c ?_;refine hR _ ?_;clear hR R)|((first|refine Q0e ?_);intro J hJ hJ')|(refine Q0a ?_;intro R hR)|(refine hJ _ ?_;clear hJ hJ' J)|refine Q0j ?_)|((with_reducible refine hJ' _ _ ?_ ?_);(focus(simp;done));clear hJ hJ' J)|((with_reducible apply Q0d);rfl;rfl;all_goals(intro hc;first|(cases hc;done)|(try simp only at hc))))))
  all_goals exact⟨by simp,⟨_,rfl,AV.le_of (by simp[Q0m])⟩,Q0g (by simp[leH,hget])⟩
 |true=>
  rw[if_pos rfl] at ck
  have bf:=bf rfl
  (refine Q4r Tryz.func74 rfl (by rfl) ?_;simp only[Tryz.ntmps74,List.length_cons,List.length_nil,Nat.reduceAdd,Nat.reduceSub,List.replicate,List.cons_append,List.nil_append])
  refine AWE.seq (AWE.of ?_)
  (repeat(any_goals(first|((with_reducible refine Q0b ?_ ?_);rfl;intro K hK;simp only[go_sem];((repeat(refine ndI (by first|assumption) ?_));refine hK _ ?_;clear hK K))|(with_reducible first|(refine Q0c ?_;refine hR _ ?_;clear hR R)|(refine Q0a ?_;intro R hR)))))
  show AWE _ _ _ _ _
  refine AWE.seq (AWE.of ?_)
  (repeat(any_goals(first|((with_reducible refine Q0l ?_ ?_ ?_);rfl;rfl;intro K hK;((apply Q0i (ck);rfl;rfl;rfl;rfl;exact Tryz.func51);kernel_rfl;rfl;(focus((simp only[go_sem]);(try rfl);done));(first|rfl));(simp only[go_sem];refine hK _ ?_;clear hK K))|((with_reducible refine Q0b ?_ ?_);rfl;intro K hK;simp only[go_sem];((repeat(refine ndI (by first|assumption) ?_));refine hK _ ?_;clear hK K))|(with_reducible first|(refine Q0c ?_;refine hR _ ?_;clear hR R)|((first|refine Q0e ?_);intro J hJ hJ')|(refine Q0a ?_;intro R hR)|(refine hJ _ ?_;clear hJ hJ' J)|refine Q0h ?_)|((with_reducible apply Q0d);rfl;rfl;all_goals(intro hc;first|(cases hc;done)|(try simp only at hc))))))
  show AWE _ _ _ _ _
  refine AWE.seq (AWE.of ?_)
  (repeat(any_goals(first|((with_reducible refine Q0b ?_ ?_);rfl;intro K hK;simp only[go_sem];((repeat(refine ndI (by first|assumption) ?_));refine hK _ ?_;clear hK K))|(with_reducible first|(refine Q0c ?_;refine hR _ ?_;clear hR R)|(refine Q0a ?_;intro R hR)))))
  show AWE _ _ _ _ _
  refine AWE.to (St.to.frz 5 (pcs:=[.v (.int .u64 (l0 key)),.v (.int .u64 (l1 key)),.v (.int .u64 (l2 key)),.v (.int .u64 (l3 key))]) rfl) ?_
  simp only[St.frz,AV.frz,AV.frzL,frzH,if_true,List.length_cons,List.length_nil,List.drop,Nat.zero_add,Nat.reduceAdd,Nat.lt_add_one,Nat.zero_lt_succ]
  refine AWE.of ?_
  cases b1 with
  |false=>
   (repeat(any_goals(first|(with_reducible first|((first|refine Q0e ?_);intro J hJ hJ')|(refine hJ _ ?_;clear hJ hJ' J)|refine Q0j ?_)|((with_reducible refine Q0z ?_ ?_);kernel_rfl;(with_reducible refine hR _ ?_);clear hR R)|((first|((first|((with_reducible apply Q1h);rfl;rfl)|((with_reducible apply Q3i);rfl;rfl;rfl;rfl;rfl));((first|(apply Q0y (aw);rfl;rfl;rfl;rfl;exact Tryz.func119)|(apply Q0y (bf);rfl;rfl;rfl;rfl;exact Tryz.func121)|(apply Q0y (hw);rfl;rfl;rfl;rfl;exact Tryz.func120));kernel_rfl;rfl;(focus((simp only[go_sem,h1]);(try rfl);done));(first|rfl)))|((first|((with_reducible apply Q0x);rfl;rfl)|((with_reducible apply Q3c);rfl;rfl;rfl;rfl;rfl));(simp only[rdE,rdOf,go_sem,h1];rfl);(intro τ hA hQ hN;((try simp only[Q1i,Op.operands,Call.operands,go_sem,h1,go_sem,List.mem_cons,List.not_mem_nil,forall_eq_or_imp,forall_eq,List.append_toArray,Option.toArray] at hA);(try simp only[go_sem,h1,List.mem_cons,List.not_mem_nil,forall_eq_or_imp,forall_eq] at hQ hN);(first|(revert hA;intro hA));(first|(revert hQ;intro hQ));(first|(revert hN;intro hN));simp only[go_sem,h1,go_sem,hA,hQ,hN];(repeat(refine ndI (by first|assumption) ?_));(first|apply Q1b)))));(simp only[St.eff,setO,Q0u,go_sem,h1]))|((with_reducible refine Q0w ?_ ?_ ?_ ?_);kernel_rfl;kernel_rfl;(first|kernel_rfl);intro R hR))))
   all_goals exact⟨by simp,⟨_,rfl,AV.le_of (by simp[Q0m])⟩,Q0g (by simp[leH,hget])⟩
  |true=>
   (repeat(any_goals(first|(with_reducible first|((first|refine Q0e ?_);intro J hJ hJ')|(refine hJ _ ?_;clear hJ hJ' J)|refine Q0j ?_)|((with_reducible refine Q0z ?_ ?_);kernel_rfl;(with_reducible refine hR _ ?_);clear hR R)|((first|((with_reducible apply Q3q);rfl;rfl;rfl;rfl)|((first|((with_reducible apply Q1h);rfl;rfl));((first|(apply Q0y (aw);rfl;rfl;rfl;rfl;exact Tryz.func119));kernel_rfl;rfl;(focus((simp only[go_sem,h1]);(try rfl);done));(first|rfl)))|((first|((with_reducible apply Q0x);rfl;rfl));(simp only[rdE,rdOf,go_sem,h1];rfl);(intro τ hA hQ hN;((try simp only[Q1i,Op.operands,Call.operands,go_sem,h1,go_sem,List.mem_cons,List.not_mem_nil,forall_eq_or_imp,forall_eq,List.append_toArray,Option.toArray] at hA);(try simp only[go_sem,h1,List.mem_cons,List.not_mem_nil,forall_eq_or_imp,forall_eq] at hQ hN);(first|(revert hA;intro hA));(first|(revert hQ;intro hQ));(first|(revert hN;intro hN));simp only[go_sem,h1,go_sem,hA,hQ,hN];(repeat(refine ndI (by first|assumption) ?_));(first|apply Q1b)))));(simp only[St.eff,setO,Q0u,go_sem,h1]))|((with_reducible refine Q0w ?_ ?_ ?_ ?_);kernel_rfl;kernel_rfl;(first|kernel_rfl);intro R hR))))
   all_goals exact⟨by simp,⟨_,rfl,AV.le_of (by simp[Q0m])⟩,Q0g (by simp[leH,hget])⟩
def eqwB(a:Int)(key:Nat):Bool:=(l0 key==a&&(l1 key==0&&(l2 key==0&&l3 key==0)))
def X5s(a:Int)(key:Nat)(l:List Ev):Bool:=trB l&&(eqwB a key||(Q2g (ownL a) l).any (Q4z key))
theorem X0g(W:List Nat)(l:List Ev):(Q2g W l).length≤l.length:=X7s _ _ _
theorem X9j{l:List Ev}(ho:∀e∈l,e.ok)(W:List Nat):∀x∈Q2g W l,x<WW:=fun x hx=>by
 obtain⟨e,he,h⟩:=List.mem_filterMap.1 hx
 unfold X0p at h
 split at h
 · cases h
   exact(ho e (List.mem_filter.1 he).1).2.1
 · cases h
theorem assoc_fn(ex:Bool)(l:List Ev)(hl:l.length≤1000)(ho:∀e∈l,e.ok)(a:Int)(ha:U a)(key:Nat)(hk:key<WW):Fn Tryz.prog 74 [evs ex l,vi .u64 a,wN key] [] (vb (X5s a key l)) []:=fun E vs=>
 assoc_fnW ex l a key hk (Q2g (ownL a) l) (by have:=X0g (ownL a) l;omega) (X9j ho _) (trB l) (eqwB a key) rfl (Q5g ex l (by omega) ho) (fun hr=>bases_fn ex l hl ho hr a ha) E vs trivial
end
section
open Go.RowKit
open Nat (reduceBEq)
attribute [-go_sem] IntKind.bits
set_option maxRecDepth 20000
set_option maxHeartbeats 2000000
structure Ph where
 role:Int
 who:Int
 stk:Bool
 tr:List Ev
deriving DecidableEq
structure Cs where
 snd:Int
 ph:List Ph
 cd:List Int
deriving DecidableEq
def Ph.pv(p:Ph):List PV:=[.v (.int .i64 p.role),.v (.int .u64 p.who),.v (.bool p.stk),.sl false 14 p.tr.length (p.tr.flatMap Ev.pv)]
theorem X1a(p:Ph):p.pv.length=4:=rfl
abbrev phA(p:Ph):AV:=.agg [vi .i64 p.role,vi .u64 p.who,vb p.stk,evs false p.tr]
abbrev phs(ex:Bool)(l:List Ph):AV:=.c (.sl ex 4 l.length (l.flatMap Ph.pv))
theorem Q4x{l:List Ph}{i:Nat}{p:Ph}(h:l[i]? = some p):((l.flatMap Ph.pv).drop (i*4)).take 4=[.v (.int .i64 p.role),.v (.int .u64 p.who),.v (.bool p.stk),.sl false 14 p.tr.length (p.tr.flatMap Ev.pv)]:=Q4m (f:=Ph.pv) X1a h
abbrev csA(c:Cs):AV:=.agg [vi .u64 c.snd,phs false c.ph,asl false c.cd]
def Ph.ok(p:Ph):Prop:=U p.who∧p.tr.length≤1000∧∀e∈p.tr,e.ok
def Cs.ok(c:Cs):Prop:=U c.snd∧(c.ph.length≤1000∧∀p∈c.ph,p.ok)∧c.cd.length≤1000∧∀a∈c.cd,U a
theorem a_ne(x y:Int):(x != y) = !decide (x=y):=by
 by_cases h:x=y
 · simp[h]
 · simp[h]
theorem eqA_fn(e1 e2:Bool)(l m:List Int)(hl:l.length≤maxLen)(hm:m.length≤maxLen):Fn Tryz.prog 54 [asl e1 l,asl e2 m] [] (vb (decide (l=m))) []:=by
 by_cases hlen:l.length=m.length
 · have k0:((l.length:Int) != (m.length:Int))=false:=by rw[hlen];simp
   have k8:l.length<9223372036854775808:=Nat.lt_succ_of_le hl
   obtain⟨r,hr⟩:∃r,decide (l=m)=r:=⟨_,rfl⟩
   rw[hr]
   (refine Q0t Tryz.func54 rfl (by rfl) ?_;simp only[Tryz.ntmps54,List.length_cons,List.length_nil,Nat.reduceAdd,Nat.reduceSub,List.replicate,List.cons_append,List.nil_append])
   (repeat(any_goals(first|((with_reducible refine Q0b ?_ ?_);rfl;intro K hK;simp only[go_sem,k0];((repeat(refine ndI (by first|assumption) ?_));refine hK _ ?_;clear hK K))|(with_reducible first|(refine Q0c ?_;refine hR _ ?_;clear hR R)|((first|refine Q0e ?_|refine Q0f ?_);intro J hJ hJ')|(refine Q0a ?_;intro R hR)|(refine hJ _ ?_;clear hJ hJ' J)|refine Q0h ?_)|((with_reducible apply Q0d);rfl;rfl;all_goals(intro hc;first|(cases hc;done)|(try simp only at hc))))))
   refine Q1p (α:={i:Nat // i≤l.length∧∀j,j<i→l[j]? = m[j]?}) (fun p=>⟨[asl e1 l,asl e2 m,.any,.any,.any,.any,.any,.any,.any,.any,.any,.any,vi .i64 l.length,vi .i64 p.1,.any,.any,.any,.any,.any,.any,.any,.any,.any,.any,.any,.any],[]⟩) (fun p=>l.length-p.1) ⟨0,Nat.zero_le _,fun j hj=>by omega⟩ (St.le_of (by simp[leT]) (by simp[leH])) ?_
   rintro ⟨i,hi,hno⟩ J hJ hJ'
   dsimp only at hi hJ ⊢
   rcases Nat.lt_or_ge i l.length with hlt|hge
   · have k1:(decide ((i:Int)<(l.length:Int)))=true:=decide_eq_true (by omega)
     have k7:(i:Int)+1=((i+1:Nat):Int):=by omega
     obtain⟨x,hx⟩:∃x,l[i]? = some x:=⟨_,List.getElem?_eq_getElem hlt⟩
     obtain⟨y,hy⟩:∃y,m[i]? = some y:=⟨_,List.getElem?_eq_getElem (by omega)⟩
     have hlm:i<m.length:=by omega
     have k2:=Q6f hx
     have k3:=Q6f hy
     have k4:=a_ne x y
     by_cases hxy:x=y
     · rw[decide_eq_true hxy,Bool.not_true] at k4
       (have W:=ndI k1 (ndI k2 (ndI k3 (ndI k4 (ndI k7 @wrI))));(repeat(any_goals(first|((with_reducible refine Q0b ?_ ?_);rfl;intro K hK;simp(disch:=omega) only[go_sem,W,Nat.mul_one,Bool.not_true,Bool.not_false];((repeat(refine ndI (by first|assumption|rfl) ?_));refine hK _ ?_;clear hK K))|(with_reducible first|(refine Q0c ?_;refine hR _ ?_;clear hR R)|((first|refine Q0e ?_|refine Q0f ?_);intro J hJ hJ')|(refine Q0a ?_;intro R hR)|(refine hJ _ ?_;clear hJ hJ' J)|refine Q0h ?_)|((with_reducible refine hJ' _ _ ?_ ?_);(focus(simp;done));clear hJ hJ' J)|((with_reducible apply Q0d);rfl;rfl;all_goals(intro hc;first|(cases hc;done)|(try simp only at hc)))|((with_reducible refine Q0z ?_ ?_);kernel_rfl;(with_reducible refine hR _ ?_);clear hR R)|(((with_reducible apply Q0x);rfl;rfl;(simp(disch:=omega) only[rdE,rdOf,go_sem,W,Nat.mul_one,Bool.not_true,Bool.not_false];rfl);(intro τ hA hQ hN;((try simp only[Q1i,Op.operands,Call.operands,go_sem,W,Nat.mul_one,Bool.not_true,Bool.not_false,go_sem,List.mem_cons,List.not_mem_nil,forall_eq_or_imp,forall_eq,List.append_toArray,Option.toArray] at hA);(try simp only[go_sem,W,Nat.mul_one,Bool.not_true,Bool.not_false,List.mem_cons,List.not_mem_nil,forall_eq_or_imp,forall_eq] at hQ hN);(first|(revert hA;intro hA));(first|(revert hQ;intro hQ));(first|(revert hN;intro hN));simp(disch:=omega) only[go_sem,W,Nat.mul_one,Bool.not_true,Bool.not_false,go_sem,hA,hQ,hN];(repeat(refine ndI (by first|assumption|omega|rfl) ?_));(first|apply Q1b))));(simp(disch:=omega) only[St.eff,setO,Q0u,go_sem,W,Nat.mul_one,Bool.not_true,Bool.not_false]))|((with_reducible refine Q0w ?_ ?_ ?_ ?_);kernel_rfl;kernel_rfl;(first|kernel_rfl);intro R hR)))))
       all_goals exact hJ _ ⟨i+1,hlt,fun j hj=>by
        rcases Nat.lt_or_ge j i with h'|h'
        · exact hno j h'
        · obtain rfl:j=i:=by omega
          rw[hx,hy,hxy]⟩ (by simp only;omega) (St.le_of (by simp[leT]) (by simp[leH]))
     · rw[decide_eq_false hxy,Bool.not_false] at k4
       have hrf:r=false:=by
        rw[←hr,decide_eq_false_iff_not]
        intro e;rw[e,hy] at hx;cases hx;exact hxy rfl
       (have W:=ndI k1 (ndI k2 (ndI k3 (ndI k4 (ndI k7 @wrI))));(repeat(any_goals(first|((with_reducible refine Q0b ?_ ?_);rfl;intro K hK;simp(disch:=omega) only[go_sem,W,Nat.mul_one,Bool.not_true,Bool.not_false];((repeat(refine ndI (by first|assumption|rfl) ?_));refine hK _ ?_;clear hK K))|(with_reducible first|(refine Q0c ?_;refine hR _ ?_;clear hR R)|((first|refine Q0e ?_|refine Q0f ?_);intro J hJ hJ')|(refine Q0a ?_;intro R hR)|(refine hJ _ ?_;clear hJ hJ' J)|refine Q0h ?_|refine Q0j ?_)|((with_reducible refine hJ' _ _ ?_ ?_);(focus(simp;done));clear hJ hJ' J)|((with_reducible apply Q0d);rfl;rfl;all_goals(intro hc;first|(cases hc;done)|(try simp only at hc)))|((with_reducible refine Q0z ?_ ?_);kernel_rfl;(with_reducible refine hR _ ?_);clear hR R)|(((with_reducible apply Q0x);rfl;rfl;(simp(disch:=omega) only[rdE,rdOf,go_sem,W,Nat.mul_one,Bool.not_true,Bool.not_false];rfl);(intro τ hA hQ hN;((try simp only[Q1i,Op.operands,Call.operands,go_sem,W,Nat.mul_one,Bool.not_true,Bool.not_false,go_sem,List.mem_cons,List.not_mem_nil,forall_eq_or_imp,forall_eq,List.append_toArray,Option.toArray] at hA);(try simp only[go_sem,W,Nat.mul_one,Bool.not_true,Bool.not_false,List.mem_cons,List.not_mem_nil,forall_eq_or_imp,forall_eq] at hQ hN);(first|(revert hA;intro hA));(first|(revert hQ;intro hQ));(first|(revert hN;intro hN));simp(disch:=omega) only[go_sem,W,Nat.mul_one,Bool.not_true,Bool.not_false,go_sem,hA,hQ,hN];(repeat(refine ndI (by first|assumption|omega|rfl) ?_));(first|apply Q1b))));(simp(disch:=omega) only[St.eff,setO,Q0u,go_sem,W,Nat.mul_one,Bool.not_true,Bool.not_false]))|((with_reducible refine Q0w ?_ ?_ ?_ ?_);kernel_rfl;kernel_rfl;(first|kernel_rfl);intro R hR)))))
       all_goals rw[hrf]
       all_goals(refine⟨by simp,⟨_,?_,AV.le_refl _⟩,Q0g (by simp[leH,hget])⟩;simp only[Tryz.results54,resL,ldA,Q0m,go_sem])
   · have k1:(decide ((i:Int)<(l.length:Int)))=false:=decide_eq_false (by omega)
     have hrt:r=true:=by
      rw[←hr,decide_eq_true_iff]
      refine List.ext_getElem? fun j=>?_
      rcases Nat.lt_or_ge j l.length with h|h
      · exact hno j (by omega)
      · rw[List.getElem?_eq_none h,List.getElem?_eq_none (by omega)]
     (repeat(any_goals(first|((with_reducible refine Q0b ?_ ?_);rfl;intro K hK;simp only[go_sem,k1];((repeat(refine ndI (by first|assumption) ?_));refine hK _ ?_;clear hK K))|(with_reducible first|(refine Q0c ?_;refine hR _ ?_;clear hR R)|((first|refine Q0e ?_);intro J hJ hJ')|(refine Q0a ?_;intro R hR)|(refine hJ _ ?_;clear hJ hJ' J)|refine Q0j ?_|refine Q0q ?_)|((with_reducible refine hJ' _ _ ?_ ?_);(focus(simp;done));clear hJ hJ' J)|((with_reducible apply Q0d);rfl;rfl;all_goals(intro hc;first|(cases hc;done)|(try simp only at hc))))))
     all_goals rw[hrt]
     all_goals(refine⟨by simp,⟨_,?_,AV.le_refl _⟩,Q0g (by simp[leH,hget])⟩;simp only[Tryz.results54,resL,ldA,Q0m,go_sem])
 · have k0:((l.length:Int) != (m.length:Int))=true:=by simp;omega
   have he:decide (l=m)=false:=by rw[decide_eq_false_iff_not];intro e;exact hlen (by rw[e])
   rw[he]
   (refine Q0t Tryz.func54 rfl (by rfl) ?_;simp only[Tryz.ntmps54,List.length_cons,List.length_nil,Nat.reduceAdd,Nat.reduceSub,List.replicate,List.cons_append,List.nil_append])
   (repeat(any_goals(first|((with_reducible refine Q0b ?_ ?_);rfl;intro K hK;simp only[go_sem,k0];((repeat(refine ndI (by first|assumption) ?_));refine hK _ ?_;clear hK K))|(with_reducible first|(refine Q0c ?_;refine hR _ ?_;clear hR R)|((first|refine Q0e ?_);intro J hJ hJ')|(refine Q0a ?_;intro R hR)|(refine hJ _ ?_;clear hJ hJ' J)|refine Q0j ?_)|((with_reducible refine hJ' _ _ ?_ ?_);(focus(simp;done));clear hJ hJ' J)|((with_reducible apply Q0d);rfl;rfl;all_goals(intro hc;first|(cases hc;done)|(try simp only at hc))))))
   all_goals(refine⟨by simp,⟨_,?_,AV.le_refl _⟩,Q0g (by simp[leH,hget])⟩;simp only[Tryz.results54,resL,ldA,Q0m,go_sem])
theorem idxP_fn (ex:Bool) (l:List Ph) (p:Ph→Bool) {g:FuncId} {fn:Func} {caps:List AV} (hl:l.length≤1000000) (hgf:Tryz.prog.funcs[g]? = some fn) (hgn:(fn.name == "runtime.NumGoroutine")=false) (hgb:fn.body.isNone=false) (hcap:AV.inNL [] caps=true) (hp:∀x∈l,Fn Tryz.prog g (phA x::caps) [] (vb (p x)) []) :
 Fn Tryz.prog 86 [.c (.sl ex 4 l.length (l.flatMap Ph.pv)),.fn g caps] [] (vi .i64 (idxF p l 0)) []:=by
 obtain⟨r,hr⟩:∃r,idxF p l 0=r:=⟨_,rfl⟩
 rw[hr]
 (refine Q0t Tryz.func86 rfl (by rfl) ?_;simp only[Tryz.ntmps86,List.length_cons,List.length_nil,Nat.reduceAdd,Nat.reduceSub,List.replicate,List.cons_append,List.nil_append])
 (repeat(any_goals(first|((with_reducible refine Q0b ?_ ?_);rfl;intro K hK;simp only[go_sem];((repeat(refine ndI (by first|assumption) ?_));refine hK _ ?_;clear hK K))|(with_reducible first|(refine Q0c ?_;refine hR _ ?_;clear hR R)|((first|refine Q0e ?_|refine Q0f ?_);intro J hJ hJ')|(refine Q0a ?_;intro R hR)|(refine hJ _ ?_;clear hJ hJ' J)))))
 refine Q1p (α:={i:Nat // i≤l.length∧idxF p (l.drop i) i=r}) (fun q=>⟨[.c (.sl ex 4 l.length (l.flatMap Ph.pv)),.fn g caps,.any,.any,.any,.any,.any,vi .i64 l.length,vi .i64 (q.1:Int),.any,.any,.any,.any,.any,.any,.any,.any,.any,.any],[]⟩) (fun q=>l.length-q.1) ⟨0,Nat.zero_le _,hr⟩ (St.le_of (by simp[leT]) (by simp[leH])) ?_
 rintro ⟨i,hi,hd⟩ J hJ hJ'
 (try dsimp only at hJ ⊢)
 rcases Nat.lt_or_ge i l.length with hlt|hge
 · obtain⟨y,hy⟩:∃y,l[i]? = some y:=⟨_,List.getElem?_eq_getElem hlt⟩
   have k1:(decide ((i:Int)<(l.length:Int)))=true:=by simp;omega
   have k2:=Q4x hy
   have k7:(i:Int)+1=((i+1:Nat):Int):=by omega
   have hdr:l.drop i=y::l.drop (i+1):=by
    rw[List.drop_eq_getElem_cons hlt]
    rw[List.getElem?_eq_getElem hlt] at hy
    rw[Option.some.inj hy]
   have hp1:=hp y (List.mem_of_getElem? hy)
   rw[hdr] at hd
   unfold idxF at hd
   cases hxy:p y
   · rw[hxy] at hp1 hd
     rw[if_neg (by simp)] at hd
     have hJ1:=fun σ'=>hJ σ' ⟨i+1,hlt,hd⟩ (by dsimp only;omega)
     dsimp only at hJ1
     (have W:=ndI k1 (ndI k2 (ndI k7 @wrI));(repeat(any_goals(first|((with_reducible refine Q0l ?_ ?_ ?_);rfl;rfl;intro K hK;(apply Q0i (hp1);rfl;rfl;rfl;rfl;exact hgf;exact hgn;exact hgb;(focus((simp(disch:=omega) only[go_sem,W,Nat.mul_one]);(try rfl);done));(first|simp[AV.inNL,AV.inN,hcap]));(simp(disch:=omega) only[go_sem,W,Nat.mul_one];refine hK _ ?_;clear hK K))|((with_reducible refine Q0b ?_ ?_);rfl;intro K hK;simp(disch:=omega) only[go_sem,W,Nat.mul_one];((repeat(refine ndI (by first|assumption|omega|rfl) ?_));refine hK _ ?_;clear hK K))|(with_reducible first|(refine Q0c ?_;refine hR _ ?_;clear hR R)|((first|refine Q0e ?_|refine Q0f ?_);intro J hJ hJ')|(refine Q0a ?_;intro R hR)|(refine hJ _ ?_;clear hJ hJ' J)|refine Q0h ?_)|((with_reducible refine hJ' _ _ ?_ ?_);(focus(simp;done));clear hJ hJ' J)|((with_reducible apply Q0d);rfl;rfl;all_goals(intro hc;first|(cases hc;done)|(try simp only at hc)))))))
     all_goals exact hJ1 _ (St.le_of (by simp[leT]) (by simp[leH]))
   · rw[hxy] at hp1 hd
     rw[if_pos rfl] at hd
     (have W:=ndI k1 (ndI k2 (ndI k7 @wrI));(repeat(any_goals(first|((with_reducible refine Q0l ?_ ?_ ?_);rfl;rfl;intro K hK;(apply Q0i (hp1);rfl;rfl;rfl;rfl;exact hgf;exact hgn;exact hgb;(focus((simp(disch:=omega) only[go_sem,W,Nat.mul_one]);(try rfl);done));(first|simp[AV.inNL,AV.inN,hcap]));(simp(disch:=omega) only[go_sem,W,Nat.mul_one];refine hK _ ?_;clear hK K))|((with_reducible refine Q0b ?_ ?_);rfl;intro K hK;simp(disch:=omega) only[go_sem,W,Nat.mul_one];((repeat(refine ndI (by first|assumption|omega|rfl) ?_));refine hK _ ?_;clear hK K))|(with_reducible first|(refine Q0c ?_;refine hR _ ?_;clear hR R)|((first|refine Q0e ?_|refine Q0f ?_);intro J hJ hJ')|(refine Q0a ?_;intro R hR)|(refine hJ _ ?_;clear hJ hJ' J)|refine Q0h ?_|refine Q0j ?_)|((with_reducible refine hJ' _ _ ?_ ?_);(focus(simp;done));clear hJ hJ' J)|((with_reducible apply Q0d);rfl;rfl;all_goals(intro hc;first|(cases hc;done)|(try simp only at hc)))))))
     all_goals rw[←hd]
     all_goals(refine⟨by simp,⟨_,?_,AV.le_refl _⟩,Q0g (by simp[leH,hget])⟩;simp only[Tryz.results86,resL,ldA,Q0m,go_sem])
 · have k1:(decide ((i:Int)<(l.length:Int)))=false:=by simp;omega
   rw[List.drop_eq_nil_of_le hge] at hd
   have hd:r = -1:=hd.symm
   (repeat(any_goals(first|((with_reducible refine Q0b ?_ ?_);rfl;intro K hK;simp only[go_sem,k1];((repeat(refine ndI (by first|assumption) ?_));refine hK _ ?_;clear hK K))|(with_reducible first|(refine Q0c ?_;refine hR _ ?_;clear hR R)|((first|refine Q0e ?_);intro J hJ hJ')|(refine Q0a ?_;intro R hR)|(refine hJ _ ?_;clear hJ hJ' J)|refine Q0j ?_|refine Q0q ?_)|((with_reducible refine hJ' _ _ ?_ ?_);(focus(simp;done));clear hJ hJ' J)|((with_reducible apply Q0d);rfl;rfl;all_goals(intro hc;first|(cases hc;done)|(try simp only at hc))))))
   all_goals rw[hd]
   all_goals(refine⟨by simp,⟨_,?_,AV.le_refl _⟩,Q0g (by simp[leH,hget])⟩;simp only[Tryz.results86,resL,ldA,Q0m,go_sem])
theorem hasP_fn (ex:Bool) (l:List Ph) (p:Ph→Bool) {g:FuncId} {fn:Func} {caps:List AV} (hl:l.length≤1000000) (hgf:Tryz.prog.funcs[g]? = some fn) (hgn:(fn.name == "runtime.NumGoroutine")=false) (hgb:fn.body.isNone=false) (hcap:AV.inNL [] caps=true) (hp:∀x∈l,Fn Tryz.prog g (phA x::caps) [] (vb (p x)) []) :
 Fn Tryz.prog 52 [.c (.sl ex 4 l.length (l.flatMap Ph.pv)),.fn g caps] [] (vb (l.any p)) []:=by
 have h:=idxP_fn ex l p hl hgf hgn hgb hcap hp
 have e:=Q9s p l 0
 generalize idxF p l 0=r at h e
 rw[←e]
 (refine Q0t Tryz.func52 rfl (by rfl) ?_;simp only[Tryz.ntmps52,List.length_cons,List.length_nil,Nat.reduceAdd,Nat.reduceSub,List.replicate,List.cons_append,List.nil_append])
 (repeat(any_goals(first|((with_reducible refine Q0l ?_ ?_ ?_);rfl;rfl;intro K hK;((apply Q0i (h);rfl;rfl;rfl;rfl;exact Tryz.func86);kernel_rfl;rfl;(focus((simp only[go_sem]);(try rfl);done));(first|simp[AV.inNL,AV.inN,hcap]));(simp only[go_sem];refine hK _ ?_;clear hK K))|((with_reducible refine Q0b ?_ ?_);rfl;intro K hK;simp only[go_sem];((repeat(refine ndI (by first|assumption) ?_));refine hK _ ?_;clear hK K))|(with_reducible first|(refine Q0c ?_;refine hR _ ?_;clear hR R)|((first|refine Q0e ?_);intro J hJ hJ')|(refine Q0a ?_;intro R hR)|(refine hJ _ ?_;clear hJ hJ' J)|refine Q0j ?_))))
 all_goals(refine⟨by simp,⟨_,?_,AV.le_refl _⟩,Q0g (by simp[leH,hget])⟩;simp only[Tryz.results52,resL,ldA,Q0m,go_sem])
def phB(s:Int)(p:Ph)(last:Int):Bool:=!(decide (p.role≤last)||(decide (p.role>3)||((p.who==0) || !trB p.tr))) && !((p.role==2)&&(p.who != s))
def phsB(s:Int):List Ph→Int→Bool
 |[],_=>true
 |p::l,last=>phB s p last&&phsB s l p.role
def Q9i(l:List Int):Bool:=decide (l.Pairwise (· < ·))
def Q2z(c:Cs):Bool:=phsB c.snd c.ph 0&&((c.ph.any fun p=>p.role==2)&&Q9i c.cd)
theorem Z0d(p:Ph):Fn Tryz.prog 53 [phA p] [] (vb (p.role==2)) []:=by
 (refine Q0t Tryz.func53 rfl (by rfl) ?_;simp only[Tryz.ntmps53,List.length_cons,List.length_nil,Nat.reduceAdd,Nat.reduceSub,List.replicate,List.cons_append,List.nil_append])
 (repeat(any_goals(first|((with_reducible refine Q0b ?_ ?_);rfl;intro K hK;simp only[go_sem];((repeat(refine ndI (by first|assumption) ?_));refine hK _ ?_;clear hK K))|(with_reducible first|(refine Q0c ?_;refine hR _ ?_;clear hR R)|((first|refine Q0e ?_);intro J hJ hJ')|(refine Q0a ?_;intro R hR)|(refine hJ _ ?_;clear hJ hJ' J)|refine Q0j ?_))))
 all_goals(refine⟨by simp,⟨_,?_,AV.le_refl _⟩,Q0g (by simp[leH,hget])⟩;simp only[Tryz.results53,resL,ldA,Q0m,go_sem])
theorem X4b{l r:List Int}(hr:r.Pairwise (· < ·))(hm:∀x,x∈r↔x∈l):decide (l=r)=Q9i l:=by
 unfold Q9i
 refine decide_eq_decide.2 ⟨fun h=>by rw[h];exact hr,fun h=>X6d h hr fun x=>(hm x).symm⟩
theorem b6:∀c1 c2 c3 tb c4 c5:Bool,(!(c1||(c2||(c3 || !tb))) && !(c4&&c5))=true→c1=false∧c2=false∧c3=false∧tb=true∧(c4&&c5)=false:=by decide
theorem X4h(c:Cs)(hc:c.ok):Fn Tryz.prog 16 [csA c] [] (vi .i64 (if Q2z c then 0 else 320)) []:=by
 obtain⟨s,ph,cd⟩:=c
 obtain⟨hs,⟨hpl,hpo⟩,hcl,hco⟩:=hc
 dsimp only at hs hpl hpo hcl hco
 have hh:=hasP_fn false ph (fun p=>p.role==2) (caps:=[]) (by omega) Tryz.func53 (by kernel_rfl) rfl rfl fun p hp=>Z0d p
 obtain⟨r,hr1,hr2,hr3,so⟩:=X0s false cd (by omega) hco
 have he:=eqA_fn false false cd r (by unfold maxLen;omega) (by unfold maxLen;omega)
 rw[X4b hr1 hr2] at he
 have e:Q2z ⟨s,ph,cd⟩=(phsB s ph 0&&((ph.any fun p=>p.role==2)&&Q9i cd)):=rfl
 rw[e]
 generalize (ph.any fun p=>p.role==2)=b2 at hh ⊢
 generalize Q9i cd=b3 at he ⊢
 clear e hr1 hr2
 obtain⟨q,hq⟩:∃q,phsB s ph 0=q:=⟨_,rfl⟩
 rw[hq]
 (refine Q0t Tryz.func16 rfl (by rfl) ?_;simp only[Tryz.ntmps16,List.length_cons,List.length_nil,Nat.reduceAdd,Nat.reduceSub,List.replicate,List.cons_append,List.nil_append])
 (repeat(any_goals(first|((with_reducible refine Q0b ?_ ?_);rfl;intro K hK;simp only[go_sem];((repeat(refine ndI (by first|assumption) ?_));refine hK _ ?_;clear hK K))|(with_reducible first|(refine Q0c ?_;refine hR _ ?_;clear hR R)|((first|refine Q0e ?_|refine Q0f ?_);intro J hJ hJ')|(refine Q0a ?_;intro R hR)|(refine hJ _ ?_;clear hJ hJ' J)))))
 refine Q1p (α:={p:Nat×Int // p.1≤ph.length∧phsB s (ph.drop p.1) p.2=q}) (fun p=>⟨[.any,.ptr 1 0,vi .i64 0,vi .i64 p.1.2,.any,.any,.any,.any,phs false ph,vi .i64 ph.length,vi .i64 (p.1.1:Int),.any,.any,.any,.any,.any,.any,.any,.any,.any,.any,.any,.any,.any,.any,.any,.any,.any,.any,.any,.any,.any,.any,.any,.any,.any,.any,.any,.any,.any,.any,.any,.any,.any,.any,.any,.any,.any,.any,.any,.any,.any,.any,.any,.any,.any,.any,.any,.any,.any,.any],[(1,[vi .u64 s,phs false ph,asl false cd])]⟩) (fun p=>ph.length-p.1.1) ⟨(0,0),Nat.zero_le _,hq⟩ (St.le_of (by simp[leT]) (by simp[leH,hget])) ?_
 rintro ⟨⟨i,last⟩,hi,hd⟩ J hJ hJ'
 (try dsimp only at hi hd hJ ⊢)
 rcases Nat.lt_or_ge i ph.length with hlt|hge
 · obtain⟨y,hy⟩:∃y,ph[i]? = some y:=⟨_,List.getElem?_eq_getElem hlt⟩
   have k1:(decide ((i:Int)<(ph.length:Int)))=true:=by simp;omega
   have k2:=Q4x hy
   have k7:(i:Int)+1=((i+1:Nat):Int):=by omega
   have oy:=hpo y (List.mem_of_getElem? hy)
   have ck:=Q5g false y.tr (by have:=oy.2.1;omega) oy.2.2
   have hdr:ph.drop i=y::ph.drop (i+1):=by
    rw[List.drop_eq_getElem_cons hlt]
    rw[List.getElem?_eq_getElem hlt] at hy
    rw[Option.some.inj hy]
   rw[hdr] at hd
   unfold phsB phB at hd
   have hJ1:=fun σ' (h:phsB s (ph.drop (i+1)) y.role=q)=>hJ σ' ⟨(i+1,y.role),hlt,h⟩ (by dsimp only;omega)
   dsimp only at hJ1
   generalize phsB s (ph.drop (i+1)) y.role=q2 at hd hJ1
   generalize trB y.tr=tb at ck hd
   obtain⟨c1,h1⟩:∃b,decide (y.role≤last)=b:=⟨_,rfl⟩
   obtain⟨c2,h2⟩:∃b,decide (y.role>3)=b:=⟨_,rfl⟩
   obtain⟨c3,h3⟩:∃b,(y.who==0)=b:=⟨_,rfl⟩
   obtain⟨c4,h4⟩:∃b,(y.role==2)=b:=⟨_,rfl⟩
   obtain⟨c5,h5⟩:∃b,(y.who != s)=b:=⟨_,rfl⟩
   rw[h1,h2,h3,h4,h5] at hd
   clear hh so he hq
   have fin:∀d1 d2 d3 d4 d5 dt:Bool,c1=d1→c2=d2→c3=d3→c4=d4→c5=d5→tb=dt→(!(d1||(d2||(d3 || !dt))) && !(d4&&d5)&&q2)=q:=fun d1 d2 d3 d4 d5 dt e1 e2 e3 e4 e5 e6=>by
    rw[←e1,←e2,←e3,←e4,←e5,←e6];exact hd
   clear hd
   have bad:(∀x:Bool,x=q→x=false)→(vi .i64 (if (q&&(b2&&b3))=true then 0 else 320))=vi .i64 320:=fun h=>by
    rw[h q rfl];rfl
   cases c1 with
   |true=>
    clear hJ1
    (have W:=ndI k1 (ndI k2 (ndI k7 (ndI h1 @wrI)));(repeat(any_goals(first|((with_reducible refine Q0b ?_ ?_);rfl;intro K hK;simp(disch:=omega) only[go_sem,W];((repeat(refine ndI (by first|assumption|omega|rfl) ?_));refine hK _ ?_;clear hK K))|(with_reducible first|(refine Q0c ?_;refine hR _ ?_;clear hR R)|((first|refine Q0e ?_|refine Q0f ?_);intro J hJ hJ')|(refine Q0a ?_;intro R hR)|(refine hJ _ ?_;clear hJ hJ' J)|refine Q0h ?_|refine Q0j ?_)|((with_reducible refine hJ' _ _ ?_ ?_);(focus(simp;done));clear hJ hJ' J)|((with_reducible apply Q0p);rfl;rfl;rfl;all_goals(intro hb;first|(cases hb;done)|((try simp only[Bool.not_true,Bool.not_false] at hb);(first|((fail_if_success (with_reducible intro _));simp(disch:=omega) only[go_sem,W])))))|((with_reducible apply Q0d);rfl;rfl;all_goals(intro hc;first|(cases hc;done)|(try simp only at hc)))))))
    all_goals rw[bad fun x hx=>by rw[hx,←fin true c2 c3 c4 c5 tb rfl rfl rfl rfl rfl rfl];rfl]
    all_goals(refine⟨by simp,⟨_,?_,AV.le_refl _⟩,Q0g (by simp[leH,hget])⟩;simp only[Tryz.results16,resL,ldA,Q0m,go_sem])
   |false=>
   cases c2 with
   |true=>
    clear hJ1
    (have W:=ndI k1 (ndI k2 (ndI k7 (ndI h1 (ndI h2 @wrI))));(repeat(any_goals(first|((with_reducible refine Q0b ?_ ?_);rfl;intro K hK;simp(disch:=omega) only[go_sem,W];((repeat(refine ndI (by first|assumption|omega|rfl) ?_));refine hK _ ?_;clear hK K))|(with_reducible first|(refine Q0c ?_;refine hR _ ?_;clear hR R)|((first|refine Q0e ?_|refine Q0f ?_);intro J hJ hJ')|(refine Q0a ?_;intro R hR)|(refine hJ _ ?_;clear hJ hJ' J)|refine Q0h ?_|refine Q0j ?_)|((with_reducible refine hJ' _ _ ?_ ?_);(focus(simp;done));clear hJ hJ' J)|((with_reducible apply Q0p);rfl;rfl;rfl;all_goals(intro hb;first|(cases hb;done)|((try simp only[Bool.not_true,Bool.not_false] at hb);(first|((with_reducible intro K hK);(first|skip);simp(disch:=omega) only[go_sem,W];((repeat(refine ndI (by first|assumption|rfl) ?_));refine hK _ ?_;clear hK K))|((fail_if_success (with_reducible intro _));simp(disch:=omega) only[go_sem,W])))))|((with_reducible apply Q0d);rfl;rfl;all_goals(intro hc;first|(cases hc;done)|(try simp only at hc)))))))
    all_goals rw[bad fun x hx=>by rw[hx,←fin false true c3 c4 c5 tb rfl rfl rfl rfl rfl rfl];rfl]
    all_goals(refine⟨by simp,⟨_,?_,AV.le_refl _⟩,Q0g (by simp[leH,hget])⟩;simp only[Tryz.results16,resL,ldA,Q0m,go_sem])
   |false=>
   cases c3 with
   |true=>
    clear hJ1
    (have W:=ndI k1 (ndI k2 (ndI k7 (ndI h1 (ndI h2 (ndI h3 @wrI)))));(repeat(any_goals(first|((with_reducible refine Q0b ?_ ?_);rfl;intro K hK;simp(disch:=omega) only[go_sem,W];((repeat(refine ndI (by first|assumption|omega|rfl) ?_));refine hK _ ?_;clear hK K))|(with_reducible first|(refine Q0c ?_;refine hR _ ?_;clear hR R)|((first|refine Q0e ?_|refine Q0f ?_);intro J hJ hJ')|(refine Q0a ?_;intro R hR)|(refine hJ _ ?_;clear hJ hJ' J)|refine Q0h ?_|refine Q0j ?_)|((with_reducible refine hJ' _ _ ?_ ?_);(focus(simp;done));clear hJ hJ' J)|((with_reducible apply Q0p);rfl;rfl;rfl;all_goals(intro hb;first|(cases hb;done)|((try simp only[Bool.not_true,Bool.not_false] at hb);(first|((with_reducible intro K hK);(first|skip);simp(disch:=omega) only[go_sem,W];((repeat(refine ndI (by first|assumption|rfl) ?_));refine hK _ ?_;clear hK K))|((fail_if_success (with_reducible intro _));simp(disch:=omega) only[go_sem,W])))))|((with_reducible apply Q0d);rfl;rfl;all_goals(intro hc;first|(cases hc;done)|(try simp only at hc)))))))
    all_goals rw[bad fun x hx=>by rw[hx,←fin false false true c4 c5 tb rfl rfl rfl rfl rfl rfl];rfl]
    all_goals(refine⟨by simp,⟨_,?_,AV.le_refl _⟩,Q0g (by simp[leH,hget])⟩;simp only[Tryz.results16,resL,ldA,Q0m,go_sem])
   |false=>
   cases tb with
   |false=>
    rw[if_neg (by simp)] at ck
    clear hJ1
    (have W:=ndI k1 (ndI k2 (ndI k7 (ndI h1 (ndI h2 (ndI h3 @wrI)))));(repeat(any_goals(first|((with_reducible refine Q0b ?_ ?_);rfl;intro K hK;simp(disch:=omega) only[go_sem,W];((repeat(refine ndI (by first|assumption|omega|rfl) ?_));refine hK _ ?_;clear hK K))|(with_reducible first|(refine Q0c ?_;refine hR _ ?_;clear hR R)|((first|refine Q0e ?_|refine Q0f ?_);intro J hJ hJ')|(refine Q0a ?_;intro R hR)|(refine hJ _ ?_;clear hJ hJ' J)|refine Q0h ?_|refine Q0j ?_)|((with_reducible refine hJ' _ _ ?_ ?_);(focus(simp;done));clear hJ hJ' J)|((with_reducible apply Q0p);rfl;rfl;rfl;all_goals(intro hb;first|(cases hb;done)|((try simp only[Bool.not_true,Bool.not_false] at hb);(first|((with_reducible intro K hK);(first|((apply Q0i (ck);rfl;rfl;rfl;rfl;exact Tryz.func51);kernel_rfl;rfl;(focus((simp(disch:=omega) only[go_sem,W]);(try rfl);done));(first|rfl))|skip);simp(disch:=omega) only[go_sem,W];((repeat(refine ndI (by first|assumption|rfl) ?_));refine hK _ ?_;clear hK K))))))|((with_reducible apply Q0d);rfl;rfl;all_goals(intro hc;first|(cases hc;done)|(try simp only at hc)))))))
    all_goals rw[bad fun x hx=>by rw[hx,←fin false false false c4 c5 false rfl rfl rfl rfl rfl rfl];rfl]
    all_goals(refine⟨by simp,⟨_,?_,AV.le_refl _⟩,Q0g (by simp[leH,hget])⟩;simp only[Tryz.results16,resL,ldA,Q0m,go_sem])
   |true=>
   rw[if_pos rfl] at ck
   cases c4 with
   |false=>
    have hJ2:=fun σ'=>hJ1 σ' (fin false false false false c5 true rfl rfl rfl rfl rfl rfl)
    (have W:=ndI k1 (ndI k2 (ndI k7 (ndI h1 (ndI h2 (ndI h3 (ndI h4 @wrI))))));(repeat(any_goals(first|((with_reducible refine Q0b ?_ ?_);rfl;intro K hK;simp(disch:=omega) only[go_sem,W];((repeat(refine ndI (by first|assumption|omega|rfl) ?_));refine hK _ ?_;clear hK K))|(with_reducible first|(refine Q0c ?_;refine hR _ ?_;clear hR R)|((first|refine Q0e ?_|refine Q0f ?_);intro J hJ hJ')|(refine Q0a ?_;intro R hR)|(refine hJ _ ?_;clear hJ hJ' J)|refine Q0h ?_)|((with_reducible refine hJ' _ _ ?_ ?_);(focus(simp;done));clear hJ hJ' J)|((with_reducible apply Q0p);rfl;rfl;rfl;all_goals(intro hb;first|(cases hb;done)|((try simp only[Bool.not_true,Bool.not_false] at hb);(first|((with_reducible intro K hK);(first|((apply Q0i (ck);rfl;rfl;rfl;rfl;exact Tryz.func51);kernel_rfl;rfl;(focus((simp(disch:=omega) only[go_sem,W]);(try rfl);done));(first|rfl))|skip);simp(disch:=omega) only[go_sem,W];((repeat(refine ndI (by first|assumption|rfl) ?_));refine hK _ ?_;clear hK K))|((fail_if_success (with_reducible intro _));simp(disch:=omega) only[go_sem,W])))))|((with_reducible apply Q0d);rfl;rfl;all_goals(intro hc;first|(cases hc;done)|(try simp only at hc)))))))
    all_goals exact hJ2 _ (St.le_of (by simp[leT]) (by simp[leH,hget]))
   |true=>
   cases c5 with
   |true=>
    clear hJ1
    (have W:=ndI k1 (ndI k2 (ndI k7 (ndI h1 (ndI h2 (ndI h3 (ndI h4 (ndI h5 @wrI)))))));(repeat(any_goals(first|((with_reducible refine Q0b ?_ ?_);rfl;intro K hK;simp(disch:=omega) only[go_sem,W];((repeat(refine ndI (by first|assumption|omega|rfl) ?_));refine hK _ ?_;clear hK K))|(with_reducible first|(refine Q0c ?_;refine hR _ ?_;clear hR R)|((first|refine Q0e ?_|refine Q0f ?_);intro J hJ hJ')|(refine Q0a ?_;intro R hR)|(refine hJ _ ?_;clear hJ hJ' J)|refine Q0h ?_|refine Q0j ?_)|((with_reducible refine hJ' _ _ ?_ ?_);(focus(simp;done));clear hJ hJ' J)|((with_reducible apply Q0p);rfl;rfl;rfl;all_goals(intro hb;first|(cases hb;done)|((try simp only[Bool.not_true,Bool.not_false] at hb);(first|((with_reducible intro K hK);(first|((apply Q0i (ck);rfl;rfl;rfl;rfl;exact Tryz.func51);kernel_rfl;rfl;(focus((simp(disch:=omega) only[go_sem,W]);(try rfl);done));(first|rfl))|skip);simp(disch:=omega) only[go_sem,W];((repeat(refine ndI (by first|assumption|rfl) ?_));refine hK _ ?_;clear hK K))))))|((with_reducible apply Q0d);rfl;rfl;all_goals(intro hc;first|(cases hc;done)|(try simp only at hc)))))))
    all_goals rw[bad fun x hx=>by rw[hx,←fin false false false true true true rfl rfl rfl rfl rfl rfl];rfl]
    all_goals(refine⟨by simp,⟨_,?_,AV.le_refl _⟩,Q0g (by simp[leH,hget])⟩;simp only[Tryz.results16,resL,ldA,Q0m,go_sem])
   |false=>
    have hJ2:=fun σ'=>hJ1 σ' (fin false false false true false true rfl rfl rfl rfl rfl rfl)
    (have W:=ndI k1 (ndI k2 (ndI k7 (ndI h1 (ndI h2 (ndI h3 (ndI h4 (ndI h5 @wrI)))))));(repeat(any_goals(first|((with_reducible refine Q0b ?_ ?_);rfl;intro K hK;simp(disch:=omega) only[go_sem,W];((repeat(refine ndI (by first|assumption|omega|rfl) ?_));refine hK _ ?_;clear hK K))|(with_reducible first|(refine Q0c ?_;refine hR _ ?_;clear hR R)|((first|refine Q0e ?_|refine Q0f ?_);intro J hJ hJ')|(refine Q0a ?_;intro R hR)|(refine hJ _ ?_;clear hJ hJ' J)|refine Q0h ?_)|((with_reducible refine hJ' _ _ ?_ ?_);(focus(simp;done));clear hJ hJ' J)|((with_reducible apply Q0p);rfl;rfl;rfl;all_goals(intro hb;first|(cases hb;done)|((try simp only[Bool.not_true,Bool.not_false] at hb);(first|((with_reducible intro K hK);(first|((apply Q0i (ck);rfl;rfl;rfl;rfl;exact Tryz.func51);kernel_rfl;rfl;(focus((simp(disch:=omega) only[go_sem,W]);(try rfl);done));(first|rfl))|skip);simp(disch:=omega) only[go_sem,W];((repeat(refine ndI (by first|assumption|rfl) ?_));refine hK _ ?_;clear hK K))))))|((with_reducible apply Q0d);rfl;rfl;all_goals(intro hc;first|(cases hc;done)|(try simp only at hc)))))))
    all_goals exact hJ2 _ (St.le_of (by simp[leT]) (by simp[leH,hget]))
 · have k1:(decide ((i:Int)<(ph.length:Int)))=false:=by simp;omega
   rw[List.drop_eq_nil_of_le hge] at hd
   have hd:q=true:=hd.symm
   (repeat(any_goals(first|((with_reducible refine Q0l ?_ ?_ ?_);rfl;rfl;intro K hK;((first|(apply Q0i (hh);rfl;rfl;rfl;rfl;exact Tryz.func52));kernel_rfl;rfl;(focus((simp only[go_sem,k1]);(try rfl);done));(first|rfl));(simp only[go_sem,k1];refine hK _ ?_;clear hK K))|((with_reducible refine Q0b ?_ ?_);rfl;intro K hK;simp only[go_sem,k1];((repeat(refine ndI (by first|assumption) ?_));refine hK _ ?_;clear hK K))|(with_reducible first|(refine Q0c ?_;refine hR _ ?_;clear hR R)|((first|refine Q0e ?_);intro J hJ hJ')|(refine Q0a ?_;intro R hR)|(refine hJ _ ?_;clear hJ hJ' J)|refine Q0h ?_|refine Q0j ?_|refine Q0q ?_)|((with_reducible refine hJ' _ _ ?_ ?_);(focus(simp;done));clear hJ hJ' J)|((with_reducible apply Q0d);rfl;rfl;all_goals(intro hc;first|(cases hc;done)|(try simp only at hc)))|((with_reducible refine Q0z ?_ ?_);kernel_rfl;(with_reducible refine hR _ ?_);clear hR R)|((first|((with_reducible apply Q3q);rfl;rfl;rfl;rfl)|((first|((with_reducible apply Q3i);rfl;rfl;rfl;rfl;rfl));((first|(apply Q0y (so);rfl;rfl;rfl;rfl;exact Tryz.func55)|(apply Q0y (he);rfl;rfl;rfl;rfl;exact Tryz.func54));kernel_rfl;rfl;(focus((simp only[go_sem,k1]);(try rfl);done));(first|rfl)))|((first|((with_reducible apply Q0x);rfl;rfl)|((with_reducible apply Q3c);rfl;rfl;rfl;rfl;rfl));(simp only[rdE,rdOf,go_sem,k1];rfl);(intro τ hA hQ hN;((try simp only[Q1i,Op.operands,Call.operands,go_sem,k1,go_sem,List.mem_cons,List.not_mem_nil,forall_eq_or_imp,forall_eq,List.append_toArray,Option.toArray] at hA);(try simp only[go_sem,k1,List.mem_cons,List.not_mem_nil,forall_eq_or_imp,forall_eq] at hQ hN);(first|(revert hA;intro hA));(first|(revert hQ;intro hQ));(first|(revert hN;intro hN));simp only[go_sem,k1,go_sem,hA,hQ,hN];(repeat(refine ndI (by first|assumption) ?_));(first|apply Q1b)))));(simp only[St.eff,setO,Q0u,go_sem,k1]))|((with_reducible apply X5a);rfl;rfl;rfl;all_goals intro hb;all_goals(simp only[St.eff,setO,Q0u,go_sem,k1]))|((with_reducible refine Q0w ?_ ?_ ?_ ?_);kernel_rfl;kernel_rfl;(first|kernel_rfl);intro R hR))))
   all_goals rw[hd]
   all_goals(cases b2<;>cases b3<;>first|(exfalso;simp_all;done)|(refine⟨by simp,⟨_,?_,AV.le_refl _⟩,Q0g (by simp[leH,hget])⟩;simp only[Tryz.results16,resL,ldA,Q0m,go_sem]))
   all_goals(first|rfl)
end
section
open Go.RowKit
open Nat (reduceBEq)
attribute [-go_sem] IntKind.bits
set_option maxRecDepth 20000
set_option maxHeartbeats 1000000
abbrev ktP(c:Cs)(made firm:Bool):AV:=.ep [.v (.int .u64 c.snd),.sl false 4 c.ph.length (c.ph.flatMap Ph.pv),.sl false 1 c.cd.length (c.cd.flatMap apv),.v (.bool made),.v (.bool firm)]
abbrev epA(a:Int):AV:=.ep [.v (.int .u64 a)]
abbrev epS(s:Sp):AV:=.ep [.v (.int .u64 s.a),.v (.int .u64 (l0 s.k)),.v (.int .u64 (l1 s.k)),.v (.int .u64 (l2 s.k)),.v (.int .u64 (l3 s.k))]
def assP(a:Int)(s:Sp)(p:Ph):Bool:=X5s a s.k p.tr
def Q3w(c:Cs)(s:Sp)(a:Int):Bool:=(s.a==a)||c.ph.any (assP a s)
theorem bel1_fn(p:Ph)(hp:p.ok)(a:Int)(ha:U a)(s:Sp)(hs:s.ok):Fn Tryz.prog 73 [phA p,epA a,epS s] [] (vb (assP a s p)) []:=by
 have h:=assoc_fn false p.tr hp.2.1 hp.2.2 a ha s.k hs.2
 change Fn _ _ _ _ (vb (assP a s p)) _ at h
 generalize assP a s p=b at h ⊢
 (refine Q0t Tryz.func73 rfl (by rfl) ?_;simp only[Tryz.ntmps73,List.length_cons,List.length_nil,Nat.reduceAdd,Nat.reduceSub,List.replicate,List.cons_append,List.nil_append])
 (repeat(any_goals(first|((with_reducible refine Q0l ?_ ?_ ?_);rfl;rfl;intro K hK;((apply Q0i (h);rfl;rfl;rfl;rfl;exact Tryz.func74);kernel_rfl;rfl;(focus((simp only[go_sem]);(try rfl);done));(first|rfl));(simp only[go_sem];refine hK _ ?_;clear hK K))|((with_reducible refine Q0b ?_ ?_);rfl;intro K hK;simp only[go_sem];((repeat(refine ndI (by first|assumption) ?_));refine hK _ ?_;clear hK K))|(with_reducible first|(refine Q0c ?_;refine hR _ ?_;clear hR R)|((first|refine Q0e ?_);intro J hJ hJ')|(refine Q0a ?_;intro R hR)|(refine hJ _ ?_;clear hJ hJ' J)|refine Q0j ?_))))
 all_goals(refine⟨by simp,⟨_,?_,AV.le_refl _⟩,Q0g (by simp[leH,hget])⟩;simp only[Tryz.results73,resL,ldA,Q0m,go_sem])
theorem X7g(c:Cs)(m f:Bool)(s:Sp)(a:Int)(b1 b2:Bool)(h1:(s.a==a)=b1)(hw:Fn Tryz.prog 52 [phs false c.ph,.fn 73 [epA a,epS s]] [] (vb b2) []) :
 FnW (fun _=>True) Tryz.prog 46 [ktP c m f,spA s,vi .u64 a] [] (vb (b1||b2)) []:=by
 (refine Q4r Tryz.func46 rfl (by rfl) ?_;simp only[Tryz.ntmps46,List.length_cons,List.length_nil,Nat.reduceAdd,Nat.reduceSub,List.replicate,List.cons_append,List.nil_append])
 refine AWE.seq (AWE.of ?_)
 (repeat(any_goals(first|((with_reducible refine Q0b ?_ ?_);rfl;intro K hK;simp only[go_sem];((repeat(refine ndI (by first|assumption) ?_));refine hK _ ?_;clear hK K))|(with_reducible first|(refine Q0c ?_;refine hR _ ?_;clear hR R)|(refine Q0a ?_;intro R hR)))))
 show AWE _ _ _ _ _
 refine AWE.seq (AWE.of ?_)
 (repeat(any_goals(first|((with_reducible refine Q0b ?_ ?_);rfl;intro K hK;simp only[go_sem];((repeat(refine ndI (by first|assumption) ?_));refine hK _ ?_;clear hK K))|(with_reducible first|(refine Q0c ?_;refine hR _ ?_;clear hR R)|(refine Q0a ?_;intro R hR)))))
 show AWE _ _ _ _ _
 refine AWE.to (St.to.trans (St.to.frz 5 (pcs:=[.v (.int .u64 a)]) rfl) (St.to.frz 4 (pcs:=[.v (.int .u64 s.a),.v (.int .u64 (l0 s.k)),.v (.int .u64 (l1 s.k)),.v (.int .u64 (l2 s.k)),.v (.int .u64 (l3 s.k))]) rfl)) ?_
 simp only[St.frz,AV.frz,AV.frzL,frzH,if_true,List.length_cons,List.length_nil,List.drop,Nat.zero_add,Nat.reduceAdd,Nat.lt_add_one,Nat.zero_lt_succ,Nat.reduceEqDiff,if_false]
 refine AWE.of ?_
 cases b1 with
 |false=>
  (repeat(any_goals(first|((with_reducible refine Q0b ?_ ?_);rfl;intro K hK;simp only[go_sem,h1];((repeat(refine ndI (by first|assumption) ?_));refine hK _ ?_;clear hK K))|(with_reducible first|(refine Q0c ?_;refine hR _ ?_;clear hR R)|((first|refine Q0e ?_);intro J hJ hJ')|(refine Q0a ?_;intro R hR)|(refine hJ _ ?_;clear hJ hJ' J)|refine Q0j ?_)|((with_reducible apply Q0p);rfl;rfl;rfl;all_goals(intro hb;first|(cases hb;done)|((try simp only[Bool.not_true,Bool.not_false] at hb);(first|((with_reducible intro K hK);(first|((apply Q0i (hw);rfl;rfl;rfl;rfl;exact Tryz.func52);kernel_rfl;rfl;(focus((simp only[go_sem,h1]);(try rfl);done));(first|rfl))|skip);simp only[go_sem,h1];((repeat(refine ndI (by first|assumption) ?_));refine hK _ ?_;clear hK K)))))))))
  all_goals exact⟨by simp,⟨_,rfl,AV.le_of (by simp[Q0m])⟩,Q0g (by simp[leH,hget])⟩
 |true=>
  (repeat(any_goals(first|((with_reducible refine Q0b ?_ ?_);rfl;intro K hK;simp only[go_sem,h1];((repeat(refine ndI (by first|assumption) ?_));refine hK _ ?_;clear hK K))|(with_reducible first|(refine Q0c ?_;refine hR _ ?_;clear hR R)|((first|refine Q0e ?_);intro J hJ hJ')|(refine Q0a ?_;intro R hR)|(refine hJ _ ?_;clear hJ hJ' J)|refine Q0j ?_)|((with_reducible apply Q0p);rfl;rfl;rfl;all_goals(intro hb;first|(cases hb;done)|((try simp only[Bool.not_true,Bool.not_false] at hb);(first|((fail_if_success (with_reducible intro _));simp only[go_sem,h1]))))))))
  all_goals exact⟨by simp,⟨_,rfl,AV.le_of (by simp[Q0m])⟩,Q0g (by simp[leH,hget])⟩
theorem Q7y(c:Cs)(hc:c.ok)(m f:Bool)(s:Sp)(hs:s.ok)(a:Int)(ha:U a):Fn Tryz.prog 46 [ktP c m f,spA s,vi .u64 a] [] (vb (Q3w c s a)) []:=fun E vs=>
 X7g c m f s a (s.a==a) (c.ph.any (assP a s)) rfl (hasP_fn false c.ph (assP a s) (caps:=[epA a,epS s]) (by have:=hc.2.1.1;omega) Tryz.func73 (by kernel_rfl) rfl (by simp[AV.inNL,AV.inN]) fun p hp=>bel1_fn p (hc.2.1.2 p hp) a ha s hs) E vs trivial
def creB(e:Ev):Bool:=(e.kind==4)&&((e.op:Int)==245)
theorem mk1_fn(e:Ev):Fn Tryz.prog 145 [evA e] [] (vb (creB e)) []:=by
 unfold creB
 obtain⟨b1,h1⟩:∃b,(e.kind==4)=b:=⟨_,rfl⟩
 obtain⟨b2,h2⟩:∃b,((e.op:Int)==245)=b:=⟨_,rfl⟩
 rw[h1,h2]
 (refine Q0t Tryz.func145 rfl (by rfl) ?_;simp only[Tryz.ntmps145,List.length_cons,List.length_nil,Nat.reduceAdd,Nat.reduceSub,List.replicate,List.cons_append,List.nil_append])
 (repeat(any_goals(first|((with_reducible refine Q0b ?_ ?_);rfl;intro K hK;simp only[go_sem,h1,h2];((repeat(refine ndI (by first|assumption) ?_));refine hK _ ?_;clear hK K))|(with_reducible first|(refine Q0c ?_;refine hR _ ?_;clear hR R)|((first|refine Q0e ?_);intro J hJ hJ')|(refine Q0a ?_;intro R hR)|(refine hJ _ ?_;clear hJ hJ' J)|refine Q0j ?_)|((with_reducible apply Q0p);rfl;rfl;rfl;all_goals(intro hb;first|(cases hb;done)|((try simp only[Bool.not_true,Bool.not_false] at hb);(first|((with_reducible intro K hK);simp only[go_sem,h1,h2];((repeat(refine ndI (by first|assumption) ?_));refine hK _ ?_;clear hK K))|((fail_if_success (with_reducible intro _));simp only[go_sem,h1,h2]))))))))
 all_goals(subst_vars;(refine⟨by simp,⟨_,?_,AV.le_refl _⟩,Q0g (by simp[leH,hget])⟩;simp only[Tryz.results145,resL,ldA,Q0m,go_sem]))
 all_goals simp_all
end
section
open Go.RowKit
open Nat (reduceBEq)
attribute [-go_sem] IntKind.bits
set_option maxRecDepth 20000
set_option maxHeartbeats 1000000
theorem snan_fn(a:Int):Fn Tryz.prog 172 [vi .u64 a] [] (vb false) []:=by
 (refine Q0t Tryz.func172 rfl (by rfl) ?_;simp only[Tryz.ntmps172,List.length_cons,List.length_nil,Nat.reduceAdd,Nat.reduceSub,List.replicate,List.cons_append,List.nil_append])
 (repeat(any_goals(first|((with_reducible refine Q0b ?_ ?_);rfl;intro K hK;simp only[go_sem];((repeat(refine ndI (by first|assumption) ?_));refine hK _ ?_;clear hK K))|(with_reducible first|(refine Q0c ?_;refine hR _ ?_;clear hR R)|((first|refine Q0e ?_);intro J hJ hJ')|(refine Q0a ?_;intro R hR)|(refine hJ _ ?_;clear hJ hJ' J)|refine Q0j ?_))))
 all_goals(refine⟨by simp,⟨_,?_,AV.le_refl _⟩,Q0g (by simp[leH,hget])⟩;simp only[Tryz.results172,resL,ldA,Q0m,go_sem])
 all_goals simp
theorem less_fn(a b:Int):Fn Tryz.prog 171 [vi .u64 a,vi .u64 b] [] (vb (decide (a<b))) []:=by
 obtain⟨q,hq⟩:∃q,decide (a<b)=q:=⟨_,rfl⟩
 rw[hq]
 (refine Q0t Tryz.func171 rfl (by rfl) ?_;simp only[Tryz.ntmps171,List.length_cons,List.length_nil,Nat.reduceAdd,Nat.reduceSub,List.replicate,List.cons_append,List.nil_append])
 (repeat(any_goals(first|((with_reducible refine Q0l ?_ ?_ ?_);rfl;rfl;intro K hK;((apply Q0i (isNaN_fn _);rfl;rfl;rfl;rfl;exact Tryz.func132);kernel_rfl;rfl;(focus((simp only[go_sem,hq]);(try rfl);done));(first|rfl));(simp only[go_sem,hq];refine hK _ ?_;clear hK K))|((with_reducible refine Q0b ?_ ?_);rfl;intro K hK;simp only[go_sem,hq];((repeat(refine ndI (by first|assumption) ?_));refine hK _ ?_;clear hK K))|(with_reducible first|(refine Q0c ?_;refine hR _ ?_;clear hR R)|((first|refine Q0e ?_);intro J hJ hJ')|(refine Q0a ?_;intro R hR)|(refine hJ _ ?_;clear hJ hJ' J)|refine Q0j ?_)|((with_reducible apply Q0p);rfl;rfl;rfl;all_goals(intro hb;first|(cases hb;done)|((try simp only[Bool.not_true,Bool.not_false] at hb);(first|((with_reducible intro K hK);(first|skip);simp only[go_sem,hq];((repeat(refine ndI (by first|assumption) ?_));refine hK _ ?_;clear hK K))|((fail_if_success (with_reducible intro _));simp only[go_sem,hq]))))))))
 all_goals(refine⟨by simp,⟨_,?_,AV.le_refl _⟩,Q0g (by simp[leH,hget])⟩;simp only[Tryz.results171,resL,ldA,Q0m,go_sem])
 all_goals simp_all
def ltI(l:List Int)(k:Int)(h:Nat):Bool:=match l[h]? with|some z=>decide (z<k)|none=>false
def posI(l:List Int)(k:Int):Nat:=bsr (ltI l k) l.length 0 l.length
def atI(k:Int):Option Int→Bool
 |some z=>decide (z=k)
 |none=>false
def hasI(l:List Int)(k:Int):Bool:=atI k l[posI l k]?
theorem posI_le(l:List Int)(k:Int):posI l k≤l.length:=X9h _ _ _ _ (Nat.zero_le _)
theorem hasI_mem{l:List Int}(hr:l.Pairwise (· < ·))(k:Int):hasI l k=decide (k∈l):=by
 have hr':Rises (fun a:Int=>a) l:=hr
 have hp:Parts (fun a:Int=>a) l k (posI l k):=bsr_parts (key:=fun a:Int=>a) hr' fun i h=>by
  unfold ltI;rw[List.getElem?_eq_getElem h]
 have h:=X4k hr' hp
 have e1:hasI l k=(fnd (fun a:Int=>a) k l).isSome:=by
  rw[h]
  unfold hasI
  cases hx:l[posI l k]? with
  |none=>rfl
  |some z=>
   by_cases e:z=k<;>simp[e,Option.filter,atI]
 rw[e1,Bool.eq_iff_iff,decide_eq_true_iff]
 constructor
 · intro hs
   obtain⟨x,hx⟩:=Option.isSome_iff_exists.1 hs
   obtain⟨e,hm⟩:=X6z hx
   exact e▸hm
 · intro hm
   rw[show fnd (fun a:Int=>a) k l=some k from fnd_mem hr' hm]
   rfl
theorem bsA_fn(ex:Bool)(l:List Int)(hl:l.length≤1000000)(x:Int):Fn Tryz.prog 146 [asl ex l,vi .u64 x] [] (.tup [vi .i64 (posI l x:Nat),vb (hasI l x)]) []:=by
 unfold hasI
 generalize hr:posI l x=r
 have hrl:r≤l.length:=by rw[←hr];exact posI_le _ _
 unfold posI at hr
 obtain⟨g,hg⟩:∃g,atI x l[r]? = g:=⟨_,rfl⟩
 rw[hg]
 (refine Q0t Tryz.func146 rfl (by rfl) ?_;simp only[Tryz.ntmps146,List.length_cons,List.length_nil,Nat.reduceAdd,Nat.reduceSub,List.replicate,List.cons_append,List.nil_append])
 (repeat(any_goals(first|((with_reducible refine Q0b ?_ ?_);rfl;intro K hK;simp only[go_sem];((repeat(refine ndI (by first|assumption) ?_));refine hK _ ?_;clear hK K))|(with_reducible first|(refine Q0c ?_;refine hR _ ?_;clear hR R)|((first|refine Q0e ?_|refine Q0f ?_);intro J hJ hJ')|(refine Q0a ?_;intro R hR)|(refine hJ _ ?_;clear hJ hJ' J)))))
 refine Q1p (α:={p:Nat×Nat // p.1≤p.2∧p.2≤l.length∧bsr (ltI l x) (p.2-p.1) p.1 p.2=r}) (fun p=>⟨[asl ex l,vi .u64 x,.any,.any,.any,.any,vi .i64 l.length,vi .i64 p.1.1,vi .i64 p.1.2,.any,.any,.any,.any,.any,.any,.any,.any,.any,.any,.any,.any,.any,.any,.any,.any,.any,.any,.any,.any,.any,.any,.any,.any,.any,.any,.any,.any,.any,.any,.any,.any,.any,.any,.any,.any,.any,.any,.any,.any,.any,.any,.any,.any,.any],[]⟩) (fun p=>p.1.2-p.1.1) ⟨(0,l.length),Nat.zero_le _,Nat.le_refl _,by simpa using hr⟩ (St.le_of (by simp[leT]) (by simp[leH,hget])) ?_
 rintro ⟨⟨i,j⟩,h1,h2,h3⟩ J hJ hJ'
 dsimp only at h1 h2 h3 hJ ⊢
 rcases Nat.lt_or_ge i j with hlt|hge
 · have e1:(decide ((i:Int)<(j:Int)))=true:=by simpa using hlt
   obtain⟨y,hy⟩:∃y,l[(i+j)/2]? = some y:=⟨l[(i+j)/2],List.getElem?_eq_getElem (by omega)⟩
   have e2:=Q6f hy
   have e8:ltI l x ((i+j)/2)=decide (y<x):=by simp[ltI,hy]
   have cm:=less_fn y x
   have k7:(((i+j)/2:Nat):Int)+1=(((i+j)/2+1:Nat):Int):=by omega
   generalize decide (y<x)=q at e8 cm
   cases q with
   |true=>
    have hJ1:=fun σ'=>hJ σ' ⟨((i+j)/2+1,j),by simp only;omega,h2,bsr_up hlt e8 h3⟩ (by simp only;omega)
    dsimp only at hJ1
    (have W:=ndI e1 (ndI e2 (ndI k7 (ndI @wrI (ndI @wrU (ndI @half X9i)))));(repeat(any_goals(first|((with_reducible refine Q0l ?_ ?_ ?_);rfl;rfl;intro K hK;((apply Q0i (cm);rfl;rfl;rfl;rfl;exact Tryz.func171);kernel_rfl;rfl;(focus((simp(disch:=omega) only[go_sem,W,Int.reduceToNat,Nat.mul_one]);(try rfl);done));(first|rfl));(simp(disch:=omega) only[go_sem,W,Int.reduceToNat,Nat.mul_one];refine hK _ ?_;clear hK K))|((with_reducible refine Q0b ?_ ?_);rfl;intro K hK;simp(disch:=omega) only[go_sem,W,Int.reduceToNat,Nat.mul_one];((repeat(refine ndI (by first|assumption|omega|rfl) ?_));refine hK _ ?_;clear hK K))|(with_reducible first|(refine Q0c ?_;refine hR _ ?_;clear hR R)|((first|refine Q0e ?_|refine Q0f ?_);intro J hJ hJ')|(refine Q0a ?_;intro R hR)|(refine hJ _ ?_;clear hJ hJ' J)|refine Q0h ?_)|((with_reducible refine hJ' _ _ ?_ ?_);(focus(simp;done));clear hJ hJ' J)|((with_reducible apply Q0d);rfl;rfl;all_goals(intro hc;first|(cases hc;done)|(try simp only at hc)))))))
    all_goals exact hJ1 _ (St.le_of (by simp[leT]) (by simp[leH,hget]))
   |false=>
    have hJ1:=fun σ'=>hJ σ' ⟨(i,(i+j)/2),by simp only;omega,by simp only;omega,bsr_dn hlt e8 h3⟩ (by simp only;omega)
    dsimp only at hJ1
    (have W:=ndI e1 (ndI e2 (ndI k7 (ndI @wrI (ndI @wrU (ndI @half X9i)))));(repeat(any_goals(first|((with_reducible refine Q0l ?_ ?_ ?_);rfl;rfl;intro K hK;((apply Q0i (cm);rfl;rfl;rfl;rfl;exact Tryz.func171);kernel_rfl;rfl;(focus((simp(disch:=omega) only[go_sem,W,Int.reduceToNat,Nat.mul_one]);(try rfl);done));(first|rfl));(simp(disch:=omega) only[go_sem,W,Int.reduceToNat,Nat.mul_one];refine hK _ ?_;clear hK K))|((with_reducible refine Q0b ?_ ?_);rfl;intro K hK;simp(disch:=omega) only[go_sem,W,Int.reduceToNat,Nat.mul_one];((repeat(refine ndI (by first|assumption|omega|rfl) ?_));refine hK _ ?_;clear hK K))|(with_reducible first|(refine Q0c ?_;refine hR _ ?_;clear hR R)|((first|refine Q0e ?_|refine Q0f ?_);intro J hJ hJ')|(refine Q0a ?_;intro R hR)|(refine hJ _ ?_;clear hJ hJ' J)|refine Q0h ?_)|((with_reducible refine hJ' _ _ ?_ ?_);(focus(simp;done));clear hJ hJ' J)|((with_reducible apply Q0d);rfl;rfl;all_goals(intro hc;first|(cases hc;done)|(try simp only at hc)))))))
    all_goals exact hJ1 _ (St.le_of (by simp[leT]) (by simp[leH,hget]))
 · have e1:(decide ((i:Int)<(j:Int)))=false:=by simpa using hge
   have hij:i=j:=by omega
   rw[←hij,Nat.sub_self] at h3
   have hir:i=r:=h3
   rcases Nat.lt_or_ge i l.length with hlt|hge
   · have e3:(decide ((i:Int)<(l.length:Int)))=true:=by simpa using hlt
     obtain⟨y,hy⟩:∃y,l[i]? = some y:=⟨l[i],List.getElem?_eq_getElem hlt⟩
     have e2:=Q6f hy
     rw[←hir,hy] at hg
     change decide (y=x)=g at hg
     have e9:(y==x)=g:=by rw[←hg,Bool.eq_iff_iff];simp
     (have W:=ndI e1 (ndI e2 (ndI e3 e9));(repeat(any_goals(first|((with_reducible refine Q0b ?_ ?_);rfl;intro K hK;simp(disch:=omega) only[go_sem,W,Nat.mul_one];((repeat(refine ndI (by first|assumption|rfl) ?_));refine hK _ ?_;clear hK K))|(with_reducible first|(refine Q0c ?_;refine hR _ ?_;clear hR R)|((first|refine Q0e ?_);intro J hJ hJ')|(refine Q0a ?_;intro R hR)|(refine hJ _ ?_;clear hJ hJ' J)|refine Q0j ?_|refine Q0q ?_)|((with_reducible refine hJ' _ _ ?_ ?_);(focus(simp;done));clear hJ hJ' J)|((with_reducible apply Q3h);rfl;rfl;rfl;(try simp(disch:=omega) only[go_sem,W,Nat.mul_one]))|((with_reducible apply Q0p);rfl;rfl;rfl;all_goals(intro hb;first|(cases hb;done)|((try simp only[Bool.not_true,Bool.not_false] at hb);(first|((with_reducible intro K hK);(first|((apply Q0i (snan_fn _);rfl;rfl;rfl;rfl;exact Tryz.func172);kernel_rfl;rfl;(focus((simp(disch:=omega) only[go_sem,W,Nat.mul_one]);(try rfl);done));(first|rfl))|skip);simp(disch:=omega) only[go_sem,W,Nat.mul_one];((repeat(refine ndI (by first|assumption|omega|rfl) ?_));refine hK _ ?_;clear hK K))|((fail_if_success (with_reducible intro _));simp(disch:=omega) only[go_sem,W,Nat.mul_one])))))|((with_reducible apply Q0d);rfl;rfl;all_goals(intro hc;first|(cases hc;done)|(try simp only at hc)))))))
     all_goals rw[←hir]
     all_goals(refine⟨by simp,⟨_,?_,AV.le_refl _⟩,Q0g (by simp[leH,hget])⟩;simp only[Tryz.results146,resL,ldA,Q0m,go_sem])
     all_goals simp_all
   · have e3:(decide ((i:Int)<(l.length:Int)))=false:=by simpa using hge
     have e4:l[i]? = none:=List.getElem?_eq_none hge
     rw[←hir,e4] at hg
     change false=g at hg
     (repeat(any_goals(first|((with_reducible refine Q0b ?_ ?_);rfl;intro K hK;simp(disch:=omega) only[go_sem,e1,e3];((repeat(refine ndI (by first|assumption|rfl) ?_));refine hK _ ?_;clear hK K))|(with_reducible first|(refine Q0c ?_;refine hR _ ?_;clear hR R)|((first|refine Q0e ?_);intro J hJ hJ')|(refine Q0a ?_;intro R hR)|(refine hJ _ ?_;clear hJ hJ' J)|refine Q0j ?_|refine Q0q ?_)|((with_reducible refine hJ' _ _ ?_ ?_);(focus(simp;done));clear hJ hJ' J)|((with_reducible apply Q3h);rfl;rfl;rfl;(try simp(disch:=omega) only[go_sem,e1,e3]))|((with_reducible apply Q0p);rfl;rfl;rfl;all_goals(intro hb;first|(cases hb;done)|((try simp only[Bool.not_true,Bool.not_false] at hb);(first|((fail_if_success (with_reducible intro _));simp(disch:=omega) only[go_sem,e1,e3])))))|((with_reducible apply Q0d);rfl;rfl;all_goals(intro hc;first|(cases hc;done)|(try simp only at hc))))))
     all_goals rw[←hir,←hg]
     all_goals(refine⟨by simp,⟨_,?_,AV.le_refl _⟩,Q0g (by simp[leH,hget])⟩;simp only[Tryz.results146,resL,ldA,Q0m,go_sem])
def Q6c(c:Cs)(m:Bool)(a:Int):Bool:=decide (a∈c.cd)||(m&&(a==c.snd))
theorem coded_fn(c:Cs)(hc:c.ok)(hr:Q9i c.cd=true)(m f:Bool)(a:Int):Fn Tryz.prog 109 [ktP c m f,vi .u64 a] [] (vb (Q6c c m a)) []:=by
 have bs:=bsA_fn false c.cd (by have:=hc.2.2.1;omega) a
 rw[hasI_mem (of_decide_eq_true hr)] at bs
 unfold Q6c
 generalize decide (a∈c.cd)=b1 at bs ⊢
 generalize ((posI c.cd a:Nat):Int)=z at bs
 obtain⟨b2,h2⟩:∃b,(a==c.snd)=b:=⟨_,rfl⟩
 rw[h2]
 clear hr
 cases b1<;>cases m
 all_goals(refine Q0t Tryz.func109 rfl (by rfl) ?_;simp only[Tryz.ntmps109,List.length_cons,List.length_nil,Nat.reduceAdd,Nat.reduceSub,List.replicate,List.cons_append,List.nil_append])
 all_goals(repeat(any_goals(first|((with_reducible refine Q0l ?_ ?_ ?_);rfl;rfl;intro K hK;((apply Q0i (bs);rfl;rfl;rfl;rfl;exact Tryz.func146);kernel_rfl;rfl;(focus((simp only[go_sem,h2]);(try rfl);done));(first|rfl));(simp only[go_sem,h2];refine hK _ ?_;clear hK K))|((with_reducible refine Q0b ?_ ?_);rfl;intro K hK;simp only[go_sem,h2];((repeat(refine ndI (by first|assumption) ?_));refine hK _ ?_;clear hK K))|(with_reducible first|(refine Q0c ?_;refine hR _ ?_;clear hR R)|((first|refine Q0e ?_);intro J hJ hJ')|(refine Q0a ?_;intro R hR)|(refine hJ _ ?_;clear hJ hJ' J)|refine Q0j ?_)|((with_reducible apply Q3h);rfl;rfl;rfl;(try simp only[go_sem,h2]))|((with_reducible apply Q0p);rfl;rfl;rfl;all_goals(intro hb;first|(cases hb;done)|((try simp only[Bool.not_true,Bool.not_false] at hb);(first|((with_reducible intro K hK);simp only[go_sem,h2];((repeat(refine ndI (by first|assumption) ?_));refine hK _ ?_;clear hK K))|((fail_if_success (with_reducible intro _));simp only[go_sem,h2]))))))))
 all_goals(refine⟨by simp,⟨_,?_,AV.le_refl _⟩,Q0g (by simp[leH,hget])⟩;simp only[Tryz.results109,resL,ldA,Q0m,go_sem])
 all_goals(first|rfl)
def Q7e(c:Cs)(p:Ph)(at_:Nat)(y:Ev):Bool:=((p.role==1)&&(y.to==c.snd))&&(idxF creB p.tr 0==(at_:Int))
theorem makes_fn(c:Cs)(m f:Bool)(p:Ph)(hp:p.tr.length≤1000)(at_:Nat)(y:Ev)(hy:p.tr[at_]? = some y):Fn Tryz.prog 106 [ktP c m f,phA p,vi .i64 at_] [] (vb (Q7e c p at_ y)) []:=by
 have ix:=idxE_fn false p.tr creB (caps:=[]) (by omega) Tryz.func145 (by kernel_rfl) rfl rfl fun e he=>mk1_fn e
 have hlt:at_<p.tr.length:=(List.getElem?_eq_some_iff.1 hy).1
 have k2:=Q8k hy
 unfold Q7e
 obtain⟨b1,h1⟩:∃b,(p.role==1)=b:=⟨_,rfl⟩
 obtain⟨b2,h2⟩:∃b,(y.to==c.snd)=b:=⟨_,rfl⟩
 obtain⟨z,hz⟩:∃z,idxF creB p.tr 0=z:=⟨_,rfl⟩
 rw[h1,h2]
 rw[hz] at ix ⊢
 obtain⟨b3,h3⟩:∃b,(z==(at_:Int))=b:=⟨_,rfl⟩
 rw[h3]
 clear hy hz
 cases b1<;>cases b2
 all_goals(refine Q0t Tryz.func106 rfl (by rfl) ?_;simp only[Tryz.ntmps106,List.length_cons,List.length_nil,Nat.reduceAdd,Nat.reduceSub,List.replicate,List.cons_append,List.nil_append])
 all_goals(have W:=ndI h1 (ndI h2 (ndI h3 k2));(repeat(any_goals(first|((with_reducible refine Q0b ?_ ?_);rfl;intro K hK;simp(disch:=omega) only[go_sem,W];((repeat(refine ndI (by first|assumption|rfl) ?_));refine hK _ ?_;clear hK K))|(with_reducible first|(refine Q0c ?_;refine hR _ ?_;clear hR R)|((first|refine Q0e ?_);intro J hJ hJ')|(refine Q0a ?_;intro R hR)|(refine hJ _ ?_;clear hJ hJ' J)|refine Q0j ?_)|((with_reducible refine Q0z ?_ ?_);kernel_rfl;(with_reducible refine hR _ ?_);clear hR R)|((first|((with_reducible apply Q3q);rfl;rfl;rfl;rfl)|((first|((with_reducible apply Q3i);rfl;rfl;rfl;rfl;rfl));((apply Q0y (ix);rfl;rfl;rfl;rfl;exact Tryz.func134);kernel_rfl;rfl;(focus((simp(disch:=omega) only[go_sem,W]);(try rfl);done));(first|rfl)))|((first|((with_reducible apply Q0x);rfl;rfl)|((with_reducible apply Q3c);rfl;rfl;rfl;rfl;rfl));(simp(disch:=omega) only[rdE,rdOf,go_sem,W];rfl);(intro τ hA hQ hN;((try simp only[Q1i,Op.operands,Call.operands,go_sem,W,go_sem,List.mem_cons,List.not_mem_nil,forall_eq_or_imp,forall_eq,List.append_toArray,Option.toArray] at hA);(try simp only[go_sem,W,List.mem_cons,List.not_mem_nil,forall_eq_or_imp,forall_eq] at hQ hN);(first|(revert hA;intro hA));(first|(revert hQ;intro hQ));(first|(revert hN;intro hN));simp(disch:=omega) only[go_sem,W,go_sem,hA,hQ,hN];(repeat(refine ndI (by first|assumption|omega|rfl) ?_));(first|apply Q1b)))));(simp(disch:=omega) only[St.eff,setO,Q0u,go_sem,W]))|((with_reducible refine Q0w ?_ ?_ ?_ ?_);kernel_rfl;kernel_rfl;(first|kernel_rfl);intro R hR)))))
 all_goals(refine⟨by simp,⟨_,?_,AV.le_refl _⟩,Q0g (by simp[leH,hget])⟩;simp only[Tryz.results106,resL,ldA,Q0m,go_sem])
 all_goals(first|rfl)
end
section
open Go.RowKit
open Nat (reduceBEq)
attribute [-go_sem] IntKind.bits
set_option maxRecDepth 20000
set_option maxHeartbeats 1000000
def ptrT(P:Program)(t:Nat):Bool:=match P.underlying t with|some (.pointer _)=>true|_=>false
section
variable {P:Program} {o:Oper} {σ : St} {K:St→Prop}
theorem X1i{t:Nat}(ht:ptrT P t=true)(a:Addr)(w:World):(Op.equal t (.pointer (some a)) (.pointer none)).run P w = .ok false w∧(Op.equal t (.pointer none) (.pointer none)).run P w = .ok true w:=by
 obtain⟨b,hu⟩:∃b,P.underlying t=some (.pointer b):=by
  unfold ptrT at ht
  cases hu:P.underlying t with
  |none=>simp[hu] at ht
  |some d=>cases d<;>simp[hu] at ht;exact⟨_,rfl⟩
 unfold Op.equal
 rw[show Op.maxDepth=9999+1 from rfl]
 unfold Op.equalIn
 rw[Sem.run_bind,run_underlying hu,Result.andThen_ok,Sem.run_bind,run_underlying hu,Result.andThen_ok]
 exact⟨rfl,rfl⟩
theorem Q3f{t t':TypeId}{x:Operand}{cs:List PV}(ho:o.op = .binOp .eql t x (.const (.pointer none)) t')(hx:Q0k x=true)(ht:ptrT P t=true)(h1:σ.ev x = .ep cs)(hK:K (σ.put o.dst (vb false))):OpA P o σ K:=
 Q1g _ hK fun E ι a w h=>by
  have hxv:=h.ev x hx
  rw[h1] at hxv
  generalize he:a.eval x=v at hxv
  cases hxv with
  |ep b o' us cs hl hne hS h4 h5=>
   refine⟨_,?_,Q2d _ rfl⟩
   have e2:a.eval (.const (.pointer none)) = .pointer none:=rfl
   have hg:(eqGuard .eql t x (.const (.pointer none)) (.pointer (some ⟨b,o',none⟩)) (.pointer none)).run P w = .ok () w:=Q3a rfl (by simp) t _ _ w
   have g2':binOp .eql t (.pointer (some ⟨b,o',none⟩)) (.pointer none)=(do pure (.bool (←Op.equal t (.pointer (some ⟨b,o',none⟩)) (.pointer none)))):=rfl
   simp only[execOp,ho,he,e2,Sem.run_bind,hg,Result.andThen_ok,g2',(X1i ht _ w).1,Sem.run_pure,Bool.not_false]
theorem X2b{t t':TypeId}{x:Operand}(ho:o.op = .binOp .eql t x (.const (.pointer none)) t')(hx:Q0k x=true)(ht:ptrT P t=true)(h1:σ.ev x = .c (.v (.pointer none)))(hK:K (σ.put o.dst (vb true))):OpA P o σ K:=
 Q1g _ hK fun E ι a w h=>by
  have hxv:=h.ev x hx
  rw[h1] at hxv
  obtain⟨he,_⟩:=hxv.v_inv
  refine⟨_,?_,Q2d _ rfl⟩
  have e2:a.eval (.const (.pointer none)) = .pointer none:=rfl
  have hg:(eqGuard .eql t x (.const (.pointer none)) (.pointer none) (.pointer none)).run P w = .ok () w:=Q3a rfl (by simp) t _ _ w
  have g2':binOp .eql t (.pointer none) (.pointer none)=(do pure (.bool (←Op.equal t (.pointer none) (.pointer none)))):=rfl
  simp only[execOp,ho,he,e2,Sem.run_bind,hg,Result.andThen_ok,g2',(X1i ht ⟨0,0,none⟩ w).2,Sem.run_pure,Bool.not_true]
end
def Q6s(c:Cs)(f:Bool)(p:Ph)(x:Ev):Bool:=((x.self==c.snd)||(f&&Q3w c x.sp c.snd))||(p.stk&&((x.kind==2)||Q3w c x.sp p.who))
theorem touch_fn(c:Cs)(hc:c.ok)(m f:Bool)(p:Ph)(hp:U p.who)(x:Ev)(hx:x.ok):Fn Tryz.prog 111 [ktP c m f,phA p,evA x] [] (vb (Q6s c f p x)) []:=by
 have so:x.sp.ok:=⟨hx.2.2.2.2.1,hx.1⟩
 have g1:=Q7y c hc m f x.sp so c.snd hc.1
 have g2:=Q7y c hc m f x.sp so p.who hp
 unfold Q6s
 change Fn _ _ [ktP c m f,.agg [vi .u64 x.self,vi .u64 (l0 x.key),vi .u64 (l1 x.key),vi .u64 (l2 x.key),vi .u64 (l3 x.key)],_] _ _ _ at g1
 change Fn _ _ [ktP c m f,.agg [vi .u64 x.self,vi .u64 (l0 x.key),vi .u64 (l1 x.key),vi .u64 (l2 x.key),vi .u64 (l3 x.key)],_] _ _ _ at g2
 generalize Q3w c x.sp c.snd=q1 at g1 ⊢
 generalize Q3w c x.sp p.who=q2 at g2 ⊢
 obtain⟨b1,h1⟩:∃b,(x.self==c.snd)=b:=⟨_,rfl⟩
 obtain⟨b2,h2⟩:∃b,(x.kind==2)=b:=⟨_,rfl⟩
 rw[h1,h2]
 clear so hx hc
 obtain⟨s,hs⟩:∃s,p.stk=s:=⟨_,rfl⟩
 rw[hs]
 cases b1<;>cases f<;>cases q1
 all_goals(refine Q0t Tryz.func111 rfl (by rfl) ?_;simp only[Tryz.ntmps111,List.length_cons,List.length_nil,Nat.reduceAdd,Nat.reduceSub,List.replicate,List.cons_append,List.nil_append])
 all_goals(repeat(any_goals(first|((with_reducible refine Q0b ?_ ?_);rfl;intro K hK;simp(disch:=omega) only[go_sem,h1,h2,hs];((repeat(refine ndI (by first|assumption|rfl) ?_));refine hK _ ?_;clear hK K))|(with_reducible first|(refine Q0c ?_;refine hR _ ?_;clear hR R)|((first|refine Q0e ?_);intro J hJ hJ')|(refine Q0a ?_;intro R hR)|(refine hJ _ ?_;clear hJ hJ' J)|refine Q0h ?_|refine Q0j ?_)|((with_reducible refine hJ' _ _ ?_ ?_);(focus(simp;done));clear hJ hJ' J)|((with_reducible apply Q3h);rfl;rfl;rfl;(try simp(disch:=omega) only[go_sem,h1,h2,hs]))|((with_reducible apply Q0p);rfl;rfl;rfl;all_goals(intro hb;first|(cases hb;done)|((try simp only[Bool.not_true,Bool.not_false] at hb);(first|((with_reducible intro K hK);(first|((apply Q0i (g2);rfl;rfl;rfl;rfl;exact Tryz.func46);kernel_rfl;rfl;(focus((simp(disch:=omega) only[go_sem,h1,h2,hs]);(try rfl);done));(first|rfl))|skip);simp(disch:=omega) only[go_sem,h1,h2,hs];((repeat(refine ndI (by first|assumption|rfl) ?_));refine hK _ ?_;clear hK K))|((fail_if_success (with_reducible intro _));simp(disch:=omega) only[go_sem,h1,h2,hs])))))|((with_reducible apply Q0d);rfl;rfl;all_goals(intro hc;first|(cases hc;done)|(try simp only at hc)))|((with_reducible refine Q0z ?_ ?_);kernel_rfl;(with_reducible refine hR _ ?_);clear hR R)|((first|((with_reducible apply Q3q);rfl;rfl;rfl;rfl)|((with_reducible apply evD_unmet);rfl;rfl;rfl)|((first|((with_reducible apply Q3i);rfl;rfl;rfl;rfl;rfl));(first|((apply Q0y (g1);rfl;rfl;rfl;rfl;exact Tryz.func46);kernel_rfl;rfl;(focus((simp(disch:=omega) only[go_sem,h1,h2,hs]);(try rfl);done));(first|rfl))))|((first|((with_reducible apply Q0x);rfl;rfl)|((with_reducible apply Q3c);rfl;rfl;rfl;rfl;rfl));(simp(disch:=omega) only[rdE,rdOf,go_sem,h1,h2,hs];rfl);(intro τ hA hQ hN;((try simp only[Q1i,Op.operands,Call.operands,go_sem,h1,h2,hs,go_sem,List.mem_cons,List.not_mem_nil,forall_eq_or_imp,forall_eq,List.append_toArray,Option.toArray] at hA);(try simp only[go_sem,h1,h2,hs,List.mem_cons,List.not_mem_nil,forall_eq_or_imp,forall_eq] at hQ hN);(first|(revert hA;intro hA));(first|(revert hQ;intro hQ));(first|(revert hN;intro hN));simp(disch:=omega) only[go_sem,h1,h2,hs,go_sem,hA,hQ,hN];(repeat(refine ndI (by first|assumption|rfl) ?_));(first|apply Q1b)))));(simp(disch:=omega) only[St.eff,setO,Q0u,go_sem,h1,h2,hs]))|((with_reducible refine Q0w ?_ ?_ ?_ ?_);kernel_rfl;kernel_rfl;(first|kernel_rfl);intro R hR))))
 all_goals(subst_vars;(refine⟨by simp,⟨_,?_,AV.le_refl _⟩,Q0g (by simp[leH,hget])⟩;simp only[Tryz.results111,resL,ldA,Q0m,go_sem]))
 all_goals(first|simp_all)
end
section
open Go.RowKit
open Nat (reduceBEq)
attribute [-go_sem] IntKind.bits
set_option maxRecDepth 20000
set_option maxHeartbeats 1000000
def ofS:List Ph→Bool×Bool→Bool×Bool
 |[],s=>s
 |p::l,s=>ofS l (if p.role==1 then(true,p.stk) else s)
theorem court_yes(c:Cs)(hc:c.ok)(hr:Q2z c=true):Fn Tryz.prog 43 [csA c] [] (.ptr 11 0) [(11,[vi .u64 c.snd,phs false c.ph,asl false c.cd,vb (ofS c.ph (false,true)).1,vb (ofS c.ph (false,true)).2])]:=by
 have ck:=X4h c hc
 rw[hr,if_pos rfl] at ck
 have hpl:=hc.2.1.1
 obtain⟨s,ph,cd⟩:=c
 clear hr hc
 dsimp only at hpl
 dsimp only
 change Fn _ _ [.agg [vi .u64 s,phs false ph,asl false cd]] _ _ _ at ck
 change Fn _ _ [.agg [vi .u64 s,phs false ph,asl false cd]] _ _ _
 obtain⟨r,hr⟩:∃r,ofS ph (false,true)=r:=⟨_,rfl⟩
 rw[hr]
 obtain⟨rm,rf⟩:=r
 dsimp only
 (refine Q0t Tryz.func43 rfl (by rfl) ?_;simp only[Tryz.ntmps43,List.length_cons,List.length_nil,Nat.reduceAdd,Nat.reduceSub,List.replicate,List.cons_append,List.nil_append])
 (repeat(any_goals(first|((with_reducible refine Q0l ?_ ?_ ?_);rfl;rfl;intro K hK;((apply Q0i (ck);rfl;rfl;rfl;rfl;exact Tryz.func16);kernel_rfl;rfl;(focus((simp only[go_sem]);(try rfl);done));(first|rfl));(simp only[go_sem];refine hK _ ?_;clear hK K))|((with_reducible refine Q0b ?_ ?_);rfl;intro K hK;simp only[go_sem];((repeat(refine ndI (by first|assumption) ?_));refine hK _ ?_;clear hK K))|(with_reducible first|(refine Q0c ?_;refine hR _ ?_;clear hR R)|((first|refine Q0e ?_|refine Q0f ?_);intro J hJ hJ')|(refine Q0a ?_;intro R hR)|(refine hJ _ ?_;clear hJ hJ' J)|refine Q0h ?_)|((with_reducible apply Q0d);rfl;rfl;all_goals(intro hc;first|(cases hc;done)|(try simp only at hc))))))
 refine Q1p (α:={p:Nat×Bool×Bool // p.1≤ph.length∧ofS (ph.drop p.1) p.2=(rm,rf)}) (fun p=>⟨[.any,.ptr 1 0,.any,.ptr 11 0,.any,.any,.any,.any,.any,.any,.any,.any,.any,phs false ph,vi .i64 ph.length,vi .i64 (p.1.1:Int),.any,.any,.any,.any,.any,.any,.any,.any,.any,.any,.any,.any,.any,.any,.any,.any],[(1,[vi .u64 s,phs false ph,asl false cd]),(11,[vi .u64 s,phs false ph,asl false cd,vb p.1.2.1,vb p.1.2.2])]⟩) (fun p=>ph.length-p.1.1) ⟨(0,false,true),Nat.zero_le _,hr⟩ (St.le_of (by simp[leT]) (by simp[leH,hget])) ?_
 rintro ⟨⟨i,m,f⟩,hi,hd⟩ J hJ hJ'
 (try dsimp only at hi hd hJ ⊢)
 rcases Nat.lt_or_ge i ph.length with hlt|hge
 · obtain⟨y,hy⟩:∃y,ph[i]? = some y:=⟨_,List.getElem?_eq_getElem hlt⟩
   have k1:(decide ((i:Int)<(ph.length:Int)))=true:=by simp;omega
   have k2:=Q4x hy
   have k7:(i:Int)+1=((i+1:Nat):Int):=by omega
   have hdr:ph.drop i=y::ph.drop (i+1):=by
    rw[List.drop_eq_getElem_cons hlt]
    rw[List.getElem?_eq_getElem hlt] at hy
    rw[Option.some.inj hy]
   rw[hdr] at hd
   unfold ofS at hd
   cases hb:(y.role==1) with
   |true=>
    rw[hb,if_pos rfl] at hd
    have hJ1:=fun σ'=>hJ σ' ⟨(i+1,true,y.stk),hlt,hd⟩ (by dsimp only;omega)
    dsimp only at hJ1
    clear hd hr
    (have W:=ndI k1 (ndI k2 (ndI k7 @wrI));(repeat(any_goals(first|((with_reducible refine Q0b ?_ ?_);rfl;intro K hK;simp(disch:=omega) only[go_sem,W,hb];((repeat(refine ndI (by first|assumption|omega|rfl) ?_));refine hK _ ?_;clear hK K))|(with_reducible first|(refine Q0c ?_;refine hR _ ?_;clear hR R)|((first|refine Q0e ?_|refine Q0f ?_);intro J hJ hJ')|(refine Q0a ?_;intro R hR)|(refine hJ _ ?_;clear hJ hJ' J)|refine Q0h ?_)|((with_reducible refine hJ' _ _ ?_ ?_);(focus(simp;done));clear hJ hJ' J)|((with_reducible apply Q0d);rfl;rfl;all_goals(intro hc;first|(cases hc;done)|(try simp only at hc)))|((with_reducible refine Q0z ?_ ?_);kernel_rfl;(with_reducible refine hR _ ?_);clear hR R)|(((with_reducible apply Q0x);rfl;rfl;(simp(disch:=omega) only[rdE,rdOf,go_sem,W,hb];rfl);(intro τ hA hQ hN;((try simp only[Q1i,Op.operands,Call.operands,go_sem,W,hb,go_sem,List.mem_cons,List.not_mem_nil,forall_eq_or_imp,forall_eq,List.append_toArray,Option.toArray] at hA);(try simp only[go_sem,W,hb,List.mem_cons,List.not_mem_nil,forall_eq_or_imp,forall_eq] at hQ hN);(first|(revert hA;intro hA));(first|(revert hQ;intro hQ));(first|(revert hN;intro hN));simp(disch:=omega) only[go_sem,W,hb,go_sem,hA,hQ,hN];(repeat(refine ndI (by first|assumption|rfl) ?_));(first|apply Q1b|apply Q4a))));(simp(disch:=omega) only[St.eff,setO,Q0u,go_sem,W,hb]))|((with_reducible refine Q0w ?_ ?_ ?_ ?_);kernel_rfl;kernel_rfl;(first|kernel_rfl);intro R hR)))))
    all_goals exact hJ1 _ (St.le_of (by simp[leT]) (by simp[leH,hget]))
   |false=>
    rw[hb,if_neg (by simp)] at hd
    have hJ1:=fun σ'=>hJ σ' ⟨(i+1,m,f),hlt,hd⟩ (by dsimp only;omega)
    dsimp only at hJ1
    clear hd hr
    (have W:=ndI k1 (ndI k2 (ndI k7 @wrI));(repeat(any_goals(first|((with_reducible refine Q0b ?_ ?_);rfl;intro K hK;simp(disch:=omega) only[go_sem,W,hb];((repeat(refine ndI (by first|assumption|omega|rfl) ?_));refine hK _ ?_;clear hK K))|(with_reducible first|(refine Q0c ?_;refine hR _ ?_;clear hR R)|((first|refine Q0e ?_|refine Q0f ?_);intro J hJ hJ')|(refine Q0a ?_;intro R hR)|(refine hJ _ ?_;clear hJ hJ' J)|refine Q0h ?_)|((with_reducible refine hJ' _ _ ?_ ?_);(focus(simp;done));clear hJ hJ' J)|((with_reducible apply Q0d);rfl;rfl;all_goals(intro hc;first|(cases hc;done)|(try simp only at hc)))))))
    all_goals exact hJ1 _ (St.le_of (by simp[leT]) (by simp[leH,hget]))
 · have k1:(decide ((i:Int)<(ph.length:Int)))=false:=by simp;omega
   rw[List.drop_eq_nil_of_le hge] at hd
   have e1:m=rm:=congrArg Prod.fst hd
   have e2:f=rf:=congrArg Prod.snd hd
   clear hd hr
   (repeat(any_goals(first|((with_reducible refine Q0b ?_ ?_);rfl;intro K hK;simp only[go_sem,k1];((repeat(refine ndI (by first|assumption) ?_));refine hK _ ?_;clear hK K))|(with_reducible first|(refine Q0c ?_;refine hR _ ?_;clear hR R)|((first|refine Q0e ?_);intro J hJ hJ')|(refine Q0a ?_;intro R hR)|(refine hJ _ ?_;clear hJ hJ' J)|refine Q0j ?_|refine Q0q ?_)|((with_reducible refine hJ' _ _ ?_ ?_);(focus(simp;done));clear hJ hJ' J)|((with_reducible apply Q0d);rfl;rfl;all_goals(intro hc;first|(cases hc;done)|(try simp only at hc))))))
   all_goals rw[←e1,←e2]
   all_goals(refine⟨by simp,⟨_,?_,AV.le_refl _⟩,Q0g (by simp[leH,hget])⟩;simp only[Tryz.results43,resL,ldA,Q0m,go_sem])
def ofM(c:Cs):Bool:=(ofS c.ph (false,true)).1
def ofF(c:Cs):Bool:=(ofS c.ph (false,true)).2
theorem Q5z(c:Cs)(hc:c.ok)(hr:Q2z c=true):Fn Tryz.prog 43 [csA c] [] (ktP c (ofM c) (ofF c)) []:=by
 have h:=Fn.frzG (d:=11) (pcs:=[.v (.int .u64 c.snd),.sl false 4 c.ph.length (c.ph.flatMap Ph.pv),.sl false 1 c.cd.length (c.cd.flatMap apv),.v (.bool (ofM c)),.v (.bool (ofF c))]) (court_yes c hc hr)
 simpa [AV.frz] using h
theorem X3e(c:Cs)(hc:c.ok)(hr:Q2z c=false):Fn Tryz.prog 43 [csA c] [] (.c (.v (.pointer none))) []:=by
 have ck:=X4h c hc
 rw[hr,if_neg (by simp)] at ck
 clear hr
 (refine Q0t Tryz.func43 rfl (by rfl) ?_;simp only[Tryz.ntmps43,List.length_cons,List.length_nil,Nat.reduceAdd,Nat.reduceSub,List.replicate,List.cons_append,List.nil_append])
 (repeat(any_goals(first|((with_reducible refine Q0l ?_ ?_ ?_);rfl;rfl;intro K hK;((apply Q0i (ck);rfl;rfl;rfl;rfl;exact Tryz.func16);kernel_rfl;rfl;(focus((simp only[go_sem]);(try rfl);done));(first|rfl));(simp only[go_sem];refine hK _ ?_;clear hK K))|((with_reducible refine Q0b ?_ ?_);rfl;intro K hK;simp only[go_sem];((repeat(refine ndI (by first|assumption) ?_));refine hK _ ?_;clear hK K))|(with_reducible first|(refine Q0c ?_;refine hR _ ?_;clear hR R)|((first|refine Q0e ?_);intro J hJ hJ')|(refine Q0a ?_;intro R hR)|(refine hJ _ ?_;clear hJ hJ' J)|refine Q0j ?_)|((with_reducible refine hJ' _ _ ?_ ?_);(focus(simp;done));clear hJ hJ' J)|((with_reducible apply Q0d);rfl;rfl;all_goals(intro hc;first|(cases hc;done)|(try simp only at hc))))))
 all_goals(refine⟨by simp,⟨_,?_,AV.le_refl _⟩,Q0g (by simp[leH,hget])⟩;simp only[Tryz.results43,resL,ldA,Q0m,go_sem])
end
section
open Go.RowKit
open Nat (reduceBEq)
attribute [-go_sem] IntKind.bits
set_option maxRecDepth 20000
set_option maxHeartbeats 1000000
abbrev raA(l:List Int):List AV:=(l.flatMap apv).map .c
def whoL(l:List Ph):List Int:=l.map Ph.who
theorem whoL_snoc{l:List Ph}{i:Nat}{y:Ph}(h:l[i]? = some y):whoL (l.take (i+1))=whoL (l.take i)++[y.who]:=by
 unfold whoL
 rw[List.take_add_one,h,List.map_append]
 rfl
theorem X7j(l:List Ph):(whoL l).length=l.length:=List.length_map _
abbrev stE(c:Cs)(m f:Bool)(r:Nat)(out:List Int)(i:Nat):St:=⟨[.any,.ptr 1 0,.c (.v (.slice none 0 0)),ktP c m f,.row r 23 1 out.length,.any,.any,.any,.any,.any,.any,.any,.any,.any,.any,phs false c.ph,vi .i64 c.ph.length,vi .i64 i,.any,.any,.any,.any,.any,.any,.any,.any,.any,.any,.any],[(1,[vi .u64 c.snd,phs false c.ph,asl false c.cd]),(r,raA out)]⟩
theorem stE_rn(c:Cs)(m f:Bool)(out:List Int)(i:Nat):(stE c m f 25 out i).to (stE c m f 500 out i):=by
 have h:=St.to.rn (σ:=stE c m f 25 out i) (fun r=>if r=25 then 500 else r) (fun r=>if r=500 then 25 else r) [25,1] (by simp[AV.inNL,AV.inN]) (by simp) (by simp[inH,AV.inNL,AV.inN,Q0v]) (by simp) (by simp)
 simpa [AV.renL,AV.ren,renH] using h
abbrev stF(c:Cs)(m f:Bool)(out:List Int)(i:Nat):St:=⟨[.any,.ptr 1 0,.c (.v (.slice none 0 0)),ktP c m f,asl false out,.any,.any,.any,.any,.any,.any,.any,.any,.any,.any,phs false c.ph,vi .i64 c.ph.length,vi .i64 i,.any,.any,.any,.any,.any,.any,.any,.any,.any,.any,.any],[(1,[vi .u64 c.snd,phs false c.ph,asl false c.cd])]⟩
theorem stE_frz(c:Cs)(m f:Bool)(out:List Int)(i:Nat):(stE c m f 500 out i).to (stF c m f out i):=by
 have h:=St.to.frz (σ:=stE c m f 500 out i) 500 (pcs:=out.flatMap apv) rfl
 have e:((stE c m f 500 out i).frz 500 (out.flatMap apv))=stF c m f out i:=by
  simp[St.frz,AV.frz,AV.frzL,frzH,Q0s Q3s]
 rwa [e] at h
abbrev stI(c:Cs)(m f:Bool)(i:Nat):St:=if i<c.ph.length then stE c m f 500 (whoL (c.ph.take i)) i else stF c m f (whoL (c.ph.take i)) i
theorem stI_to(c:Cs)(m f:Bool){τ : St}{i:Nat}(h:τ.to (stE c m f 500 (whoL (c.ph.take i)) i)):τ.to (stI c m f i):=by
 unfold stI
 split
 · exact h
 · exact h.trans (stE_frz c m f _ i)
theorem X5f(c:Cs)(hpl:c.ph.length≤1000)(m f:Bool)(h:Fn Tryz.prog 43 [.agg [vi .u64 c.snd,phs false c.ph,asl false c.cd]] [] (ktP c m f) [])(r:List Int)(so:Fn Tryz.prog 55 [asl false (whoL c.ph)] [] (asl false r) []) :
 Fn Tryz.prog 17 [csA c] [] (asl false r) []:=by
 (refine Q0t Tryz.func17 rfl (by rfl) ?_;simp only[Tryz.ntmps17,List.length_cons,List.length_nil,Nat.reduceAdd,Nat.reduceSub,List.replicate,List.cons_append,List.nil_append])
 (repeat(any_goals(first|((with_reducible refine Q2n ?_ ?_);rfl;intro K hK;(first|(apply Q3f;rfl;rfl;kernel_rfl;rfl));(simp only[go_sem];refine hK _ ?_;clear hK K))|((with_reducible refine Q0l ?_ ?_ ?_);rfl;rfl;intro K hK;((apply Q0i (h);rfl;rfl;rfl;rfl;exact Tryz.func43);kernel_rfl;rfl;(focus((simp only[go_sem]);(try rfl);done));(first|rfl));(simp only[go_sem];refine hK _ ?_;clear hK K))|((with_reducible refine Q0b ?_ ?_);rfl;intro K hK;simp only[go_sem];((repeat(refine ndI (by first|assumption) ?_));refine hK _ ?_;clear hK K))|(with_reducible first|(refine Q0c ?_;refine hR _ ?_;clear hR R)|((first|refine Q0e ?_|refine Q0f ?_);intro J hJ hJ')|(refine Q0a ?_;intro R hR)|(refine hJ _ ?_;clear hJ hJ' J)|refine Q0h ?_)|((with_reducible apply Q0d);rfl;rfl;all_goals(intro hc;first|(cases hc;done)|(try simp only at hc))))))
 refine Q3r c.ph.length (fun i=>stI c m f i) ?_ ?_
 · refine stI_to c m f ?_
   refine St.to.trans (St.to.of_le (τ:=⟨[.any,.ptr 1 0,.c (.v (.slice none 0 0)),ktP c m f,.c (.v (.slice none 0 0)),.any,.any,.any,.any,.any,.any,.any,.any,.any,.any,phs false c.ph,vi .i64 c.ph.length,vi .i64 0,.any,.any,.any,.any,.any,.any,.any,.any,.any,.any,.any],[(1,[vi .u64 c.snd,phs false c.ph,asl false c.cd])]⟩) (St.le_of (by simp[leT]) (by simp[leH,hget]))) ?_
   refine St.to.trans (St.to.nilrow 4 500 23 1 rfl (by simp) (by simp[St.free,Q1z,AV.refsL,AV.refs]) (by decide)) (St.to.of_le (St.le_of (by simp[leT,whoL]) (by simp[leH,hget,hput,whoL])))
 intro i hi J hJ hJ'
 have hJ0:=fun τ h1 h2=>hJ τ h1 (stI_to c m f h2)
 clear hJ
 have hJ:=hJ0
 clear hJ0
 rcases Nat.lt_or_ge i c.ph.length with hlt|hge
 · obtain⟨y,hy⟩:∃y,c.ph[i]? = some y:=⟨_,List.getElem?_eq_getElem hlt⟩
   have k1:(decide ((i:Int)<(c.ph.length:Int)))=true:=by simpa using hlt
   have k2:=Q4x hy
   have k7:(i:Int)+1=((i+1:Nat):Int):=by omega
   have es:stI c m f i=stE c m f 500 (whoL (c.ph.take i)) i:=if_pos hlt
   rw[es]
   clear es
   dsimp only[stE] at hJ ⊢
   have k5:(whoL (c.ph.take i)).length≤1000:=by rw[X7j];simp;omega
   have hJ1:=fun τ=>hJ τ hlt
   rw[whoL_snoc hy] at hJ1
   clear hJ
   generalize whoL (c.ph.take i)=out at k5 hJ1 ⊢
   have k4:(raA out).length=out.length*1:=by rw[List.length_map,Q0s Q3s]
   have k9:∀r,AV.refsL r (raA out)=false:=fun r=>Q0o r _
   (have W:=ndI k1 (ndI k2 (ndI k4 (ndI k7 (ndI k9 (ndI @wrI @Q0o)))));(repeat(any_goals(first|((with_reducible refine Q0b ?_ ?_);rfl;intro K hK;simp(disch:=omega) only[go_sem,W,Q2m,AV.refsL,AV.refs,List.length_append,List.length_cons,List.length_nil,Bool.or_false];((repeat(refine ndI (by first|assumption|omega|rfl) ?_));refine hK _ ?_;clear hK K))|(with_reducible first|(refine Q0c ?_;refine hR _ ?_;clear hR R)|((first|refine Q0e ?_|refine Q0f ?_);intro J hJ hJ')|(refine Q0a ?_;intro R hR)|(refine hJ _ ?_;clear hJ hJ' J)|refine Q0h ?_)|((with_reducible refine hJ' _ _ ?_ ?_);(focus(simp;done));clear hJ hJ' J)|((with_reducible apply Q0d);rfl;rfl;all_goals(intro hc;first|(cases hc;done)|(try simp only at hc)))))))
   all_goals exact hJ1 _ (St.to.trans (St.to.of_le (τ:=stE c m f 25 (out++[y.who]) (i+1)) (St.le_of (by simp[leT]) (by simp[leH,hget,apv,raA]))) (stE_rn c m f _ _))
 · have k1:(decide ((i:Int)<(c.ph.length:Int)))=false:=by simpa using hge
   have e:c.ph.take i=c.ph:=List.take_of_length_le hge
   have es:stI c m f i=stF c m f (whoL (c.ph.take i)) i:=if_neg (by omega)
   rw[es,e]
   clear es
   dsimp only[stF]
   (repeat(any_goals(first|((with_reducible refine Q0l ?_ ?_ ?_);rfl;rfl;intro K hK;((apply Q0i (so);rfl;rfl;rfl;rfl;exact Tryz.func55);kernel_rfl;rfl;(focus((simp only[go_sem,k1]);(try rfl);done));(first|rfl));(simp only[go_sem,k1];refine hK _ ?_;clear hK K))|((with_reducible refine Q0b ?_ ?_);rfl;intro K hK;simp only[go_sem,k1];((repeat(refine ndI (by first|assumption) ?_));refine hK _ ?_;clear hK K))|(with_reducible first|(refine Q0c ?_;refine hR _ ?_;clear hR R)|((first|refine Q0e ?_);intro J hJ hJ')|(refine Q0a ?_;intro R hR)|(refine hJ _ ?_;clear hJ hJ' J)|refine Q0j ?_|refine Q0q ?_)|((with_reducible refine hJ' _ _ ?_ ?_);(focus(simp;done));clear hJ hJ' J)|((with_reducible apply Q0d);rfl;rfl;all_goals(intro hc;first|(cases hc;done)|(try simp only at hc))))))
   all_goals exact⟨by simp,⟨_,rfl,AV.le_refl _⟩,Q0g (by simp[leH,hget])⟩
theorem X5e(c:Cs)(hc:c.ok)(hr:Q2z c=true):∃r:List Int,r.Pairwise (· < ·)∧(∀x,x∈r↔x∈whoL c.ph)∧Fn Tryz.prog 17 [csA c] [] (asl false r) []:=by
 obtain⟨r,h1,h2,_,so⟩:=X0s false (whoL c.ph) (by rw[X7j];have:=hc.2.1.1;omega) fun a ha=>by
  obtain⟨p,hp,rfl⟩:=List.mem_map.1 ha
  exact(hc.2.1.2 p hp).1
 exact⟨r,h1,h2,X5f c hc.2.1.1 _ _ (Q5z c hc hr) r so⟩
end
section
open Go.RowKit
open Nat (reduceBEq)
attribute [-go_sem] IntKind.bits
set_option maxRecDepth 20000
set_option maxHeartbeats 1000000
abbrev epE(e:Ev):AV:=.ep [.v (.int .i64 e.kind),.v (.int .i64 e.dep),.v (.int .u64 e.self),.v (.int .u64 e.to),.v (.int .u8 (e.op:Int)),.v (.int .u64 (l0 e.key)),.v (.int .u64 (l1 e.key)),.v (.int .u64 (l2 e.key)),.v (.int .u64 (l3 e.key)),.v (.int .u64 (l0 e.val)),.v (.int .u64 (l1 e.val)),.v (.int .u64 (l2 e.val)),.v (.int .u64 (l3 e.val)),.sl false 1 e.data.length (e.data.flatMap bpv)]
abbrev epP(p:Ph):AV:=.ep [.v (.int .i64 p.role),.v (.int .u64 p.who),.v (.bool p.stk),.sl false 14 p.tr.length (p.tr.flatMap Ev.pv)]
abbrev clF(e:Ev):AV:=.fn 100 [epE e]
theorem X0y(e:Ev)(ex:Bool)(l:List Nat)(hl:l.length≤1000):Fn Tryz.prog 100 [bsl ex l,epE e] [] (vb (decide (e.op∈l))) []:=by
 have h:=Q9z ex l e.op (by omega)
 generalize decide (e.op∈l)=b at h ⊢
 (refine Q0t Tryz.func100 rfl (by rfl) ?_;simp only[Tryz.ntmps100,List.length_cons,List.length_nil,Nat.reduceAdd,Nat.reduceSub,List.replicate,List.cons_append,List.nil_append])
 (repeat(any_goals(first|((with_reducible refine Q0l ?_ ?_ ?_);rfl;rfl;intro K hK;((apply Q0i (h);rfl;rfl;rfl;rfl;exact Tryz.func101);kernel_rfl;rfl;(focus((simp only[go_sem]);(try rfl);done));(first|rfl));(simp only[go_sem];refine hK _ ?_;clear hK K))|((with_reducible refine Q0b ?_ ?_);rfl;intro K hK;simp only[go_sem];((repeat(refine ndI (by first|assumption) ?_));refine hK _ ?_;clear hK K))|(with_reducible first|(refine Q0c ?_;refine hR _ ?_;clear hR R)|((first|refine Q0e ?_);intro J hJ hJ')|(refine Q0a ?_;intro R hR)|(refine hJ _ ?_;clear hJ hJ' J)|refine Q0j ?_))))
 all_goals(refine⟨by simp,⟨_,?_,AV.le_refl _⟩,Q0g (by simp[leH,hget])⟩;simp only[Tryz.results100,resL,ldA,Q0m,go_sem])
theorem rl2_fn(e:Ev)(p:Ph):Fn Tryz.prog 102 [epE e,epP p,.ptr 1001 0] [(1001,[clF e])] (vb ((e.kind==5) && !(p.stk&&decide (e.op∈[49,71])))) [(1001,[clF e])]:=by
 have h:Fn Tryz.prog 100 [.c (.sl false 1 2 [.v (.int .u8 49),.v (.int .u8 71)]),epE e] [] (vb (decide (e.op∈[49,71]))) []:=X0y e false [49,71] (by decide)
 have hF:=Tryz.func100
 generalize decide (e.op∈[49,71])=b at h ⊢
 obtain⟨b1,h1⟩:∃b,(e.kind==5)=b:=⟨_,rfl⟩
 obtain⟨b2,h2⟩:∃b,p.stk=b:=⟨_,rfl⟩
 rw[h1,h2]
 cases b1<;>cases b2
 all_goals(refine Q0t Tryz.func102 rfl (by rfl) ?_;simp only[Tryz.ntmps102,List.length_cons,List.length_nil,Nat.reduceAdd,Nat.reduceSub,List.replicate,List.cons_append,List.nil_append])
 all_goals(repeat(any_goals(first|((with_reducible refine Q0b ?_ ?_);rfl;intro K hK;simp only[go_sem,h1,h2];((repeat(refine ndI (by first|assumption) ?_));refine hK _ ?_;clear hK K))|(with_reducible first|(refine Q0c ?_;refine hR _ ?_;clear hR R)|((first|refine Q0e ?_);intro J hJ hJ')|(refine Q0a ?_;intro R hR)|(refine hJ _ ?_;clear hJ hJ' J)|refine Q0j ?_)|((with_reducible apply Q3h);rfl;rfl;rfl;(try simp only[go_sem,h1,h2]))|((with_reducible apply Q0p);rfl;rfl;rfl;all_goals(intro hb;first|(cases hb;done)|((try simp only[Bool.not_true,Bool.not_false] at hb);(first|((with_reducible intro K hK);(first|((apply Q4y (h);rfl;rfl;rfl;rfl;exact Tryz.func100);kernel_rfl;rfl;(focus((simp only[AV.viewL,AV.view,Q4g,unC,Option.map_some,go_sem,h1,h2]);(try rfl)));rfl)|skip);simp only[go_sem,h1,h2];((repeat(refine ndI (by first|assumption|rfl) ?_));refine hK _ ?_;clear hK K))|((fail_if_success (with_reducible intro _));simp only[go_sem,h1,h2]))))))))
 all_goals(refine⟨by simp,⟨_,?_,AV.le_refl _⟩,Q0g (by simp[leH,hget])⟩;simp only[Tryz.results102,resL,ldA,Q0m,go_sem])
 all_goals(first|rfl)
theorem rl3_fn(e:Ev):Fn Tryz.prog 103 [epE e,.ptr 1001 0] [(1001,[clF e])] (vb ((e.kind==6) && !decide (e.op∈[241,244,250]))) [(1001,[clF e])]:=by
 have h:Fn Tryz.prog 100 [.c (.sl false 1 3 [.v (.int .u8 241),.v (.int .u8 244),.v (.int .u8 250)]),epE e] [] (vb (decide (e.op∈[241,244,250]))) []:=X0y e false [241,244,250] (by decide)
 generalize decide (e.op∈[241,244,250])=b at h ⊢
 obtain⟨b1,h1⟩:∃b,(e.kind==6)=b:=⟨_,rfl⟩
 rw[h1]
 cases b1
 all_goals(refine Q0t Tryz.func103 rfl (by rfl) ?_;simp only[Tryz.ntmps103,List.length_cons,List.length_nil,Nat.reduceAdd,Nat.reduceSub,List.replicate,List.cons_append,List.nil_append])
 all_goals(repeat(any_goals(first|((with_reducible refine Q0b ?_ ?_);rfl;intro K hK;simp only[go_sem,h1];((repeat(refine ndI (by first|assumption) ?_));refine hK _ ?_;clear hK K))|(with_reducible first|(refine Q0c ?_;refine hR _ ?_;clear hR R)|((first|refine Q0e ?_);intro J hJ hJ')|(refine Q0a ?_;intro R hR)|(refine hJ _ ?_;clear hJ hJ' J)|refine Q0j ?_)|((with_reducible apply Q0p);rfl;rfl;rfl;all_goals(intro hb;first|(cases hb;done)|((try simp only[Bool.not_true,Bool.not_false] at hb);(first|((with_reducible intro K hK);(first|((apply Q4y (h);rfl;rfl;rfl;rfl;exact Tryz.func100);kernel_rfl;rfl;(focus((simp only[AV.viewL,AV.view,Q4g,unC,Option.map_some,go_sem,h1]);(try rfl)));rfl)|skip);simp only[go_sem,h1];((repeat(refine ndI (by first|assumption|rfl) ?_));refine hK _ ?_;clear hK K))|((fail_if_success (with_reducible intro _));simp only[go_sem,h1]))))))))
 all_goals(refine⟨by simp,⟨_,?_,AV.le_refl _⟩,Q0g (by simp[leH,hget])⟩;simp only[Tryz.results103,resL,ldA,Q0m,go_sem])
 all_goals(first|rfl)
theorem rl4_fn(e:Ev):Fn Tryz.prog 104 [epE e,.ptr 1001 0] [(1001,[clF e])] (vb (((e.kind==4)&&(e.to==1))&&(!decide (e.op∈[241])||decide ((e.data.length:Int)>0)))) [(1001,[clF e])]:=by
 have h:Fn Tryz.prog 100 [.c (.sl false 1 1 [.v (.int .u8 241)]),epE e] [] (vb (decide (e.op∈[241]))) []:=X0y e false [241] (by decide)
 generalize decide (e.op∈[241])=b at h ⊢
 obtain⟨b1,h1⟩:∃b,(e.kind==4)=b:=⟨_,rfl⟩
 obtain⟨b2,h2⟩:∃b,(e.to==1)=b:=⟨_,rfl⟩
 obtain⟨b3,h3⟩:∃b,decide ((e.data.length:Int)>0)=b:=⟨_,rfl⟩
 rw[h1,h2,h3]
 cases b1<;>cases b2<;>cases b
 all_goals(refine Q0t Tryz.func104 rfl (by rfl) ?_;simp only[Tryz.ntmps104,List.length_cons,List.length_nil,Nat.reduceAdd,Nat.reduceSub,List.replicate,List.cons_append,List.nil_append])
 all_goals(have W:=ndI h1 (ndI h2 h3);(repeat(any_goals(first|((with_reducible refine Q0b ?_ ?_);rfl;intro K hK;simp only[go_sem,W];((repeat(refine ndI (by first|assumption) ?_));refine hK _ ?_;clear hK K))|(with_reducible first|(refine Q0c ?_;refine hR _ ?_;clear hR R)|((first|refine Q0e ?_);intro J hJ hJ')|(refine Q0a ?_;intro R hR)|(refine hJ _ ?_;clear hJ hJ' J)|refine Q0j ?_)|((with_reducible apply Q3h);rfl;rfl;rfl;(try simp only[go_sem,W]))|((with_reducible apply Q0p);rfl;rfl;rfl;all_goals(intro hb;first|(cases hb;done)|((try simp only[Bool.not_true,Bool.not_false] at hb);(first|((with_reducible intro K hK);(first|((apply Q4y (h);rfl;rfl;rfl;rfl;exact Tryz.func100);kernel_rfl;rfl;(focus((simp only[AV.viewL,AV.view,Q4g,unC,Option.map_some,go_sem,W]);(try rfl)));rfl)|skip);simp only[go_sem,W];((repeat(refine ndI (by first|assumption|rfl) ?_));refine hK _ ?_;clear hK K))|((fail_if_success (with_reducible intro _));simp only[go_sem,W])))))))))
 all_goals(refine⟨by simp,⟨_,?_,AV.le_refl _⟩,Q0g (by simp[leH,hget])⟩;simp only[Tryz.results104,resL,ldA,Q0m,go_sem])
 all_goals(first|rfl)
theorem rl5_fn(e:Ev)(c:Cs)(m f:Bool)(p:Ph)(hp:p.tr.length≤1000)(at_:Nat)(hy:p.tr[at_]? = some e):Fn Tryz.prog 105 [epE e,.ptr 1001 0,.ptr 1002 0,epP p,.ep [.v (.int .i64 at_)]] [(1001,[clF e]),(1002,[ktP c m f])] (vb (((e.kind==4)&&decide (e.op∈[245])) && !Q7e c p at_ e)) [(1001,[clF e]),(1002,[ktP c m f])]:=by
 have h:Fn Tryz.prog 100 [.c (.sl false 1 1 [.v (.int .u8 245)]),epE e] [] (vb (decide (e.op∈[245]))) []:=X0y e false [245] (by decide)
 have g:=makes_fn c m f p hp at_ e hy
 clear hy
 generalize decide (e.op∈[245])=b at h ⊢
 generalize Q7e c p at_ e=q at g ⊢
 obtain⟨b1,h1⟩:∃b,(e.kind==4)=b:=⟨_,rfl⟩
 rw[h1]
 cases b1<;>cases b
 all_goals(refine Q0t Tryz.func105 rfl (by rfl) ?_;simp only[Tryz.ntmps105,List.length_cons,List.length_nil,Nat.reduceAdd,Nat.reduceSub,List.replicate,List.cons_append,List.nil_append])
 all_goals(repeat(any_goals(first|((with_reducible refine Q0b ?_ ?_);rfl;intro K hK;simp only[go_sem,h1];((repeat(refine ndI (by first|assumption) ?_));refine hK _ ?_;clear hK K))|(with_reducible first|(refine Q0c ?_;refine hR _ ?_;clear hR R)|((first|refine Q0e ?_);intro J hJ hJ')|(refine Q0a ?_;intro R hR)|(refine hJ _ ?_;clear hJ hJ' J)|refine Q0j ?_)|((with_reducible apply Q0p);rfl;rfl;rfl;all_goals(intro hb;first|(cases hb;done)|((try simp only[Bool.not_true,Bool.not_false] at hb);(first|((with_reducible intro K hK);(first|((apply Q0i (g);rfl;rfl;rfl;rfl;exact Tryz.func106);kernel_rfl;rfl;(focus((simp only[go_sem,h1]);(try rfl);done));(first|rfl))|((apply Q4y (h);rfl;rfl;rfl;rfl;exact Tryz.func100);kernel_rfl;rfl;(focus((simp only[AV.viewL,AV.view,Q4g,unC,Option.map_some,go_sem,h1]);(try rfl)));rfl)|skip);simp only[go_sem,h1];((repeat(refine ndI (by first|assumption|rfl) ?_));refine hK _ ?_;clear hK K))|((fail_if_success (with_reducible intro _));simp only[go_sem,h1]))))))))
 all_goals(refine⟨by simp,⟨_,?_,AV.le_refl _⟩,Q0g (by simp[leH,hget])⟩;simp only[Tryz.results105,resL,ldA,Q0m,go_sem])
 all_goals(first|rfl)
theorem rl6_fn(e:Ev)(he:e.val<WW):Fn Tryz.prog 107 [epE e,.ptr 1001 0] [(1001,[clF e])] (vb ((((e.kind==4)&&decide (e.op∈[241]))&&(e.to != 1)) && !decide (e.val=0))) [(1001,[clF e])]:=by
 have h:Fn Tryz.prog 100 [.c (.sl false 1 1 [.v (.int .u8 241)]),epE e] [] (vb (decide (e.op∈[241]))) []:=X0y e false [241] (by decide)
 generalize decide (e.op∈[241])=b at h ⊢
 obtain⟨b1,h1⟩:∃b,(e.kind==4)=b:=⟨_,rfl⟩
 obtain⟨b2,h2⟩:∃b,(e.to != 1)=b:=⟨_,rfl⟩
 have h3:=z4 he
 generalize decide (e.val=0)=b3 at h3 ⊢
 rw[h1,h2]
 cases b1<;>cases b<;>cases b2
 all_goals(refine Q0t Tryz.func107 rfl (by rfl) ?_;simp only[Tryz.ntmps107,List.length_cons,List.length_nil,Nat.reduceAdd,Nat.reduceSub,List.replicate,List.cons_append,List.nil_append])
 all_goals(have W:=ndI h1 (ndI h2 h3);(repeat(any_goals(first|((with_reducible refine Q0b ?_ ?_);rfl;intro K hK;simp only[go_sem,W];((repeat(refine ndI (by first|assumption) ?_));refine hK _ ?_;clear hK K))|(with_reducible first|(refine Q0c ?_;refine hR _ ?_;clear hR R)|((first|refine Q0e ?_);intro J hJ hJ')|(refine Q0a ?_;intro R hR)|(refine hJ _ ?_;clear hJ hJ' J)|refine Q0j ?_)|((with_reducible apply Q0p);rfl;rfl;rfl;all_goals(intro hb;first|(cases hb;done)|((try simp only[Bool.not_true,Bool.not_false] at hb);(first|((with_reducible intro K hK);(first|((apply Q4y (h);rfl;rfl;rfl;rfl;exact Tryz.func100);kernel_rfl;rfl;(focus((simp only[AV.viewL,AV.view,Q4g,unC,Option.map_some,go_sem,W]);(try rfl)));rfl)|skip);simp only[go_sem,W];((repeat(refine ndI (by first|assumption|rfl) ?_));refine hK _ ?_;clear hK K))|((fail_if_success (with_reducible intro _));simp only[go_sem,W])))))))))
 all_goals(refine⟨by simp,⟨_,?_,AV.le_refl _⟩,Q0g (by simp[leH,hget])⟩;simp only[Tryz.results107,resL,ldA,Q0m,go_sem])
 all_goals(first|rfl)
theorem rl7_fn(e:Ev)(c:Cs)(hc:c.ok)(hr:Q9i c.cd=true)(m f:Bool):Fn Tryz.prog 108 [epE e,.ptr 1001 0,.ptr 1002 0] [(1001,[clF e]),(1002,[ktP c m f])] (vb ((((e.kind==4) && !decide (e.op∈[245]))&&(e.to != 1)) && !Q6c c m e.to)) [(1001,[clF e]),(1002,[ktP c m f])]:=by
 have h:Fn Tryz.prog 100 [.c (.sl false 1 1 [.v (.int .u8 245)]),epE e] [] (vb (decide (e.op∈[245]))) []:=X0y e false [245] (by decide)
 have g:=coded_fn c hc hr m f e.to
 clear hr hc
 generalize decide (e.op∈[245])=b at h ⊢
 generalize Q6c c m e.to=q at g ⊢
 obtain⟨b1,h1⟩:∃b,(e.kind==4)=b:=⟨_,rfl⟩
 obtain⟨b2,h2⟩:∃b,(e.to != 1)=b:=⟨_,rfl⟩
 rw[h1,h2]
 cases b1<;>cases b<;>cases b2
 all_goals(refine Q0t Tryz.func108 rfl (by rfl) ?_;simp only[Tryz.ntmps108,List.length_cons,List.length_nil,Nat.reduceAdd,Nat.reduceSub,List.replicate,List.cons_append,List.nil_append])
 all_goals(repeat(any_goals(first|((with_reducible refine Q0b ?_ ?_);rfl;intro K hK;simp only[go_sem,h1,h2];((repeat(refine ndI (by first|assumption) ?_));refine hK _ ?_;clear hK K))|(with_reducible first|(refine Q0c ?_;refine hR _ ?_;clear hR R)|((first|refine Q0e ?_);intro J hJ hJ')|(refine Q0a ?_;intro R hR)|(refine hJ _ ?_;clear hJ hJ' J)|refine Q0j ?_)|((with_reducible apply Q0p);rfl;rfl;rfl;all_goals(intro hb;first|(cases hb;done)|((try simp only[Bool.not_true,Bool.not_false] at hb);(first|((with_reducible intro K hK);(first|((apply Q0i (g);rfl;rfl;rfl;rfl;exact Tryz.func109);kernel_rfl;rfl;(focus((simp only[go_sem,h1,h2]);(try rfl);done));(first|rfl))|((apply Q4y (h);rfl;rfl;rfl;rfl;exact Tryz.func100);kernel_rfl;rfl;(focus((simp only[AV.viewL,AV.view,Q4g,unC,Option.map_some,go_sem,h1,h2]);(try rfl)));rfl)|skip);simp only[go_sem,h1,h2];((repeat(refine ndI (by first|assumption|rfl) ?_));refine hK _ ?_;clear hK K))|((fail_if_success (with_reducible intro _));simp only[go_sem,h1,h2]))))))))
 all_goals(refine⟨by simp,⟨_,?_,AV.le_refl _⟩,Q0g (by simp[leH,hget])⟩;simp only[Tryz.results108,resL,ldA,Q0m,go_sem])
 all_goals(first|rfl)
theorem rl8_fn(e:Ev)(he:e.ok)(c:Cs)(hc:c.ok)(m f:Bool)(p:Ph)(hp:U p.who):Fn Tryz.prog 110 [epE e,.ptr 1002 0,epP p] [(1002,[ktP c m f])] (vb (((e.kind==2)||(e.kind==3)) && !Q6s c f p e)) [(1002,[ktP c m f])]:=by
 have g:=touch_fn c hc m f p hp e he
 clear he hc
 generalize Q6s c f p e=q at g ⊢
 obtain⟨b1,h1⟩:∃b,(e.kind==2)=b:=⟨_,rfl⟩
 obtain⟨b2,h2⟩:∃b,(e.kind==3)=b:=⟨_,rfl⟩
 rw[h1,h2]
 cases b1<;>cases b2
 all_goals(refine Q0t Tryz.func110 rfl (by rfl) ?_;simp only[Tryz.ntmps110,List.length_cons,List.length_nil,Nat.reduceAdd,Nat.reduceSub,List.replicate,List.cons_append,List.nil_append])
 all_goals(repeat(any_goals(first|((with_reducible refine Q0b ?_ ?_);rfl;intro K hK;simp only[go_sem,h1,h2];((repeat(refine ndI (by first|assumption) ?_));refine hK _ ?_;clear hK K))|(with_reducible first|(refine Q0c ?_;refine hR _ ?_;clear hR R)|((first|refine Q0e ?_);intro J hJ hJ')|(refine Q0a ?_;intro R hR)|(refine hJ _ ?_;clear hJ hJ' J)|refine Q0j ?_)|((with_reducible apply Q0p);rfl;rfl;rfl;all_goals(intro hb;first|(cases hb;done)|((try simp only[Bool.not_true,Bool.not_false] at hb);(first|((with_reducible intro K hK);(first|((apply Q0i (g);rfl;rfl;rfl;rfl;exact Tryz.func111);kernel_rfl;rfl;(focus((simp only[go_sem,h1,h2]);(try rfl);done));(first|rfl))|skip);simp only[go_sem,h1,h2];((repeat(refine ndI (by first|assumption) ?_));refine hK _ ?_;clear hK K))|((fail_if_success (with_reducible intro _));simp only[go_sem,h1,h2]))))))))
 all_goals(refine⟨by simp,⟨_,?_,AV.le_refl _⟩,Q0g (by simp[leH,hget])⟩;simp only[Tryz.results110,resL,ldA,Q0m,go_sem])
 all_goals(first|rfl)
end
section
open Go.RowKit
open Nat (reduceBEq)
attribute [-go_sem] IntKind.bits
set_option maxRecDepth 20000
set_option maxHeartbeats 4000000
def funcT(P:Program)(t:Nat):Bool:=match P.underlying t with|some (.func _ _ _)=>true|_=>false
section
variable {P:Program} {o:Oper} {σ : St} {K:St→Prop}
theorem X8w{t:Nat}(ht:funcT P t=true)(f:Go.Fn)(us vs:Array Value)(w:World):(Op.equal t (.func f us vs) .nilFunc).run P w = .ok false w∧(Op.equal t .nilFunc .nilFunc).run P w = .ok true w:=by
 obtain⟨a,b,c,hu⟩:∃a b c,P.underlying t=some (.func a b c):=by
  unfold funcT at ht
  cases hu:P.underlying t with
  |none=>simp[hu] at ht
  |some d=>cases d<;>simp[hu] at ht;exact⟨_,_,_,rfl⟩
 unfold Op.equal
 rw[show Op.maxDepth=9999+1 from rfl]
 unfold Op.equalIn
 rw[Sem.run_bind,run_underlying hu,Result.andThen_ok,Sem.run_bind,run_underlying hu,Result.andThen_ok]
 exact⟨rfl,rfl⟩
theorem opA_fnne{t t':TypeId}{x:Operand}{f:FuncId}{caps:List AV}(ho:o.op = .binOp .neq t x (.const .nilFunc) t')(hx:Q0k x=true)(ht:funcT P t=true)(h1:σ.ev x = .fn f caps)(hK:K (σ.put o.dst (vb true))):OpA P o σ K:=
 Q1g _ hK fun E ι a w h=>by
  have hxv:=h.ev x hx
  rw[h1] at hxv
  generalize he:a.eval x=v at hxv
  cases hxv with
  |fn f us cs hl hr=>
   refine⟨_,?_,Q2d _ rfl⟩
   have e2:a.eval (.const .nilFunc) = .nilFunc:=rfl
   have hg:(eqGuard .neq t x (.const .nilFunc) (.func (.func f) #[] us.toArray) .nilFunc).run P w = .ok () w:=Q3a rfl (by simp) t _ _ w
   have g2':binOp .neq t (.func (.func f) #[] us.toArray) .nilFunc=(do pure (.bool (!(←Op.equal t (.func (.func f) #[] us.toArray) .nilFunc)))):=rfl
   simp only[execOp,ho,he,e2,Sem.run_bind,hg,Result.andThen_ok,g2',(X8w ht _ _ _ w).1,Sem.run_pure,Bool.not_false]
theorem opA_fnni{t t':TypeId}{x:Operand}(ho:o.op = .binOp .neq t x (.const .nilFunc) t')(hx:Q0k x=true)(ht:funcT P t=true)(h1:σ.ev x = .c (.v .nilFunc))(hK:K (σ.put o.dst (vb false))):OpA P o σ K:=
 Q1g _ hK fun E ι a w h=>by
  have hxv:=h.ev x hx
  rw[h1] at hxv
  obtain⟨he,_⟩:=hxv.v_inv
  refine⟨_,?_,Q2d _ rfl⟩
  have e2:a.eval (.const .nilFunc) = .nilFunc:=rfl
  have hg:(eqGuard .neq t x (.const .nilFunc) .nilFunc .nilFunc).run P w = .ok () w:=Q3a rfl (by simp) t _ _ w
  have g2':binOp .neq t .nilFunc .nilFunc=(do pure (.bool (!(←Op.equal t .nilFunc .nilFunc)))):=rfl
  simp only[execOp,ho,he,e2,Sem.run_bind,hg,Result.andThen_ok,g2',(X8w ht (.func 0) #[] #[] w).2,Sem.run_pure,Bool.not_true]
end
abbrev evP(e:Ev):List PV:=[.v (.int .i64 e.kind),.v (.int .i64 e.dep),.v (.int .u64 e.self),.v (.int .u64 e.to),.v (.int .u8 (e.op:Int)),.v (.int .u64 (l0 e.key)),.v (.int .u64 (l1 e.key)),.v (.int .u64 (l2 e.key)),.v (.int .u64 (l3 e.key)),.v (.int .u64 (l0 e.val)),.v (.int .u64 (l1 e.val)),.v (.int .u64 (l2 e.val)),.v (.int .u64 (l3 e.val)),.sl false 1 e.data.length (e.data.flatMap bpv)]
abbrev phP(p:Ph):List PV:=[.v (.int .i64 p.role),.v (.int .u64 p.who),.v (.bool p.stk),.sl false 14 p.tr.length (p.tr.flatMap Ev.pv)]
def ruleN(q1 q2 q3 q4 q5 q6 q7:Bool):Int:=if q1 then 1 else if q2 then 2 else if q3 then 3 else if q4 then 4 else if q5 then 5 else if q6 then 6 else if q7 then 7 else 0
theorem rule_fnE(ks:List PV)(p:Ph)(at_:Nat)(e:Ev)(hlt:at_<p.tr.length)(k2:((p.tr.flatMap Ev.pv).drop (at_*14)).take 14=evP e)(q1 q2 q3 q4 q5 q6 q7:Bool)
 (b1:Fn Tryz.prog 102 [epE e,epP p,.ptr 1001 0] [(1001,[clF e])] (vb q1) [(1001,[clF e])])
 (b2:Fn Tryz.prog 103 [epE e,.ptr 1001 0] [(1001,[clF e])] (vb q2) [(1001,[clF e])])
 (b3:Fn Tryz.prog 104 [epE e,.ptr 1001 0] [(1001,[clF e])] (vb q3) [(1001,[clF e])])
 (b4:Fn Tryz.prog 105 [epE e,.ptr 1001 0,.ptr 1002 0,epP p,.ep [.v (.int .i64 at_)]] [(1001,[clF e]),(1002,[.ep ks])] (vb q4) [(1001,[clF e]),(1002,[.ep ks])])
 (b5:Fn Tryz.prog 107 [epE e,.ptr 1001 0] [(1001,[clF e])] (vb q5) [(1001,[clF e])])
 (b6:Fn Tryz.prog 108 [epE e,.ptr 1001 0,.ptr 1002 0] [(1001,[clF e]),(1002,[.ep ks])] (vb q6) [(1001,[clF e]),(1002,[.ep ks])])
 (b7:Fn Tryz.prog 110 [epE e,.ptr 1002 0,epP p] [(1002,[.ep ks])] (vb q7) [(1002,[.ep ks])]) :
 Fn Tryz.prog 68 [.ep ks,phA p,vi .i64 at_] [] (vi .i64 (ruleN q1 q2 q3 q4 q5 q6 q7)) []:=by
 (refine Q0t Tryz.func68 rfl (by rfl) ?_;simp only[Tryz.ntmps68,List.length_cons,List.length_nil,Nat.reduceAdd,Nat.reduceSub,List.replicate,List.cons_append,List.nil_append])
 (repeat(any_goals(first|((with_reducible refine Q0b ?_ ?_);rfl;intro K hK;simp(disch:=omega) only[go_sem,k2];((repeat(refine ndI (by first|assumption|omega|rfl) ?_));refine hK _ ?_;clear hK K))|(with_reducible first|(refine Q0c ?_;refine hR _ ?_;clear hR R)|((first|refine Q0e ?_|refine Q0f ?_);intro J hJ hJ')|(refine Q0a ?_;intro R hR)|(refine hJ _ ?_;clear hJ hJ' J)))))
 refine Q3d 9 ?_
 refine Q3v ?_
 intro J hJ hJ'
 refine Q0e ?_
 intro J hJ hJ'
 refine Q0a ?_
 intro R hR
 refine evL_to rfl (St.to.trans (St.to.frz 7 (pcs:=evP e) rfl) (St.to.trans (St.to.frz 4 (pcs:=phP p) rfl) (St.to.frz 5 (pcs:=[.v (.int .i64 at_)]) rfl))) ?_
 simp only[St.frz,AV.frzL,AV.frz,frzH,if_true,eq_self,↓reduceIte,Nat.reduceEqDiff,List.length_cons,List.length_nil,List.drop_zero,Nat.reduceAdd,Nat.reduceLT,if_false]
 have w1:IntKind.i64.wrap (0+1)=1:=rfl
 have w2:IntKind.i64.wrap (1+1)=2:=rfl
 have w3:IntKind.i64.wrap (2+1)=3:=rfl
 have w4:IntKind.i64.wrap (3+1)=4:=rfl
 have w5:IntKind.i64.wrap (4+1)=5:=rfl
 have w6:IntKind.i64.wrap (5+1)=6:=rfl
 have w7:IntKind.i64.wrap (6+1)=7:=rfl
 have w8:IntKind.i64.wrap (7+1)=8:=rfl
 (have W:=ndI w1 (ndI w2 (ndI w3 (ndI w4 (ndI w5 (ndI w6 (ndI w7 w8))))));(repeat(any_goals(first|((with_reducible refine Q2n ?_ ?_);rfl;intro K hK;(first|(apply opA_fnne;rfl;rfl;kernel_rfl;rfl)|(apply opA_fnni;rfl;rfl;kernel_rfl;rfl));(simp only[go_sem,W];refine hK _ ?_;clear hK K))|((with_reducible refine Q0b ?_ ?_);rfl;intro K hK;simp only[go_sem,W];((repeat(refine ndI (by first|assumption|omega) ?_));refine hK _ ?_;clear hK K))|(with_reducible first|(refine Q0c ?_;refine hR _ ?_;clear hR R)|((first|refine Q0e ?_|refine Q0f ?_);intro J hJ hJ')|(refine Q0a ?_;intro R hR)|(refine hJ _ ?_;clear hJ hJ' J)|refine Q0h ?_|refine Q0j ?_|refine Q0q ?_)|((with_reducible refine hJ' _ _ ?_ ?_);(focus(simp;done));clear hJ hJ' J)|((with_reducible apply Q0p);rfl;rfl;rfl;all_goals(intro hb;first|(cases hb;done)|((try simp only[Bool.not_true,Bool.not_false] at hb);(first|((with_reducible intro K hK);(first|(apply Q1c (b1) (fun r=>if r=1001 then 8 else if r=1002 then 3 else r);rfl;rfl;rfl;rfl;exact Tryz.func102;kernel_rfl;rfl;rfl;(intro r hr q hq h;simp only[List.map_cons,List.map_nil,List.cons_append,List.nil_append,List.mem_cons,List.not_mem_nil,or_false] at hr hq;(try dsimp only at h);first|omega);(simp only[Q1d,Q1x,AV.ren,AV.renL,Q0r,List.mem_cons,List.not_mem_nil,forall_eq_or_imp,forall_eq,Q1r,List.contains_cons,List.contains_nil,AV.refsL,AV.refs,Q0o,AV.inN,AV.inNL,inH,Q0v,go_sem,W]);(simp only[Q0u,Q1m,renH,AV.ren,AV.renL,Q0r]))|(apply Q1c (b2) (fun r=>if r=1001 then 8 else if r=1002 then 3 else r);rfl;rfl;rfl;rfl;exact Tryz.func103;kernel_rfl;rfl;rfl;(intro r hr q hq h;simp only[List.map_cons,List.map_nil,List.cons_append,List.nil_append,List.mem_cons,List.not_mem_nil,or_false] at hr hq;(try dsimp only at h);first|omega);(simp only[Q1d,Q1x,AV.ren,AV.renL,Q0r,List.mem_cons,List.not_mem_nil,forall_eq_or_imp,forall_eq,Q1r,List.contains_cons,List.contains_nil,AV.refsL,AV.refs,Q0o,AV.inN,AV.inNL,inH,Q0v,go_sem,W]);(simp only[Q0u,Q1m,renH,AV.ren,AV.renL,Q0r]))|(apply Q1c (b3) (fun r=>if r=1001 then 8 else if r=1002 then 3 else r);rfl;rfl;rfl;rfl;exact Tryz.func104;kernel_rfl;rfl;rfl;(intro r hr q hq h;simp only[List.map_cons,List.map_nil,List.cons_append,List.nil_append,List.mem_cons,List.not_mem_nil,or_false] at hr hq;(try dsimp only at h);first|omega);(simp only[Q1d,Q1x,AV.ren,AV.renL,Q0r,List.mem_cons,List.not_mem_nil,forall_eq_or_imp,forall_eq,Q1r,List.contains_cons,List.contains_nil,AV.refsL,AV.refs,Q0o,AV.inN,AV.inNL,inH,Q0v,go_sem,W]);(simp only[Q0u,Q1m,renH,AV.ren,AV.renL,Q0r]))|(apply Q1c (b4) (fun r=>if r=1001 then 8 else if r=1002 then 3 else r);rfl;rfl;rfl;rfl;exact Tryz.func105;kernel_rfl;rfl;rfl;(intro r hr q hq h;simp only[List.map_cons,List.map_nil,List.cons_append,List.nil_append,List.mem_cons,List.not_mem_nil,or_false] at hr hq;(try dsimp only at h);first|((repeat' split at h)<;>omega));(simp only[Q1d,Q1x,AV.ren,AV.renL,Q0r,List.mem_cons,List.not_mem_nil,forall_eq_or_imp,forall_eq,Q1r,List.contains_cons,List.contains_nil,AV.refsL,AV.refs,Q0o,AV.inN,AV.inNL,inH,Q0v,go_sem,W]);(simp only[Q0u,Q1m,renH,AV.ren,AV.renL,Q0r]))|(apply Q1c (b5) (fun r=>if r=1001 then 8 else if r=1002 then 3 else r);rfl;rfl;rfl;rfl;exact Tryz.func107;kernel_rfl;rfl;rfl;(intro r hr q hq h;simp only[List.map_cons,List.map_nil,List.cons_append,List.nil_append,List.mem_cons,List.not_mem_nil,or_false] at hr hq;(try dsimp only at h);first|omega);(simp only[Q1d,Q1x,AV.ren,AV.renL,Q0r,List.mem_cons,List.not_mem_nil,forall_eq_or_imp,forall_eq,Q1r,List.contains_cons,List.contains_nil,AV.refsL,AV.refs,Q0o,AV.inN,AV.inNL,inH,Q0v,go_sem,W]);(simp only[Q0u,Q1m,renH,AV.ren,AV.renL,Q0r]))|(apply Q1c (b6) (fun r=>if r=1001 then 8 else if r=1002 then 3 else r);rfl;rfl;rfl;rfl;exact Tryz.func108;kernel_rfl;rfl;rfl;(intro r hr q hq h;simp only[List.map_cons,List.map_nil,List.cons_append,List.nil_append,List.mem_cons,List.not_mem_nil,or_false] at hr hq;(try dsimp only at h);first|((repeat' split at h)<;>omega));(simp only[Q1d,Q1x,AV.ren,AV.renL,Q0r,List.mem_cons,List.not_mem_nil,forall_eq_or_imp,forall_eq,Q1r,List.contains_cons,List.contains_nil,AV.refsL,AV.refs,Q0o,AV.inN,AV.inNL,inH,Q0v,go_sem,W]);(simp only[Q0u,Q1m,renH,AV.ren,AV.renL,Q0r]))|(apply Q1c (b7) (fun r=>if r=1001 then 8 else if r=1002 then 3 else r);rfl;rfl;rfl;rfl;exact Tryz.func110;kernel_rfl;rfl;rfl;(intro r hr q hq h;simp only[List.map_cons,List.map_nil,List.cons_append,List.nil_append,List.mem_cons,List.not_mem_nil,or_false] at hr hq;(try dsimp only at h);first|omega);(simp only[Q1d,Q1x,AV.ren,AV.renL,Q0r,List.mem_cons,List.not_mem_nil,forall_eq_or_imp,forall_eq,Q1r,List.contains_cons,List.contains_nil,AV.refsL,AV.refs,Q0o,AV.inN,AV.inNL,inH,Q0v,go_sem,W]);(simp only[Q0u,Q1m,renH,AV.ren,AV.renL,Q0r]))|skip);simp only[go_sem,W];((repeat(refine ndI (by first|assumption) ?_));refine hK _ ?_;clear hK K))|((fail_if_success (with_reducible intro _));simp only[go_sem,W])))))|((with_reducible apply Q0d);rfl;rfl;all_goals(intro hc;first|(cases hc;done)|(try simp only at hc)))|((with_reducible refine Q3v ?_);intro J hJ hJ')))))
 all_goals(refine⟨by simp,⟨_,?_,AV.le_refl _⟩,Q0g (by simp[leH,hget])⟩;simp only[Tryz.results68,resL,ldA,Q0m,go_sem])
 all_goals clear b1 b2 b3 b4 b5 b6 b7
 all_goals(cases q1<;>cases q2<;>cases q3<;>cases q4<;>cases q5<;>cases q6<;>cases q7<;>first|rfl|contradiction)
def Q5l(c:Cs)(p:Ph)(at_:Nat)(e:Ev):Int:=ruleN ((e.kind==5) && !(p.stk&&decide (e.op∈[49,71]))) ((e.kind==6) && !decide (e.op∈[241,244,250]))
 (((e.kind==4)&&(e.to==1))&&(!decide (e.op∈[241])||decide ((e.data.length:Int)>0))) (((e.kind==4)&&decide (e.op∈[245])) && !Q7e c p at_ e)
 ((((e.kind==4)&&decide (e.op∈[241]))&&(e.to != 1)) && !decide (e.val=0)) ((((e.kind==4) && !decide (e.op∈[245]))&&(e.to != 1)) && !Q6c c (ofM c) e.to) (((e.kind==2)||(e.kind==3)) && !Q6s c (ofF c) p e)
theorem X5y(c:Cs)(hc:c.ok)(hr:Q9i c.cd=true)(p:Ph)(hp:p.ok)(at_:Nat)(e:Ev)(hy:p.tr[at_]? = some e):Fn Tryz.prog 68 [ktP c (ofM c) (ofF c),phA p,vi .i64 at_] [] (vi .i64 (Q5l c p at_ e)) []:=by
 have he:=hp.2.2 e (List.mem_of_getElem? hy)
 exact rule_fnE _ p at_ e (List.getElem?_eq_some_iff.1 hy).1 (Q8k hy) _ _ _ _ _ _ _ (rl2_fn e p) (rl3_fn e) (rl4_fn e) (rl5_fn e c _ _ p hp.2.1 at_ hy) (rl6_fn e he.2.1) (rl7_fn e c hc hr _ _) (rl8_fn e he c hc _ _ p hp.1)
theorem X0d{c:Cs}(h:Q2z c=true):Q9i c.cd=true:=by
 unfold Q2z at h
 exact(Bool.and_eq_true_iff.1 (Bool.and_eq_true_iff.1 h).2).2
def Q6v(c:Cs)(i j:Int):Int:=if Q2z c=true∧0≤i∧0≤j then(match c.ph[i.toNat]? with|some p=>(match p.tr[j.toNat]? with|some e=>Q5l c p j.toNat e|none=>0)|none=>0) else 0
theorem Rule_no(c:Cs)(hc:c.ok)(hr:Q2z c=false)(i j:Int):Fn Tryz.prog 33 [csA c,vi .i64 i,vi .i64 j] [] (vi .i64 0) []:=by
 have h:=X3e c hc hr
 change Fn _ _ [.agg [vi .u64 c.snd,phs false c.ph,asl false c.cd]] _ _ _ at h
 clear hr hc
 (refine Q0t Tryz.func33 rfl (by rfl) ?_;simp only[Tryz.ntmps33,List.length_cons,List.length_nil,Nat.reduceAdd,Nat.reduceSub,List.replicate,List.cons_append,List.nil_append])
 (repeat(any_goals(first|((with_reducible refine Q2n ?_ ?_);rfl;intro K hK;(first|(apply X2b;rfl;rfl;kernel_rfl;rfl));(simp only[go_sem];refine hK _ ?_;clear hK K))|((with_reducible refine Q0l ?_ ?_ ?_);rfl;rfl;intro K hK;((apply Q0i (h);rfl;rfl;rfl;rfl;exact Tryz.func43);kernel_rfl;rfl;(focus((simp only[go_sem]);(try rfl);done));(first|rfl));(simp only[go_sem];refine hK _ ?_;clear hK K))|((with_reducible refine Q0b ?_ ?_);rfl;intro K hK;simp only[go_sem];((repeat(refine ndI (by first|assumption) ?_));refine hK _ ?_;clear hK K))|(with_reducible first|(refine Q0c ?_;refine hR _ ?_;clear hR R)|((first|refine Q0e ?_);intro J hJ hJ')|(refine Q0a ?_;intro R hR)|(refine hJ _ ?_;clear hJ hJ' J)|refine Q0j ?_)|((with_reducible refine hJ' _ _ ?_ ?_);(focus(simp;done));clear hJ hJ' J)|((with_reducible apply Q0p);rfl;rfl;rfl;all_goals(intro hb;first|(cases hb;done)|((try simp only[Bool.not_true,Bool.not_false] at hb);(first|((fail_if_success (with_reducible intro _));simp only[go_sem])))))|((with_reducible apply Q0d);rfl;rfl;all_goals(intro hc;first|(cases hc;done)|(try simp only at hc))))))
 all_goals(refine⟨by simp,⟨_,?_,AV.le_refl _⟩,Q0g (by simp[leH,hget])⟩;simp only[Tryz.results33,resL,ldA,Q0m,go_sem])
theorem Rule_in(c:Cs)(hc:c.ok)(hr:Q2z c=true)(i j:Nat)(p:Ph)(e:Ev)(hp:c.ph[i]? = some p)(he:p.tr[j]? = some e):Fn Tryz.prog 33 [csA c,vi .i64 i,vi .i64 j] [] (vi .i64 (Q5l c p j e)) []:=by
 have h:=Q5z c hc hr
 change Fn _ _ [.agg [vi .u64 c.snd,phs false c.ph,asl false c.cd]] _ _ _ at h
 have g:=X5y c hc (X0d hr) p (hc.2.1.2 p (List.mem_of_getElem? hp)) j e he
 have hi:=(List.getElem?_eq_some_iff.1 hp).1
 have hj:=(List.getElem?_eq_some_iff.1 he).1
 have k2:=Q4x hp
 have c1:decide ((i:Int)<0)=false:=by simp
 have c2:decide ((i:Int)≥(c.ph.length:Int))=false:=by simp;omega
 have c3:decide ((j:Int)<0)=false:=by simp
 have c4:decide ((j:Int)≥(p.tr.length:Int))=false:=by simp;omega
 generalize Q5l c p j e=z at g ⊢
 generalize ofM c=m at h g
 generalize ofF c=f at h g
 clear hr hc hp he
 (refine Q0t Tryz.func33 rfl (by rfl) ?_;simp only[Tryz.ntmps33,List.length_cons,List.length_nil,Nat.reduceAdd,Nat.reduceSub,List.replicate,List.cons_append,List.nil_append])
 (have W:=ndI k2 (ndI c1 (ndI c2 (ndI c3 c4)));(repeat(any_goals(first|((with_reducible refine Q2n ?_ ?_);rfl;intro K hK;(first|(apply Q3f;rfl;rfl;kernel_rfl;rfl));(simp(disch:=omega) only[go_sem,W];refine hK _ ?_;clear hK K))|((with_reducible refine Q0l ?_ ?_ ?_);rfl;rfl;intro K hK;((first|(apply Q0i (h);rfl;rfl;rfl;rfl;exact Tryz.func43)|(apply Q0i (g);rfl;rfl;rfl;rfl;exact Tryz.func68));kernel_rfl;rfl;(focus((simp(disch:=omega) only[go_sem,W]);(try rfl);done));(first|rfl));(simp(disch:=omega) only[go_sem,W];refine hK _ ?_;clear hK K))|((with_reducible refine Q0b ?_ ?_);rfl;intro K hK;simp(disch:=omega) only[go_sem,W];((repeat(refine ndI (by first|assumption|omega|rfl) ?_));refine hK _ ?_;clear hK K))|(with_reducible first|(refine Q0c ?_;refine hR _ ?_;clear hR R)|((first|refine Q0e ?_);intro J hJ hJ')|(refine Q0a ?_;intro R hR)|(refine hJ _ ?_;clear hJ hJ' J)|refine Q0h ?_|refine Q0j ?_)|((with_reducible apply Q0p);rfl;rfl;rfl;all_goals(intro hb;first|(cases hb;done)|((try simp only[Bool.not_true,Bool.not_false] at hb);(first|((with_reducible intro K hK);simp(disch:=omega) only[go_sem,W];((repeat(refine ndI (by first|assumption|omega|rfl) ?_));refine hK _ ?_;clear hK K))))))|((with_reducible apply Q0d);rfl;rfl;all_goals(intro hc;first|(cases hc;done)|(try simp only at hc)))))))
 all_goals(refine⟨by simp,⟨_,?_,AV.le_refl _⟩,Q0g (by simp[leH,hget])⟩;simp only[Tryz.results33,resL,ldA,Q0m,go_sem])
end
section
open Go.RowKit
open Nat (reduceBEq)
attribute [-go_sem] IntKind.bits
set_option maxRecDepth 20000
set_option maxHeartbeats 4000000
theorem Q9b(c:Cs)(hc:c.ok)(hr:Q2z c=true)(i j:Int)(ho:i<0∨i≥c.ph.length∨j<0∨∃p,c.ph[i.toNat]? = some p∧j≥p.tr.length):Fn Tryz.prog 33 [csA c,vi .i64 i,vi .i64 j] [] (vi .i64 0) []:=by
 have h:=Q5z c hc hr
 change Fn _ _ [.agg [vi .u64 c.snd,phs false c.ph,asl false c.cd]] _ _ _ at h
 generalize ofM c=m at h
 generalize ofF c=f at h
 by_cases d1:i<0
 · have c1:decide (i<0)=true:=decide_eq_true d1
   clear hr hc
   (refine Q0t Tryz.func33 rfl (by rfl) ?_;simp only[Tryz.ntmps33,List.length_cons,List.length_nil,Nat.reduceAdd,Nat.reduceSub,List.replicate,List.cons_append,List.nil_append])
   (repeat(any_goals(first|((with_reducible refine Q2n ?_ ?_);rfl;intro K hK;(first|(apply Q3f;rfl;rfl;kernel_rfl;rfl));(simp only[go_sem,c1];refine hK _ ?_;clear hK K))|((with_reducible refine Q0l ?_ ?_ ?_);rfl;rfl;intro K hK;((apply Q0i (h);rfl;rfl;rfl;rfl;exact Tryz.func43);kernel_rfl;rfl;(focus((simp only[go_sem,c1]);(try rfl);done));(first|rfl));(simp only[go_sem,c1];refine hK _ ?_;clear hK K))|((with_reducible refine Q0b ?_ ?_);rfl;intro K hK;simp only[go_sem,c1];((repeat(refine ndI (by first|assumption) ?_));refine hK _ ?_;clear hK K))|(with_reducible first|(refine Q0c ?_;refine hR _ ?_;clear hR R)|((first|refine Q0e ?_);intro J hJ hJ')|(refine Q0a ?_;intro R hR)|(refine hJ _ ?_;clear hJ hJ' J)|refine Q0j ?_)|((with_reducible refine hJ' _ _ ?_ ?_);(focus(simp;done));clear hJ hJ' J)|((with_reducible apply Q0p);rfl;rfl;rfl;all_goals(intro hb;first|(cases hb;done)|((try simp only[Bool.not_true,Bool.not_false] at hb);(first|((with_reducible intro K hK);simp only[go_sem,c1];((repeat(refine ndI (by first|assumption) ?_));refine hK _ ?_;clear hK K))|((fail_if_success (with_reducible intro _));simp only[go_sem,c1])))))|((with_reducible apply Q0d);rfl;rfl;all_goals(intro hc;first|(cases hc;done)|(try simp only at hc))))))
   all_goals(refine⟨by simp,⟨_,?_,AV.le_refl _⟩,Q0g (by simp[leH,hget])⟩;simp only[Tryz.results33,resL,ldA,Q0m,go_sem])
 have c1:decide (i<0)=false:=decide_eq_false d1
 by_cases d2:i≥(c.ph.length:Int)
 · have c2:decide (i≥(c.ph.length:Int))=true:=decide_eq_true d2
   clear hr hc
   (refine Q0t Tryz.func33 rfl (by rfl) ?_;simp only[Tryz.ntmps33,List.length_cons,List.length_nil,Nat.reduceAdd,Nat.reduceSub,List.replicate,List.cons_append,List.nil_append])
   (repeat(any_goals(first|((with_reducible refine Q2n ?_ ?_);rfl;intro K hK;(first|(apply Q3f;rfl;rfl;kernel_rfl;rfl));(simp only[go_sem,c1,c2];refine hK _ ?_;clear hK K))|((with_reducible refine Q0l ?_ ?_ ?_);rfl;rfl;intro K hK;((apply Q0i (h);rfl;rfl;rfl;rfl;exact Tryz.func43);kernel_rfl;rfl;(focus((simp only[go_sem,c1,c2]);(try rfl);done));(first|rfl));(simp only[go_sem,c1,c2];refine hK _ ?_;clear hK K))|((with_reducible refine Q0b ?_ ?_);rfl;intro K hK;simp only[go_sem,c1,c2];((repeat(refine ndI (by first|assumption) ?_));refine hK _ ?_;clear hK K))|(with_reducible first|(refine Q0c ?_;refine hR _ ?_;clear hR R)|((first|refine Q0e ?_);intro J hJ hJ')|(refine Q0a ?_;intro R hR)|(refine hJ _ ?_;clear hJ hJ' J)|refine Q0j ?_)|((with_reducible refine hJ' _ _ ?_ ?_);(focus(simp;done));clear hJ hJ' J)|((with_reducible apply Q0p);rfl;rfl;rfl;all_goals(intro hb;first|(cases hb;done)|((try simp only[Bool.not_true,Bool.not_false] at hb);(first|((with_reducible intro K hK);simp only[go_sem,c1,c2];((repeat(refine ndI (by first|assumption) ?_));refine hK _ ?_;clear hK K))|((fail_if_success (with_reducible intro _));simp only[go_sem,c1,c2])))))|((with_reducible apply Q0d);rfl;rfl;all_goals(intro hc;first|(cases hc;done)|(try simp only at hc))))))
   all_goals(refine⟨by simp,⟨_,?_,AV.le_refl _⟩,Q0g (by simp[leH,hget])⟩;simp only[Tryz.results33,resL,ldA,Q0m,go_sem])
 have c2:decide (i≥(c.ph.length:Int))=false:=decide_eq_false d2
 by_cases d3:j<0
 · have c3:decide (j<0)=true:=decide_eq_true d3
   clear hr hc
   (refine Q0t Tryz.func33 rfl (by rfl) ?_;simp only[Tryz.ntmps33,List.length_cons,List.length_nil,Nat.reduceAdd,Nat.reduceSub,List.replicate,List.cons_append,List.nil_append])
   (have W:=ndI c1 (ndI c2 c3);(repeat(any_goals(first|((with_reducible refine Q2n ?_ ?_);rfl;intro K hK;(first|(apply Q3f;rfl;rfl;kernel_rfl;rfl));(simp only[go_sem,W];refine hK _ ?_;clear hK K))|((with_reducible refine Q0l ?_ ?_ ?_);rfl;rfl;intro K hK;((apply Q0i (h);rfl;rfl;rfl;rfl;exact Tryz.func43);kernel_rfl;rfl;(focus((simp only[go_sem,W]);(try rfl);done));(first|rfl));(simp only[go_sem,W];refine hK _ ?_;clear hK K))|((with_reducible refine Q0b ?_ ?_);rfl;intro K hK;simp only[go_sem,W];((repeat(refine ndI (by first|assumption) ?_));refine hK _ ?_;clear hK K))|(with_reducible first|(refine Q0c ?_;refine hR _ ?_;clear hR R)|((first|refine Q0e ?_);intro J hJ hJ')|(refine Q0a ?_;intro R hR)|(refine hJ _ ?_;clear hJ hJ' J)|refine Q0j ?_)|((with_reducible refine hJ' _ _ ?_ ?_);(focus(simp;done));clear hJ hJ' J)|((with_reducible apply Q0p);rfl;rfl;rfl;all_goals(intro hb;first|(cases hb;done)|((try simp only[Bool.not_true,Bool.not_false] at hb);(first|((with_reducible intro K hK);simp only[go_sem,W];((repeat(refine ndI (by first|assumption) ?_));refine hK _ ?_;clear hK K))|((fail_if_success (with_reducible intro _));simp only[go_sem,W])))))|((with_reducible apply Q0d);rfl;rfl;all_goals(intro hc;first|(cases hc;done)|(try simp only at hc)))))))
   all_goals(refine⟨by simp,⟨_,?_,AV.le_refl _⟩,Q0g (by simp[leH,hget])⟩;simp only[Tryz.results33,resL,ldA,Q0m,go_sem])
 have c3:decide (j<0)=false:=decide_eq_false d3
 obtain⟨n,rfl⟩:∃n:Nat,i=n:=⟨i.toNat,by omega⟩
 rcases ho with h1|h1|h1|⟨p,hp,h1⟩
 · exact absurd h1 d1
 · exact absurd h1 d2
 · exact absurd h1 d3
 rw[Int.toNat_natCast] at hp
 have k2:=Q4x hp
 have hi:=(List.getElem?_eq_some_iff.1 hp).1
 have c4:decide (j≥(p.tr.length:Int))=true:=decide_eq_true h1
 clear hr hc hp
 (refine Q0t Tryz.func33 rfl (by rfl) ?_;simp only[Tryz.ntmps33,List.length_cons,List.length_nil,Nat.reduceAdd,Nat.reduceSub,List.replicate,List.cons_append,List.nil_append])
 (have W:=ndI c1 (ndI c2 (ndI c3 (ndI c4 k2)));(repeat(any_goals(first|((with_reducible refine Q2n ?_ ?_);rfl;intro K hK;(first|(apply Q3f;rfl;rfl;kernel_rfl;rfl));(simp(disch:=omega) only[go_sem,W];refine hK _ ?_;clear hK K))|((with_reducible refine Q0l ?_ ?_ ?_);rfl;rfl;intro K hK;((apply Q0i (h);rfl;rfl;rfl;rfl;exact Tryz.func43);kernel_rfl;rfl;(focus((simp(disch:=omega) only[go_sem,W]);(try rfl);done));(first|rfl));(simp(disch:=omega) only[go_sem,W];refine hK _ ?_;clear hK K))|((with_reducible refine Q0b ?_ ?_);rfl;intro K hK;simp(disch:=omega) only[go_sem,W];((repeat(refine ndI (by first|assumption|rfl) ?_));refine hK _ ?_;clear hK K))|(with_reducible first|(refine Q0c ?_;refine hR _ ?_;clear hR R)|((first|refine Q0e ?_);intro J hJ hJ')|(refine Q0a ?_;intro R hR)|(refine hJ _ ?_;clear hJ hJ' J)|refine Q0j ?_)|((with_reducible refine hJ' _ _ ?_ ?_);(focus(simp;done));clear hJ hJ' J)|((with_reducible apply Q0p);rfl;rfl;rfl;all_goals(intro hb;first|(cases hb;done)|((try simp only[Bool.not_true,Bool.not_false] at hb);(first|((with_reducible intro K hK);simp(disch:=omega) only[go_sem,W];((repeat(refine ndI (by first|assumption|omega|rfl) ?_));refine hK _ ?_;clear hK K))))))|((with_reducible apply Q0d);rfl;rfl;all_goals(intro hc;first|(cases hc;done)|(try simp only at hc)))))))
 all_goals(refine⟨by simp,⟨_,?_,AV.le_refl _⟩,Q0g (by simp[leH,hget])⟩;simp only[Tryz.results33,resL,ldA,Q0m,go_sem])
theorem Rule_fn(c:Cs)(hc:c.ok)(i j:Int):Fn Tryz.prog 33 [csA c,vi .i64 i,vi .i64 j] [] (vi .i64 (Q6v c i j)) []:=by
 unfold Q6v
 cases hr:Q2z c with
 |false=>
  rw[if_neg (by simp)]
  exact Rule_no c hc hr i j
 |true=>
  by_cases h0:0≤i∧0≤j
  · rw[if_pos ⟨rfl,h0.1,h0.2⟩]
    obtain⟨n,rfl⟩:∃n:Nat,i=n:=⟨i.toNat,by omega⟩
    obtain⟨k,rfl⟩:∃k:Nat,j=k:=⟨j.toNat,by omega⟩
    rw[Int.toNat_natCast,Int.toNat_natCast]
    cases hp:c.ph[n]? with
    |none=>
     have:=List.getElem?_eq_none_iff.1 hp
     exact Q9b c hc hr _ _ (.inr (.inl (by omega)))
    |some p=>
     dsimp only
     cases he:p.tr[k]? with
     |none=>
      have:=List.getElem?_eq_none_iff.1 he
      exact Q9b c hc hr _ _ (.inr (.inr (.inr ⟨p,by rw[Int.toNat_natCast];exact hp,by omega⟩)))
     |some e=>exact Rule_in c hc hr n k p e hp he
  · rw[if_neg fun h=>h0 h.2]
    by_cases hi:i<0
    · exact Q9b c hc hr _ _ (.inl hi)
    · exact Q9b c hc hr _ _ (.inr (.inr (.inl (by omega))))
end
section
open Go.RowKit
open Nat (reduceBEq)
attribute [-go_sem] IntKind.bits
set_option maxRecDepth 20000
set_option maxHeartbeats 2000000
theorem for1_fn(c:Cs)(hc:c.ok)(m f:Bool)(s:Sp)(hs:s.ok):Fn Tryz.prog 45 [spA s,.ptr 1001 0] [(1001,[ktP c m f])] (vb (Q3w c s c.snd)) [(1001,[ktP c m f])]:=by
 have g:=Q7y c hc m f s hs c.snd hc.1
 generalize Q3w c s c.snd=b at g ⊢
 clear hc hs
 (refine Q0t Tryz.func45 rfl (by rfl) ?_;simp only[Tryz.ntmps45,List.length_cons,List.length_nil,Nat.reduceAdd,Nat.reduceSub,List.replicate,List.cons_append,List.nil_append])
 (repeat(any_goals(first|((with_reducible refine Q0b ?_ ?_);rfl;intro K hK;simp only[go_sem];((repeat(refine ndI (by first|assumption) ?_));refine hK _ ?_;clear hK K))|(with_reducible first|(refine Q0c ?_;refine hR _ ?_;clear hR R)|((first|refine Q0e ?_);intro J hJ hJ')|(refine Q0a ?_;intro R hR)|(refine hJ _ ?_;clear hJ hJ' J)|refine Q0j ?_)|((with_reducible refine Q0z ?_ ?_);kernel_rfl;(with_reducible refine hR _ ?_);clear hR R)|((first|((with_reducible apply Q1h);rfl;rfl;((apply Q0y (g);rfl;rfl;rfl;rfl;exact Tryz.func46);kernel_rfl;rfl;(focus((simp only[go_sem]);(try rfl);done));(first|rfl)))|((with_reducible apply Q0x);rfl;rfl;(simp only[rdE,rdOf,go_sem];rfl);(intro τ hA hQ hN;((try simp only[Q1i,Op.operands,Call.operands,go_sem,List.mem_cons,List.not_mem_nil,forall_eq_or_imp,forall_eq,List.append_toArray,Option.toArray] at hA);(try simp only[go_sem,List.mem_cons,List.not_mem_nil,forall_eq_or_imp,forall_eq] at hQ hN);(first|(revert hA;intro hA));(first|(revert hQ;intro hQ));(first|(revert hN;intro hN));simp only[go_sem,hA,hQ,hN];(repeat(refine ndI (by first|assumption) ?_));(first|apply Q1b)))));(simp only[St.eff,setO,Q0u,go_sem]))|((with_reducible refine Q0w ?_ ?_ ?_ ?_);kernel_rfl;kernel_rfl;(first|kernel_rfl);intro R hR))))
 all_goals(refine⟨by simp,⟨_,?_,AV.le_refl _⟩,Q0g (by simp[leH,hget])⟩;simp only[Tryz.results45,resL,ldA,Q0m,go_sem])
end
section
open Go.RowKit
open Nat (reduceBEq)
attribute [-go_sem] IntKind.bits
set_option maxRecDepth 20000
set_option maxHeartbeats 2000000
structure Bk where
 i:Int
 j:Int
 r:Int
deriving DecidableEq
def Bk.pv(b:Bk):List PV:=[.v (.int .i64 b.i),.v (.int .i64 b.j),.v (.int .i64 b.r)]
theorem X1m(b:Bk):b.pv.length=3:=rfl
abbrev bkA(b:Bk):AV:=.agg [vi .i64 b.i,vi .i64 b.j,vi .i64 b.r]
abbrev bks(ex:Bool)(l:List Bk):AV:=.c (.sl ex 3 l.length (l.flatMap Bk.pv))
def brkP(R:Nat→Ev→Int)(i:Nat):List Ev→Nat→List Bk
 |[],_=>[]
 |e::l,j=>if R j e>0 then⟨i,j,R j e⟩::brkP R i l (j+1) else brkP R i l (j+1)
def brkG(R:Ph→Nat→Ev→Int):List Ph→Nat→List Bk
 |[],_=>[]
 |p::l,i=>brkP (R p) i p.tr 0++brkG R l (i+1)
def brkC(c:Cs):List Bk:=brkG (Q5l c) c.ph 0
theorem Q8z(R:Nat→Ev→Int)(i:Nat):∀(l m:List Ev) (k:Nat),brkP R i (l++m) k=brkP R i l k++brkP R i m (k+l.length)
 |[],m,k=>rfl
 |e::l,m,k=>by
  simp only[List.cons_append,brkP,List.length_cons]
  rw[Q8z R i l m (k+1),show k+1+l.length=k+(l.length+1) by omega]
  split<;>rfl
theorem X3k(R:Ph→Nat→Ev→Int):∀(l m:List Ph) (k:Nat),brkG R (l++m) k=brkG R l k++brkG R m (k+l.length)
 |[],m,k=>rfl
 |p::l,m,k=>by
  simp only[List.cons_append,brkG,List.length_cons]
  rw[X3k R l m (k+1),show k+1+l.length=k+(l.length+1) by omega,List.append_assoc]
theorem X5n(R:Nat→Ev→Int)(i:Nat){l:List Ev}{j:Nat}{e:Ev}(h:l[j]? = some e):brkP R i (l.take (j+1)) 0=if R j e>0 then brkP R i (l.take j) 0++[⟨i,j,R j e⟩] else brkP R i (l.take j) 0:=by
 have hl:(l.take j).length=j:=by rw[List.length_take];have:=(List.getElem?_eq_some_iff.1 h).1;omega
 rw[List.take_add_one,h,Option.toList_some,Q8z,hl,Nat.zero_add]
 simp only[brkP]
 split<;>simp
theorem X5o(R:Ph→Nat→Ev→Int){l:List Ph}{i:Nat}{p:Ph}(h:l[i]? = some p):brkG R (l.take (i+1)) 0=brkG R (l.take i) 0++brkP (R p) i p.tr 0:=by
 have hl:(l.take i).length=i:=by rw[List.length_take];have:=(List.getElem?_eq_some_iff.1 h).1;omega
 rw[List.take_add_one,h,Option.toList_some,X3k,hl,Nat.zero_add]
 simp[brkG]
theorem Q8y(R:Nat→Ev→Int)(i:Nat):∀(l:List Ev) (k:Nat),(brkP R i l k).length≤l.length
 |[],_=>Nat.le_refl _
 |e::l,k=>by
  have:=Q8y R i l (k+1)
  unfold brkP
  split
  · simp only[List.length_cons];omega
  · simp only[List.length_cons];omega
theorem Q9a(R:Ph→Nat→Ev→Int):∀(l:List Ph) (k:Nat),(∀p∈l,p.tr.length≤1000)→(brkG R l k).length≤l.length*1000
 |[],_,_=>Nat.le_refl _
 |p::l,k,h=>by
  have h1:=Q9a R l (k+1) fun q hq=>h q (by simp[hq])
  have h2:=Q8y (R p) k p.tr 0
  have h3:=h p (by simp)
  simp only[brkG,List.length_append,List.length_cons]
  omega
theorem X5p(ks:List PV):Fn Tryz.prog 61 [.ep ks] [] (.fn 94 [.ptr 1 0]) [(1,[.ep ks])]:=by
 (refine Q0t Tryz.func61 rfl (by rfl) ?_;simp only[Tryz.ntmps61,List.length_cons,List.length_nil,Nat.reduceAdd,Nat.reduceSub,List.replicate,List.cons_append,List.nil_append])
 (repeat(any_goals(first|((with_reducible refine Q0b ?_ ?_);rfl;intro K hK;simp only[go_sem];((repeat(refine ndI (by first|assumption) ?_));refine hK _ ?_;clear hK K))|(with_reducible first|(refine Q0c ?_;refine hR _ ?_;clear hR R)|((first|refine Q0e ?_);intro J hJ hJ')|(refine Q0a ?_;intro R hR)|(refine hJ _ ?_;clear hJ hJ' J)|refine Q0j ?_))))
 all_goals exact⟨by simp,⟨_,rfl,AV.le_of (by simp[Q0m])⟩,Q0g (by simp[leH,hget])⟩
end
section
open Go.RowKit
open Nat (reduceBEq)
attribute [-go_sem] IntKind.bits
set_option maxRecDepth 20000
set_option maxHeartbeats 2000000
abbrev raB(l:List Bk):List AV:=(l.flatMap Bk.pv).map .c
abbrev bkT:Nat:=60
abbrev bkH0(out:List Bk):List (Nat×List AV):=[(1005,[.row 1600 bkT 3 out.length]),(1600,raB out)]
abbrev bkH1(out:List Bk)(b:Bk):List (Nat×List AV):=[(1005,[.row 11 bkT 3 (out.length+1)]),(11,raB (out++[b]))]
abbrev stO(ks:List PV)(ph:List Ph)(lp r:Nat)(out:List Bk)(i:Nat):St:=⟨[yv lp,.ptr 1101 0,.any,.any,.any,.any,.any,.any,.any,.any,.any,phs false ph,vi .i64 ph.length,vi .i64 i,.any,.any,.any,.any,.any,.any,.any,.any,.any,.any,.any,.any,.any,.any,.any,.any,.any,.any,.any,.any,.any,.any,.any,.any,.any,.any,.any],[(1005,[.row r bkT 3 out.length]),(r,raB out),(1101,[.ep ks])]⟩
abbrev stJ(ks:List PV)(ph:List Ph)(p:Ph)(lp r:Nat)(out:List Bk)(i j:Nat):St:=⟨[yv lp,.ptr 1101 0,.any,vi .i64 i,.ptr 4 0,.any,.any,.any,.any,.any,.any,phs false ph,vi .i64 ph.length,vi .i64 i,.any,.any,.any,.any,.any,.any,vi .i64 p.tr.length,vi .i64 j,.any,.any,.any,.any,.any,.any,.any,.any,.any,.any,.any,.any,.any,.any,.any,.any,.any,.any,.any],[(1005,[.row r bkT 3 out.length]),(r,raB out),(1101,[.ep ks]),(4,[vi .i64 p.role,vi .u64 p.who,vb p.stk,evs false p.tr])]⟩
theorem stJ_rn(ks:List PV)(ph:List Ph)(p:Ph)(lp:Nat)(out:List Bk)(i j:Nat):(stJ ks ph p lp 11 out i j).to (stJ ks ph p lp 600 out i j):=by
 have h:=St.to.rn (σ:=stJ ks ph p lp 11 out i j) (fun r=>if r=11 then 600 else r) (fun r=>if r=600 then 11 else r) [11,1005,1101,4] (by simp[AV.inNL,AV.inN]) (by simp) (by simp[inH,AV.inNL,AV.inN,Q0v]) (by simp) (by simp)
 simpa [AV.renL,AV.ren,renH] using h
theorem brkP_mem(R:Nat→Ev→Int)(i:Nat){l:List Ev}{j:Nat}{e:Ev}(h:l[j]? = some e)(k:Nat)(hz:R (k+j) e>0):⟨i,((k+j:Nat):Int),R (k+j) e⟩∈brkP R i l k:=by
 have hlt:=(List.getElem?_eq_some_iff.1 h).1
 have e1:l=l.take j++e::l.drop (j+1):=by
  rw[List.getElem?_eq_getElem hlt] at h
  rw[←Option.some.inj h,←List.drop_eq_getElem_cons hlt,List.take_append_drop]
 have e2:(l.take j).length=j:=by rw[List.length_take];omega
 rw[e1,Q8z,e2]
 refine List.mem_append_right _ ?_
 unfold brkP
 rw[if_pos hz]
 exact List.mem_cons_self
theorem brk_mem(R:Ph→Nat→Ev→Int){ph:List Ph}{i:Nat}{p:Ph}(hp:ph[i]? = some p){j:Nat}{e:Ev}(he:p.tr[j]? = some e)(hz:R p j e>0):⟨i,j,R p j e⟩∈brkG R ph 0:=by
 have hlt:=(List.getElem?_eq_some_iff.1 hp).1
 have e1:ph=ph.take i++p::ph.drop (i+1):=by
  have h:=hp
  rw[List.getElem?_eq_getElem hlt] at h
  rw[←Option.some.inj h,←List.drop_eq_getElem_cons hlt,List.take_append_drop]
 have e2:(ph.take i).length=i:=by rw[List.length_take];omega
 rw[e1,X3k,e2,Nat.zero_add]
 refine List.mem_append_right _ ?_
 unfold brkG
 refine List.mem_append_left _ ?_
 have h:=brkP_mem (R p) i he 0
 rw[Nat.zero_add] at h
 exact h hz
theorem brk1_fn(snd:Int)(ph:List Ph)(cs:List PV)(R:Ph→Nat→Ev→Int)(hl:ph.length≤1000)(hp:∀p∈ph,p.tr.length≤1000)
 (hRu:∀p∈ph,∀(j:Nat) (e:Ev),p.tr[j]? = some e→Fn Tryz.prog 68 [.ep (.v (.int .u64 snd) :: .sl false 4 ph.length (ph.flatMap Ph.pv)::cs),phA p,vi .i64 j] [] (vi .i64 (R p j e)) [])
 {t:Tmp} {asg bod:Code} {T0:List AV} (hT0:AV.inNL [1005] T0=true) (lp:Nat)
 (hY:∀(out:List Bk) (b:Bk),b∈brkG R ph 0→out.length≤1000000→YC Tryz.prog t asg bod T0 lp (bkA b) (bkH0 out) (bkH1 out b)) :
 FnW (LoopAt t asg bod T0 [1005,1101] lp) Tryz.prog 94 [yv lp,.ptr 1101 0] [(1005,[nilA]),(1101,[.ep (.v (.int .u64 snd) :: .sl false 4 ph.length (ph.flatMap Ph.pv)::cs)])] (.tup []) [(1005,[.row 600 bkT 3 (brkG R ph 0).length]),(600,raB (brkG R ph 0))]:=by
 obtain⟨ks,hks⟩:∃ks,(.v (.int .u64 snd) :: .sl false 4 ph.length (ph.flatMap Ph.pv)::cs)=ks:=⟨_,rfl⟩
 rw[hks] at hRu
 (refine Q4r Tryz.func94 rfl (by rfl) ?_;simp only[Tryz.ntmps94,List.length_cons,List.length_nil,Nat.reduceAdd,Nat.reduceSub,List.replicate,List.cons_append,List.nil_append])
 refine AWE.seq (AWE.of ?_)
 (repeat(any_goals(first|((with_reducible refine Q0b ?_ ?_);rfl;intro K hK;simp only[go_sem];((repeat(refine ndI (by first|assumption|omega) ?_));refine hK _ ?_;clear hK K))|(with_reducible first|(refine Q0c ?_;refine hR _ ?_;clear hR R)|(refine Q0a ?_;intro R hR)))))
 rw[hks]
 show AWE _ _ _ _ _
 refine AWE.block ?_
 refine AWE.loop (α:={i:Nat // i≤ph.length}) (fun q=>stO ks ph lp 600 (brkG R (ph.take q.1) 0) q.1) (fun q=>ph.length-q.1) ⟨0,Nat.zero_le _⟩ ?_ ?_
 · refine St.to.trans (St.to.nilcell 1005 600 bkT 3 0 (cs:=[nilA]) (by simp[hget]) rfl (by simp[St.free,Q1z,AV.refsL,AV.refs]) (by decide) (by decide)) (St.to.of_le (St.le_of (by simp[leT,brkG]) (by simp[leH,hget,hput,brkG])))
 rintro ⟨i,hi⟩
 dsimp only[stO]
 rcases Nat.lt_or_ge i ph.length with hlt|hge
 · obtain⟨y,hy⟩:∃y,ph[i]? = some y:=⟨ph[i],List.getElem?_eq_getElem hlt⟩
   have k1:(decide ((i:Int)<(ph.length:Int)))=true:=by simpa using hlt
   have k2:=Q4x hy
   have k7:(i:Int)+1=((i+1:Nat):Int):=by omega
   have hm:=List.mem_of_getElem? hy
   have m1:=X5o R hy
   have g1:=Q9a R (ph.take (i+1)) 0 fun q hq=>hp q (List.mem_of_mem_take hq)
   have g2:(brkG R (ph.take (i+1)) 0).length≤1000000:=by have:(ph.take (i+1)).length≤1000:=by simp;omega
                                                         omega
   have fin:∀τ : St,τ.to (stO ks ph lp 600 (brkG R (ph.take (i+1)) 0) (i+1))→∃q:{i:Nat // i≤ph.length},ph.length-q.1<ph.length-i∧τ.to (stO ks ph lp 600 (brkG R (ph.take q.1) 0) q.1):=fun τ h=>⟨⟨i+1,hlt⟩,by simp only;omega,h⟩
   have hRy:=hRu y hm
   have hyl:=hp y hm
   rw[m1] at fin g2
   clear g1 m1
   generalize brkG R (ph.take i) 0=out0 at fin g2 ⊢
   refine AWE.seq (AWE.of ?_)
   (repeat(any_goals(first|((with_reducible refine Q0b ?_ ?_);rfl;intro K hK;simp only[go_sem,k1];((repeat(refine ndI (by first|assumption) ?_));refine hK _ ?_;clear hK K))|(with_reducible first|(refine Q0c ?_;refine hR _ ?_;clear hR R)|(refine Q0a ?_;intro R hR)))))
   refine AWE.seq (AWE.of ?_)
   (repeat(any_goals(first|(with_reducible first|refine Q0h ?_)|((with_reducible apply Q0d);rfl;rfl;all_goals(intro hc;first|(cases hc;done)|(try simp only at hc))))))
   refine AWE.seq (AWE.block (AWE.seq (AWE.of ?_)))
   (repeat(any_goals(first|((with_reducible refine Q0b ?_ ?_);rfl;intro K hK;simp(disch:=omega) only[go_sem,k1,k2,k7,wrI];((repeat(refine ndI (by first|assumption|omega|rfl) ?_));refine hK _ ?_;clear hK K))|(with_reducible first|(refine Q0c ?_;refine hR _ ?_;clear hR R)|(refine Q0a ?_;intro R hR)))))
   refine AWE.seq (AWE.of ?_)
   (repeat(any_goals(first|((with_reducible refine Q0b ?_ ?_);rfl;intro K hK;simp(disch:=omega) only[go_sem,k1,k2,k7,wrI];((repeat(refine ndI (by first|assumption|rfl) ?_));refine hK _ ?_;clear hK K))|(with_reducible first|(refine Q0c ?_;refine hR _ ?_;clear hR R)|(refine Q0a ?_;intro R hR)))))
   refine AWE.block ?_
   refine AWE.loop (α:={j:Nat // j≤y.tr.length}) (fun q=>stJ ks ph y lp 600 (out0++brkP (R y) i (y.tr.take q.1) 0) i q.1) (fun q=>y.tr.length-q.1) ⟨0,Nat.zero_le _⟩ ?_ ?_
   · refine St.to.of_le (St.le_of (by simp[leT,brkP]) (by simp[leH,hget,hput,brkP]))
   rintro ⟨j,hj⟩
   dsimp only[stJ]
   rcases Nat.lt_or_ge j y.tr.length with hjt|hje
   · obtain⟨e,he⟩:∃e,y.tr[j]? = some e:=⟨y.tr[j],List.getElem?_eq_getElem hjt⟩
     have c1:(decide ((j:Int)<(y.tr.length:Int)))=true:=by simpa using hjt
     have c7:(j:Int)+1=((j+1:Nat):Int):=by omega
     have rl:=hRy j e he
     have n1:=X5n (R y) i he
     have g3:=Q8y (R y) i (y.tr.take (j+1)) 0
     have g4:(out0++brkP (R y) i (y.tr.take j) 0).length≤1000000:=by
      rw[List.length_append] at g2 ⊢
      have h1:=congrArg List.length (Q8z (R y) i (y.tr.take j) (y.tr.drop j) 0)
      rw[List.take_append_drop,List.length_append] at h1
      omega
     have fin2:∀τ : St,τ.to (stJ ks ph y lp 600 (out0++brkP (R y) i (y.tr.take (j+1)) 0) i (j+1))→∃q:{j:Nat // j≤y.tr.length},y.tr.length-q.1<y.tr.length-j∧τ.to (stJ ks ph y lp 600 (out0++brkP (R y) i (y.tr.take q.1) 0) i q.1):=fun τ h=>⟨⟨j+1,hjt⟩,by simp only;omega,h⟩
     rw[n1] at fin2
     clear n1 g3 fin
     have mem:=brk_mem R hy he
     generalize R y j e=z at rl fin2 mem
     obtain⟨b,hb⟩:∃b,decide (z>0)=b:=⟨_,rfl⟩
     have hY1:=fun h=>hY (out0++brkP (R y) i (y.tr.take j) 0) ⟨i,j,z⟩ h g4
     generalize brkP (R y) i (y.tr.take j) 0=out1 at fin2 hY1 ⊢
     rw[show out0++(if z>0 then out1++[⟨i,j,z⟩] else out1)=if z>0 then(out0++out1)++[⟨i,j,z⟩] else out0++out1 by split<;>simp] at fin2
     generalize out0++out1=out at fin2 hY1 g4 ⊢
     have k9:∀r,AV.refsL r (raB out)=false:=fun r=>Q0o r _
     refine AWE.seq (AWE.of ?_)
     (repeat(any_goals(first|((with_reducible refine Q0b ?_ ?_);rfl;intro K hK;simp only[go_sem,c1];((repeat(refine ndI (by first|assumption) ?_));refine hK _ ?_;clear hK K))|(with_reducible first|(refine Q0c ?_;refine hR _ ?_;clear hR R)|(refine Q0a ?_;intro R hR)))))
     refine AWE.seq (AWE.of ?_)
     (repeat(any_goals(first|(with_reducible first|refine Q0h ?_)|((with_reducible apply Q0d);rfl;rfl;all_goals(intro hc;first|(cases hc;done)|(try simp only at hc))))))
     refine AWE.seq (AWE.block (AWE.seq (AWE.of ?_)))
     (repeat(any_goals(first|((with_reducible refine Q0b ?_ ?_);rfl;intro K hK;simp(disch:=omega) only[go_sem,c1,c7,k9,wrI];((repeat(refine ndI (by first|assumption|rfl) ?_));refine hK _ ?_;clear hK K))|(with_reducible first|(refine Q0c ?_;refine hR _ ?_;clear hR R)|(refine Q0a ?_;intro R hR)))))
     refine AWE.seq (AWE.of ?_)
     (repeat(any_goals(first|((with_reducible refine Q0l ?_ ?_ ?_);rfl;rfl;intro K hK;((apply Q0i (rl);rfl;rfl;rfl;rfl;exact Tryz.func68);kernel_rfl;rfl;(focus((simp(disch:=omega) only[go_sem,c1,c7,k9,wrI]);(try rfl);done));(first|rfl));(simp(disch:=omega) only[go_sem,c1,c7,k9,wrI];refine hK _ ?_;clear hK K))|((with_reducible refine Q0b ?_ ?_);rfl;intro K hK;simp(disch:=omega) only[go_sem,c1,c7,k9,wrI];((repeat(refine ndI (by first|assumption|rfl) ?_));refine hK _ ?_;clear hK K))|(with_reducible first|(refine Q0c ?_;refine hR _ ?_;clear hR R)|(refine Q0a ?_;intro R hR)))))
     cases b with
     |false=>
      have hz:¬z>0:=of_decide_eq_false hb
      rw[if_neg hz] at fin2
      refine AWE.seq (AWE.of ?_)
      (repeat(any_goals(first|((with_reducible refine Q0b ?_ ?_);rfl;intro K hK;simp(disch:=omega) only[go_sem,c7,k9,hb,wrI];((repeat(refine ndI (by first|assumption|rfl) ?_));refine hK _ ?_;clear hK K))|(with_reducible first|(refine Q0c ?_;refine hR _ ?_;clear hR R)|(refine Q0a ?_;intro R hR))|((with_reducible apply Q0p);rfl;rfl;rfl;all_goals(intro hb;first|(cases hb;done)|((try simp only[Bool.not_true,Bool.not_false] at hb);(first|((fail_if_success (with_reducible intro _));simp(disch:=omega) only[go_sem,c7,k9,hb,wrI]))))))))
      show AWE _ _ _ _ _
      refine AWE.of ?_
      (repeat(any_goals(first|(with_reducible first|refine Q0h ?_)|((with_reducible apply Q0d);rfl;rfl;all_goals(intro hc;first|(cases hc;done)|(try simp only at hc))))))
      show AWE _ _ _ _ _
      refine AWE.of ?_
      (repeat(any_goals(first|((with_reducible refine Q0b ?_ ?_);rfl;intro K hK;simp(disch:=omega) only[go_sem,c7,wrI];((repeat(refine ndI (by first|assumption|rfl) ?_));refine hK _ ?_;clear hK K))|(with_reducible first|(refine Q0c ?_;refine hR _ ?_;clear hR R)|(refine Q0a ?_;intro R hR)))))
      exact fin2 _ (St.to.of_le (St.le_of (by simp[leT]) (by simp[leH,hget])))
     |true=>
      have hz:z>0:=of_decide_eq_true hb
      rw[if_pos hz] at fin2
      have hY1:=hY1 (mem hz)
      refine AWE.seq (AWE.region_at 8 rfl rfl ?_)
      intro R hR
      simp only[List.take,List.drop]
      (repeat(any_goals(first|((with_reducible refine Q0b ?_ ?_);rfl;intro K hK;simp(disch:=omega) only[go_sem,c7,k9,hb,wrI];((repeat(refine ndI (by first|assumption|rfl) ?_));refine hK _ ?_;clear hK K))|(with_reducible first|(refine Q0c ?_;refine hR _ ?_;clear hR R))|((with_reducible apply Q0p);rfl;rfl;rfl;all_goals(intro hb;first|(cases hb;done)|((try simp only[Bool.not_true,Bool.not_false] at hb);(first|((with_reducible intro K hK);simp(disch:=omega) only[go_sem,c7,k9,hb,wrI];((repeat(refine ndI (by first|assumption|rfl) ?_));refine hK _ ?_;clear hK K)))))))))
      refine⟨.inr ⟨2,true,30,rfl,rfl,rfl⟩,Q5o hY1 (fun r=>if r=1600 then 600 else r) rfl rfl rfl rfl (.inr ?_) (by rfl) ?_ ?_ ?_ ?_ [1005] hT0 ?_ ?_⟩
      · simp[AV.ren,AV.renL,St.ev]
      · simp[hget,AV.renL,AV.ren]
      · intro r hr q hq h
        simp only[List.map_cons,List.map_nil,List.cons_append,List.nil_append,List.mem_cons,List.not_mem_nil,or_false] at hr hq
        rcases hr with rfl|rfl|rfl|rfl<;>rcases hq with rfl|rfl|rfl|rfl<;>simp at h ⊢
      · simp[Q1r,St.free,Q1z,AV.refs,AV.refsL,k9]
      · simp[inH,AV.inNL,AV.inN]
      · simp[hget]
      intro R hR
      simp only[List.drop,Q0u,Q1m,renH,AV.ren,AV.renL,Q0r,hput,hdel,hget,St.put,List.set]
      (repeat(any_goals(first|((with_reducible refine Q0b ?_ ?_);rfl;intro K hK;simp(disch:=omega) only[go_sem,c7,k9,hb,wrI];((repeat(refine ndI (by first|assumption|rfl) ?_));refine hK _ ?_;clear hK K))|(with_reducible first|(refine Q0c ?_;refine hR _ ?_;clear hR R))|((with_reducible apply Q0p);rfl;rfl;rfl;all_goals(intro hb;first|(cases hb;done)|((try simp only[Bool.not_true,Bool.not_false] at hb);(first|((with_reducible intro K hK);simp(disch:=omega) only[go_sem,c7,k9,hb,wrI];((repeat(refine ndI (by first|assumption|rfl) ?_));refine hK _ ?_;clear hK K)))))))))
      show AWE _ _ _ _ _
      refine AWE.of ?_
      (repeat(any_goals(first|(with_reducible first|refine Q0h ?_)|((with_reducible apply Q0d);rfl;rfl;all_goals(intro hc;first|(cases hc;done)|(try simp only at hc))))))
      show AWE _ _ _ _ _
      refine AWE.of ?_
      (repeat(any_goals(first|((with_reducible refine Q0b ?_ ?_);rfl;intro K hK;simp(disch:=omega) only[go_sem,c7,wrI];((repeat(refine ndI (by first|assumption|rfl) ?_));refine hK _ ?_;clear hK K))|(with_reducible first|(refine Q0c ?_;refine hR _ ?_;clear hR R)|(refine Q0a ?_;intro R hR)))))
      exact fin2 _ (St.to.trans (St.to.of_le (τ:=stJ ks ph y lp 11 (out++[⟨i,j,z⟩]) i (j+1)) (St.le_of (by simp[leT]) (by simp[leH,hget,raB]))) (stJ_rn ks ph y lp _ _ _))
   · have c1:(decide ((j:Int)<(y.tr.length:Int)))=false:=by simpa using hje
     have e:y.tr.take j=y.tr:=List.take_of_length_le hje
     rw[e]
     refine AWE.seq (AWE.of ?_)
     (repeat(any_goals(first|((with_reducible refine Q0b ?_ ?_);rfl;intro K hK;simp only[go_sem,c1];((repeat(refine ndI (by first|assumption) ?_));refine hK _ ?_;clear hK K))|(with_reducible first|(refine Q0c ?_;refine hR _ ?_;clear hR R)|(refine Q0a ?_;intro R hR)))))
     refine AWE.seq (AWE.of ?_)
     (repeat(any_goals(first|(with_reducible first|refine Q0q ?_)|((with_reducible apply Q0d);rfl;rfl;all_goals(intro hc;first|(cases hc;done)|(try simp only at hc))))))
     show AWE _ _ _ _ _
     refine AWE.of ?_
     (repeat(any_goals(first|((with_reducible refine Q0b ?_ ?_);rfl;intro K hK;simp(disch:=omega) only[go_sem,k7,wrI];((repeat(refine ndI (by first|assumption|rfl) ?_));refine hK _ ?_;clear hK K))|(with_reducible first|(refine Q0c ?_;refine hR _ ?_;clear hR R)|(refine Q0a ?_;intro R hR)))))
     exact fin _ (St.to.of_le (St.le_of (by simp[leT]) (by simp[leH,hget])))
 · have k1:(decide ((i:Int)<(ph.length:Int)))=false:=by simpa using hge
   have e:ph.take i=ph:=List.take_of_length_le hge
   rw[e]
   refine AWE.seq (AWE.of ?_)
   (repeat(any_goals(first|((with_reducible refine Q0b ?_ ?_);rfl;intro K hK;simp only[go_sem,k1];((repeat(refine ndI (by first|assumption) ?_));refine hK _ ?_;clear hK K))|(with_reducible first|(refine Q0c ?_;refine hR _ ?_;clear hR R)|(refine Q0a ?_;intro R hR)))))
   refine AWE.seq (AWE.of ?_)
   (repeat(any_goals(first|(with_reducible first|refine Q0q ?_)|((with_reducible apply Q0d);rfl;rfl;all_goals(intro hc;first|(cases hc;done)|(try simp only at hc))))))
   exact⟨by simp,⟨_,rfl,AV.le_of (by simp[Q0m])⟩,Q0g (by simp[leH,hget])⟩
theorem Z0x(snd:Int)(ph:List Ph)(cs:List PV)(R:Ph→Nat→Ev→Int)(hl:ph.length≤1000)(hp:∀p∈ph,p.tr.length≤1000)
 (hRu:∀p∈ph,∀(j:Nat) (e:Ev),p.tr[j]? = some e→Fn Tryz.prog 68 [.ep (.v (.int .u64 snd) :: .sl false 4 ph.length (ph.flatMap Ph.pv)::cs),phA p,vi .i64 j] [] (vi .i64 (R p j e)) []) :
 Fn Tryz.prog 93 [nilA,.fn 94 [.ptr 1001 0]] [(1001,[.ep (.v (.int .u64 snd) :: .sl false 4 ph.length (ph.flatMap Ph.pv)::cs)])] (.row 600 bkT 3 (brkG R ph 0).length) [(600,raB (brkG R ph 0))]:=by
 have F:=fun t asg bod T0 hT0 lp=>brk1_fn snd ph cs R hl hp hRu (t:=t) (asg:=asg) (bod:=bod) (T0:=T0) hT0 lp
 obtain⟨ks,hks⟩:∃ks,(.v (.int .u64 snd) :: .sl false 4 ph.length (ph.flatMap Ph.pv)::cs)=ks:=⟨_,rfl⟩
 rw[hks] at F ⊢
 generalize brkG R ph 0=res at F ⊢
 clear hRu
 (refine Q0t Tryz.func93 rfl (by rfl) ?_;simp only[Tryz.ntmps93,List.length_cons,List.length_nil,Nat.reduceAdd,Nat.reduceSub,List.replicate,List.cons_append,List.nil_append])
 (repeat(any_goals(first|((with_reducible refine Q0b ?_ ?_);rfl;intro K hK;simp only[go_sem];((repeat(refine ndI (by first|assumption|rfl) ?_));refine hK _ ?_;clear hK K))|(with_reducible first|(refine Q0c ?_;refine hR _ ?_;clear hR R)|((first|refine Q0e ?_|refine Q0f ?_);intro J hJ hJ')|(refine Q0a ?_;intro R hR)|(refine hJ _ ?_;clear hJ hJ' J)))))
 show AW _ _ _ _
 refine AW.range (T0:=[.any,.any,.ptr 1005 0,.any,.any,.any,.any,.any,.any,.any,.any,.any,.any]) (cargs:=[.ptr 1101 0]) (H0:=[(1005,[nilA]),(1101,[.ep ks])]) (H1:=[(1005,[.row 600 bkT 3 res.length]),(600,raB res)]) (res:=.tup []) (fun r=>if r=1005 then 2 else if r=1101 then 1001 else r) (fun lp=>F _ _ _ _ ?_ lp ?_) rfl rfl Tryz.func94 (by kernel_rfl) rfl rfl ?_ ?_ ?_ ?_ ?_ rfl ?_ ?_
 · rfl
 · intro out b _ ho
   refine yc_of rfl rfl ?_
   have k4:(raB out).length=out.length*3:=by rw[List.length_map,Q0s X1m]
   have k9:∀r,AV.refsL r (raB out)=false:=fun r=>Q0o r _
   simp only[List.set]
   (repeat(any_goals(first|((with_reducible refine Q0b ?_ ?_);rfl;intro K hK;simp(disch:=omega) only[go_sem,k4,k9];((repeat(refine ndI (by first|assumption|rfl) ?_));refine hK _ ?_;clear hK K))|(with_reducible first|(refine Q0c ?_;refine hR _ ?_;clear hR R)|(refine Q0a ?_;intro R hR)))))
   refine⟨rfl,?_⟩
   (have W:=ndI k4 (ndI k9 @Q0o);(repeat(any_goals(first|((with_reducible refine Q0b ?_ ?_);rfl;intro K hK;simp(disch:=omega) only[go_sem,W,Q2m,AV.refsL,AV.refs,List.length_append,List.length_cons,List.length_nil,Bool.or_false];((repeat(refine ndI (by first|assumption|omega|rfl) ?_));refine hK _ ?_;clear hK K))|(with_reducible first|(refine Q0c ?_;refine hR _ ?_;clear hR R)|((first|refine Q0f ?_);intro J hJ hJ')|(refine Q0a ?_;intro R hR))|((with_reducible refine hJ' _ _ ?_ ?_);(focus(simp;done));clear hJ hJ' J)))))
   exact⟨rfl,Q0g (by simp[leH,hget,raB,Bk.pv])⟩
 · simp[Q1d,Q1x,AV.ren]
 · simp[Q1d,Q1x,AV.ren]
 · simp[hget,AV.renL,AV.ren]
 · intro r hr q hq h
   simp only[List.map_cons,List.map_nil,List.cons_append,List.nil_append,List.mem_cons,List.not_mem_nil,or_false] at hr hq
   rcases hr with rfl|rfl|rfl|rfl<;>rcases hq with rfl|rfl|rfl|rfl<;>simp at h ⊢
 · simp[Q1r,St.free,Q1z,AV.refs,AV.refsL]
 · simp[inH,AV.inNL,AV.inN]
 · simp only[Q0u,Q1m,renH,AV.ren,AV.renL,Q0r,hput,hdel,hget,Nat.reduceLeDiff,Nat.reduceSub,Nat.reduceEqDiff,↓reduceIte]
   (repeat(any_goals(first|((with_reducible refine Q0b ?_ ?_);rfl;intro K hK;simp only[go_sem];((repeat(refine ndI (by first|assumption) ?_));refine hK _ ?_;clear hK K))|(with_reducible first|(refine Q0c ?_;refine hR _ ?_;clear hR R)|((first|refine Q0e ?_);intro J hJ hJ')|(refine Q0a ?_;intro R hR)|(refine hJ _ ?_;clear hJ hJ' J)|refine Q0j ?_)|((with_reducible refine hJ' _ _ ?_ ?_);(focus(simp;done));clear hJ hJ' J))))
   all_goals exact⟨by simp,⟨_,rfl,AV.le_refl _⟩,Q0g (by simp[leH,hget])⟩
theorem Z0q(snd:Int)(ph:List Ph)(cs:List PV)(R:Ph→Nat→Ev→Int)(hl:ph.length≤1000)(hp:∀p∈ph,p.tr.length≤1000)
 (hRu:∀p∈ph,∀(j:Nat) (e:Ev),p.tr[j]? = some e→Fn Tryz.prog 68 [.ep (.v (.int .u64 snd) :: .sl false 4 ph.length (ph.flatMap Ph.pv)::cs),phA p,vi .i64 j] [] (vi .i64 (R p j e)) []) :
 Fn Tryz.prog 60 [.fn 94 [.ptr 1001 0]] [(1001,[.ep (.v (.int .u64 snd) :: .sl false 4 ph.length (ph.flatMap Ph.pv)::cs)])] (bks false (brkG R ph 0)) []:=by
 have h0:=Z0x snd ph cs R hl hp hRu
 generalize (.v (.int .u64 snd) :: .sl false 4 ph.length (ph.flatMap Ph.pv)::cs)=ks at h0 ⊢
 generalize brkG R ph 0=res at h0 ⊢
 have h1:=h0.frzG
 have h:Fn Tryz.prog 93 [nilA,.fn 94 [.ptr 1001 0]] [(1001,[.ep ks])] (bks false res) []:=by
  simpa [AV.frz,AV.frzL,Q0s X1m] using h1
 clear h0 h1 hRu
 (refine Q0t Tryz.func60 rfl (by rfl) ?_;simp only[Tryz.ntmps60,List.length_cons,List.length_nil,Nat.reduceAdd,Nat.reduceSub,List.replicate,List.cons_append,List.nil_append])
 (repeat(any_goals(first|((with_reducible refine Q0l ?_ ?_ ?_);rfl;rfl;intro K hK;(apply Q1c (h) (fun r=>r);rfl;rfl;rfl;rfl;exact Tryz.func93;kernel_rfl;rfl;rfl;(intro r hr q hq h;simp only[List.map_cons,List.map_nil,List.cons_append,List.nil_append,List.mem_cons,List.not_mem_nil,or_false] at hr hq;(try dsimp only at h);first|omega);(simp only[Q1d,Q1x,AV.ren,AV.renL,Q0r,List.mem_cons,List.not_mem_nil,forall_eq_or_imp,forall_eq,Q1r,List.contains_cons,List.contains_nil,AV.refsL,AV.refs,Q0o,AV.inN,AV.inNL,inH,Q0v,go_sem]));(simp only[Q0u,Q1m,renH,AV.ren,AV.renL,Q0r,go_sem];refine hK _ ?_;clear hK K))|((with_reducible refine Q0b ?_ ?_);rfl;intro K hK;simp only[go_sem];((repeat(refine ndI (by first|assumption) ?_));refine hK _ ?_;clear hK K))|(with_reducible first|(refine Q0c ?_;refine hR _ ?_;clear hR R)|((first|refine Q0e ?_);intro J hJ hJ')|(refine Q0a ?_;intro R hR)|(refine hJ _ ?_;clear hJ hJ' J)|refine Q0j ?_))))
 all_goals(refine⟨by simp,⟨_,?_,AV.le_refl _⟩,Q0g (by simp[leH,hget])⟩;simp only[Tryz.results60,resL,ldA,Q0m,go_sem])
abbrev ktL(c:Cs):List PV:=[.v (.int .u64 c.snd),.sl false 4 c.ph.length (c.ph.flatMap Ph.pv),.sl false 1 c.cd.length (c.cd.flatMap apv),.v (.bool (ofM c)),.v (.bool (ofF c))]
def Q6p(c:Cs):List Bk:=if Q2z c=true then brkC c else[]
theorem broken_fn(c:Cs)(hc:c.ok):Fn Tryz.prog 22 [csA c] [] (bks false (Q6p c)) []:=by
 unfold Q6p
 cases hr:Q2z c with
 |false=>
  have h:=X3e c hc hr
  change Fn _ _ [.agg [vi .u64 c.snd,phs false c.ph,asl false c.cd]] _ _ _ at h
  rw[if_neg (by simp)]
  clear hr hc
  (refine Q0t Tryz.func22 rfl (by rfl) ?_;simp only[Tryz.ntmps22,List.length_cons,List.length_nil,Nat.reduceAdd,Nat.reduceSub,List.replicate,List.cons_append,List.nil_append])
  (repeat(any_goals(first|((with_reducible refine Q2n ?_ ?_);rfl;intro K hK;(first|(apply X2b;rfl;rfl;kernel_rfl;rfl));(simp only[go_sem];refine hK _ ?_;clear hK K))|((with_reducible refine Q0l ?_ ?_ ?_);rfl;rfl;intro K hK;((apply Q0i (h);rfl;rfl;rfl;rfl;exact Tryz.func43);kernel_rfl;rfl;(focus((simp only[go_sem]);(try rfl);done));(first|rfl));(simp only[go_sem];refine hK _ ?_;clear hK K))|((with_reducible refine Q0b ?_ ?_);rfl;intro K hK;simp only[go_sem];((repeat(refine ndI (by first|assumption) ?_));refine hK _ ?_;clear hK K))|(with_reducible first|(refine Q0c ?_;refine hR _ ?_;clear hR R)|((first|refine Q0e ?_);intro J hJ hJ')|(refine Q0a ?_;intro R hR)|(refine hJ _ ?_;clear hJ hJ' J)|refine Q0j ?_)|((with_reducible refine hJ' _ _ ?_ ?_);(focus(simp;done));clear hJ hJ' J)|((with_reducible apply Q0d);rfl;rfl;all_goals(intro hc;first|(cases hc;done)|(try simp only at hc))))))
  all_goals exact⟨by simp,⟨_,rfl,AV.le_nil false 3⟩,Q0g (by simp[leH,hget])⟩
 |true=>
  rw[if_pos rfl]
  have h:=Q5z c hc hr
  change Fn _ _ [.agg [vi .u64 c.snd,phs false c.ph,asl false c.cd]] _ _ _ at h
  have co:=Z0q c.snd c.ph [.sl false 1 c.cd.length (c.cd.flatMap apv),.v (.bool (ofM c)),.v (.bool (ofF c))] (Q5l c) hc.2.1.1 (fun p hp=>(hc.2.1.2 p hp).2.1) fun p hp j e he=>X5y c hc (X0d hr) p (hc.2.1.2 p hp) j e he
  unfold brkC
  generalize brkG (Q5l c) c.ph 0=res at co ⊢
  have br:=X5p (ktL c)
  change Fn _ _ _ _ (.ep (ktL c)) _ at h
  change Fn _ _ _ [(1001,[.ep (ktL c)])] _ _ at co
  generalize ktL c=ks at h co br
  clear hr hc
  (refine Q0t Tryz.func22 rfl (by rfl) ?_;simp only[Tryz.ntmps22,List.length_cons,List.length_nil,Nat.reduceAdd,Nat.reduceSub,List.replicate,List.cons_append,List.nil_append])
  (repeat(any_goals(first|((with_reducible refine Q2n ?_ ?_);rfl;intro K hK;(first|(apply Q3f;rfl;rfl;kernel_rfl;rfl));(simp only[go_sem];refine hK _ ?_;clear hK K))|((with_reducible refine Q0l ?_ ?_ ?_);rfl;rfl;intro K hK;(first|((apply Q0i (h);rfl;rfl;rfl;rfl;exact Tryz.func43);kernel_rfl;rfl;(focus((simp only[go_sem]);(try rfl);done));(first|rfl))|(apply Q1c (br) (fun r=>r+99);rfl;rfl;rfl;rfl;exact Tryz.func61;kernel_rfl;rfl;rfl;(intro r hr q hq h;simp only[List.map_cons,List.map_nil,List.cons_append,List.nil_append,List.mem_cons,List.not_mem_nil,or_false] at hr hq;(try dsimp only at h);first|omega);(simp only[Q1d,Q1x,AV.ren,AV.renL,Q0r,List.mem_cons,List.not_mem_nil,forall_eq_or_imp,forall_eq,Q1r,List.contains_cons,List.contains_nil,AV.refsL,AV.refs,Q0o,AV.inN,AV.inNL,inH,Q0v,go_sem]))|(apply Q1c (co) (fun r=>if r=1001 then 100 else r);rfl;rfl;rfl;rfl;exact Tryz.func60;kernel_rfl;rfl;rfl;(intro r hr q hq h;simp only[List.map_cons,List.map_nil,List.cons_append,List.nil_append,List.mem_cons,List.not_mem_nil,or_false] at hr hq;(try dsimp only at h);first|omega);(simp only[Q1d,Q1x,AV.ren,AV.renL,Q0r,List.mem_cons,List.not_mem_nil,forall_eq_or_imp,forall_eq,Q1r,List.contains_cons,List.contains_nil,AV.refsL,AV.refs,Q0o,AV.inN,AV.inNL,inH,Q0v,go_sem])));(simp only[Q0u,Q1m,renH,AV.ren,AV.renL,Q0r,go_sem];refine hK _ ?_;clear hK K))|((with_reducible refine Q0b ?_ ?_);rfl;intro K hK;simp only[go_sem];((repeat(refine ndI (by first|assumption) ?_));refine hK _ ?_;clear hK K))|(with_reducible first|(refine Q0c ?_;refine hR _ ?_;clear hR R)|((first|refine Q0e ?_);intro J hJ hJ')|(refine Q0a ?_;intro R hR)|(refine hJ _ ?_;clear hJ hJ' J)|refine Q0h ?_|refine Q0j ?_)|((with_reducible apply Q0d);rfl;rfl;all_goals(intro hc;first|(cases hc;done)|(try simp only at hc))))))
  all_goals(refine⟨by simp,⟨_,?_,AV.le_refl _⟩,Q0g (by simp[leH,hget])⟩;simp only[Tryz.results22,resL,ldA,Q0m,go_sem])
end
end Go.Proofs.YtgdjkkapgghdbaaGreatDoor
