/-
  What goes over the events of some kinds, whatever is taken of them; bases; what is associated. Reckoned.
-/
import Derived.Test.YtgdjkkapgghdbaaGreatDoorTrc
import Derived.Test.YtgdjkkapgghdbaaGreatDoorAvF
import Derived.Test.YtgdjkkapgghdbaaGreatDoorYm
import Derived.Calls
import Derived.Sort.Grow
import Derived.Sort.Row
import Derived.Deep.Draws
import Derived.Test.YtgdjkkapgghdbaaGreatDoorAvO
namespace Go.Proofs.YtgdjkkapgghdbaaGreatDoor
set_option linter.unusedSimpArgs false
set_option linter.unusedVariables false
section
open Go.RowKit
attribute [-go_sem] IntKind.bits
set_option maxRecDepth 20000
set_option maxHeartbeats 2000000
def Q7r(W:List UInt64):Nat:=(W.getD 0 0).toNat+18446744073709551616*((W.getD 1 0).toNat+18446744073709551616*((W.getD 2 0).toNat+18446744073709551616*(W.getD 3 0).toNat))
theorem lanesN_lt(W:List UInt64):Q7r W<WW:=by
 have h0:=(W.getD 0 0).toNat_lt
 have h1:=(W.getD 1 0).toNat_lt
 have h2:=(W.getD 2 0).toNat_lt
 have h3:=(W.getD 3 0).toNat_lt
 unfold Q7r
 show _<115792089237316195423570985008687907853269984665640564039457584007913129639936
 omega
theorem lanesN_eq{W:List UInt64}(h:W.length=4):wN (Q7r W)=lnA W:=by
 obtain⟨a,b,c,d,rfl⟩:∃a b c d,W=[a,b,c,d]:=by
  match W,h with
  |[a,b,c,d],_=>exact⟨a,b,c,d,rfl⟩
 obtain⟨e0,e1,e2,e3⟩:=Q9g (n:=Q7r [a,b,c,d]) (s0:=a.toNat) (s1:=b.toNat) (s2:=c.toNat) (s3:=d.toNat) rfl a.toNat_lt b.toNat_lt c.toNat_lt d.toNat_lt
 show w4 (l0 (Q7r [a,b,c,d])) (l1 (Q7r [a,b,c,d])) (l2 (Q7r [a,b,c,d])) (l3 (Q7r [a,b,c,d]))=_
 rw[e0,e1,e2,e3]
 rfl
def dgN(l:List Nat):Nat:=Q7r (digW l)
theorem dgN_lt(l:List Nat):dgN l<WW:=lanesN_lt _
theorem adig_fn(ex:Bool)(l:List Nat)(hl:l.length≤1000)(hb:∀b∈l,b<256):Fn Tryz.prog 159 [bsl ex l] [] (wN (dgN l)) []:=by
 have h:=dig_fn ex l hl hb
 rw[←lanesN_eq (digW_len l)] at h
 exact h
def Ev.ok(e:Ev):Prop:=e.key<WW∧e.val<WW∧e.data.length≤1000∧(∀b∈e.data,b<256)∧U e.self∧U e.to
def Z1g(e:Ev):Bool:=decide (e.to=0∧e.key=0∧e.val=0∧e.data=[])
def Q3d(e:Ev):Bool:=
 !(decide (e.dep<0)||decide (e.dep≥6)||(e.self==0)) &&
 (if e.kind=1 then decide (e.data.length=64∧e.val=dgN e.data)&&decide (e.to=0∧e.op=0∧e.key=0)
  else if e.kind=2∨e.kind=3 then decide (e.to=0∧e.op=0∧e.val=0∧e.data=[])
  else if e.kind=4 then(X1a e.op&&decide (e.data.length≤1))&&decide (e.key=0)
  else if e.kind=5 then X4o e.op&&Z1g e
  else if e.kind=6 then Z1g e
  else false)
theorem le_c14{k d s t o a0 a1 a2 a3 v0 v1 v2 v3:Int}{x y:AV}(h:x.le y):(AV.agg (c14 k d s t o a0 a1 a2 a3 v0 v1 v2 v3 x)).le (.agg (c14 k d s t o a0 a1 a2 a3 v0 v1 v2 v3 y)):=
 AV.le_agg ⟨AV.le_refl _,AV.le_refl _,AV.le_refl _,AV.le_refl _,AV.le_refl _,AV.le_refl _,AV.le_refl _,AV.le_refl _,AV.le_refl _,AV.le_refl _,AV.le_refl _,AV.le_refl _,AV.le_refl _,h,trivial⟩
theorem Q9h(k d s t o a0 a1 a2 a3 v0 v1 v2 v3:Int)(x:List Nat)(hx:x.length≤1000)(b4 b5 b6 b7:Bool)(h4:(t==0)=b4)(h5:(o==0)=b5)(h6:(a0==0&&(a1==0&&(a2==0&&a3==0)))=b6)(h7:(v0==0&&(v1==0&&(v2==0&&v3==0)))=b7) :
 Fn Tryz.prog 91 [.agg (c14 k d s t o a0 a1 a2 a3 v0 v1 v2 v3 (bsl false x)),.agg (c14 k d s 0 0 0 0 0 0 0 0 0 0 nilA)] [] (vb (b4&&b5&&b6&&b7&&decide (x=[]))) []:=by
 have h:=same_fnE k d s t o a0 a1 a2 a3 v0 v1 v2 v3 k d s 0 0 0 0 0 0 0 0 0 0 false x [] true true true b4 b5 b6 b7 (decide (x=[])) (by simp) (by simp) (by simp) h4 h5 h6 h7 (beq_fn false false x [] (by omega))
 simp only[Bool.true_and] at h
 exact h.args ⟨AV.le_refl _,le_c14 (AV.le_nil false 1),trivial⟩
theorem X8v(k d s t o a0 a1 a2 a3 v0 v1 v2 v3:Int)(b4 b5 b6 b7:Bool)(h4:(t==0)=b4)(h5:(o==0)=b5)(h6:(a0==0&&(a1==0&&(a2==0&&a3==0)))=b6)(h7:(v0==0&&(v1==0&&(v2==0&&v3==0)))=b7) :
 Fn Tryz.prog 91 [.agg (c14 k d s t o a0 a1 a2 a3 v0 v1 v2 v3 nilA),.agg (c14 k d s 0 0 0 0 0 0 0 0 0 0 nilA)] [] (vb (b4&&b5&&b6&&b7)) []:=by
 have h:=Q9h k d s t o a0 a1 a2 a3 v0 v1 v2 v3 [] (by simp) b4 b5 b6 b7 h4 h5 h6 h7
 rw[decide_eq_true rfl,Bool.and_true] at h
 exact h.args ⟨le_c14 (AV.le_nil false 1),AV.le_refl _,trivial⟩
theorem z4{x:Nat}(hx:x<WW):(l0 x==0&&(l1 x==0&&(l2 x==0&&l3 x==0)))=decide (x=0):=wN_eq (y:=0) hx (by decide)
theorem nz(x:Nat):((x:Int)==0)=decide (x=0):=by rw[Bool.eq_iff_iff];simp
theorem bz(x:Int):(x==0)=decide (x=0):=by rw[Bool.eq_iff_iff];simp
theorem c14_no(k d s t o a0 a1 a2 a3 v0 v1 v2 v3:Int){x:AV}(h:AV.inN [] x=true):AV.inNL [] (c14 k d s t o a0 a1 a2 a3 v0 v1 v2 v3 x)=true:=by simp[AV.inNL,AV.inN,h]
theorem X9r(k d s t o a0 a1 a2 a3 v0 v1 v2 v3:Int){x:AV}(h:∀r,AV.refs r x=false)(r:Nat):AV.refsL r (c14 k d s t o a0 a1 a2 a3 v0 v1 v2 v3 x)=false:=by simp[AV.refsL,AV.refs,h]
theorem bsl_hm(ex:Bool)(l:List Nat):AV.hasMp (bsl ex l)=false:=by
 show PV.hasMpL (l.flatMap bpv)=false
 exact X7c bpv (fun _=>rfl) l
theorem right_fn(e:Ev)(he:e.ok):Fn Tryz.prog 85 [evA e] [] (vb (Q3d e)) []:=by
 obtain⟨hk,hv,hl,hb,hs,ht⟩:=he
 by_cases hg:(decide (e.dep<0)||decide (e.dep≥6)||(e.self==0))=true
 · have h:=right_out e.kind e.dep e.self e.to (e.op:Int) (l0 e.key) (l1 e.key) (l2 e.key) (l3 e.key) (l0 e.val) (l1 e.val) (l2 e.val) (l3 e.val) (bsl false e.data) _ _ _ rfl rfl rfl hg (fun _=>rfl)
   rw[show Q3d e=false by unfold Q3d;rw[hg];rfl]
   exact h
 · have hg':(decide (e.dep<0)||decide (e.dep≥6)||(e.self==0))=false:=by simpa using hg
   have hg2:=hg'
   rw[Bool.or_eq_false_iff,Bool.or_eq_false_iff] at hg2
   obtain⟨⟨g1,g2⟩,g3⟩:=hg2
   have er:∀r,Q3d e=r↔(if e.kind=1 then decide (e.data.length=64∧e.val=dgN e.data)&&decide (e.to=0∧e.op=0∧e.key=0)
  else if e.kind=2∨e.kind=3 then decide (e.to=0∧e.op=0∧e.val=0∧e.data=[])
  else if e.kind=4 then(X1a e.op&&decide (e.data.length≤1))&&decide (e.key=0)
  else if e.kind=5 then X4o e.op&&Z1g e
  else if e.kind=6 then Z1g e
  else false)=r:=fun r=>by unfold Q3d;rw[hg'];simp
   have N:=fun (k d s t o a0 a1 a2 a3 v0 v1 v2 v3:Int)=>c14_no k d s t o a0 a1 a2 a3 v0 v1 v2 v3 (x:=nilA) rfl
   have M:=fun (k d s t o a0 a1 a2 a3 v0 v1 v2 v3:Int)=>c14_no k d s t o a0 a1 a2 a3 v0 v1 v2 v3 (x:=bsl false e.data) rfl
   have RN:=fun (k d s t o a0 a1 a2 a3 v0 v1 v2 v3:Int)=>X9r k d s t o a0 a1 a2 a3 v0 v1 v2 v3 (x:=nilA) fun _=>rfl
   have RM:=fun (k d s t o a0 a1 a2 a3 v0 v1 v2 v3:Int)=>X9r k d s t o a0 a1 a2 a3 v0 v1 v2 v3 (x:=bsl false e.data) fun _=>rfl
   have HM:=bsl_hm false e.data
   by_cases k1:e.kind=1
   · have sm:=X8v e.kind e.dep e.self e.to (e.op:Int) (l0 e.key) (l1 e.key) (l2 e.key) (l3 e.key) 0 0 0 0 _ _ _ _ (bz _) (nz _) (z4 hk) rfl
     have hj:Q5d e.kind [1,2,3,4,5,6] 0=some 0:=by rw[k1];rfl
     have hr:Q3d e=(decide (e.data.length=64∧e.val=dgN e.data)&&(decide (e.to=0)&&decide (e.op=0)&&decide (e.key=0)&&true)):=by
      rw[er,if_pos k1];congr 1;simp[Bool.and_assoc]
     rw[hr]
     by_cases h64:e.data.length=64
     · have hF:=hash_yes e.kind e.dep e.self e.to (e.op:Int) (l0 e.key) (l1 e.key) (l2 e.key) (l3 e.key) (l0 e.val) (l1 e.val) (l2 e.val) (l3 e.val) e.data _ _ _ _ _ h64 (adig_fn false e.data hl hb) rfl
       rw[wN_eq hv (dgN_lt _)] at hF
       rw[show decide (e.data.length=64∧e.val=dgN e.data)=decide (e.val=dgN e.data) by simp[h64]]
       exact Q3i _ _ _ _ _ _ _ _ _ _ _ _ _ _ _ _ _ g1 g2 g3 hj rfl Tryz.func135 (by kernel_rfl) rfl rfl (fun _=>rfl) HM (N _ _ _ _ _ _ _ _ _ _ _ _ _) rfl (RN _ _ _ _ _ _ _ _ _ _ _ _ _) hF sm
     · have hF:=hash_no e.kind e.dep e.self e.to (e.op:Int) (l0 e.key) (l1 e.key) (l2 e.key) (l3 e.key) (l0 e.val) (l1 e.val) (l2 e.val) (l3 e.val) e.data h64
       rw[show decide (e.data.length=64∧e.val=dgN e.data)=false by simp[h64]]
       exact Q3i _ _ _ _ _ _ _ _ _ _ _ _ _ _ _ _ _ g1 g2 g3 hj rfl Tryz.func135 (by kernel_rfl) rfl rfl (fun _=>rfl) HM (N _ _ _ _ _ _ _ _ _ _ _ _ _) rfl (RN _ _ _ _ _ _ _ _ _ _ _ _ _) hF sm
   by_cases k2:e.kind=2∨e.kind=3
   · have sm:=Q9h e.kind e.dep e.self e.to (e.op:Int) 0 0 0 0 (l0 e.val) (l1 e.val) (l2 e.val) (l3 e.val) e.data hl _ _ _ _ (bz _) (nz _) rfl (z4 hv)
     have hr:Q3d e=(true&&(decide (e.to=0)&&decide (e.op=0)&&true&&decide (e.val=0)&&decide (e.data=[]))):=by
      rw[er,if_neg k1,if_pos k2];simp[Bool.and_assoc]
     rw[hr]
     have hF:=slot_fn e.kind e.dep e.self e.to (e.op:Int) (l0 e.key) (l1 e.key) (l2 e.key) (l3 e.key) (l0 e.val) (l1 e.val) (l2 e.val) (l3 e.val) (bsl false e.data) rfl
     rcases k2 with k2|k2
     · have hj:Q5d e.kind [1,2,3,4,5,6] 0=some 1:=by rw[k2];rfl
       exact Q3i _ _ _ _ _ _ _ _ _ _ _ _ _ _ _ _ _ g1 g2 g3 hj rfl Tryz.func136 (by kernel_rfl) rfl rfl (fun _=>rfl) HM (M _ _ _ _ _ _ _ _ _ _ _ _ _) rfl (RM _ _ _ _ _ _ _ _ _ _ _ _ _) hF sm
     · have hj:Q5d e.kind [1,2,3,4,5,6] 0=some 2:=by rw[k2];rfl
       exact Q3i _ _ _ _ _ _ _ _ _ _ _ _ _ _ _ _ _ g1 g2 g3 hj rfl Tryz.func136 (by kernel_rfl) rfl rfl (fun _=>rfl) HM (M _ _ _ _ _ _ _ _ _ _ _ _ _) rfl (RM _ _ _ _ _ _ _ _ _ _ _ _ _) hF sm
   by_cases k4:e.kind=4
   · have sm:=X8v e.kind e.dep e.self 0 0 (l0 e.key) (l1 e.key) (l2 e.key) (l3 e.key) 0 0 0 0 _ _ _ _ rfl rfl (z4 hk) rfl
     have hj:Q5d e.kind [1,2,3,4,5,6] 0=some 3:=by rw[k4];rfl
     have hr:Q3d e=((X1a e.op&&decide ((e.data.length:Int)≤1))&&(true&&true&&decide (e.key=0)&&true)):=by
      rw[er,if_neg k1,if_neg k2,if_pos k4]
      rw[show decide ((e.data.length:Int)≤1)=decide (e.data.length≤1) by rw[decide_eq_decide];omega]
      simp
     rw[hr]
     have hF:=acall_fn e.kind e.dep e.self e.to (l0 e.key) (l1 e.key) (l2 e.key) (l3 e.key) (l0 e.val) (l1 e.val) (l2 e.val) (l3 e.val) e.op e.data _ _ rfl rfl
     exact Q3i _ _ _ _ _ _ _ _ _ _ _ _ _ _ _ _ _ g1 g2 g3 hj rfl Tryz.func137 (by kernel_rfl) rfl rfl (fun _=>rfl) HM (N _ _ _ _ _ _ _ _ _ _ _ _ _) rfl (RN _ _ _ _ _ _ _ _ _ _ _ _ _) hF sm
   by_cases k5:e.kind=5
   · have sm:=Q9h e.kind e.dep e.self e.to 0 (l0 e.key) (l1 e.key) (l2 e.key) (l3 e.key) (l0 e.val) (l1 e.val) (l2 e.val) (l3 e.val) e.data hl _ _ _ _ (bz _) rfl (z4 hk) (z4 hv)
     have hj:Q5d e.kind [1,2,3,4,5,6] 0=some 4:=by rw[k5];rfl
     have hr:Q3d e=(X4o e.op&&(decide (e.to=0)&&true&&decide (e.key=0)&&decide (e.val=0)&&decide (e.data=[]))):=by
      rw[er,if_neg k1,if_neg k2,if_neg k4,if_pos k5];unfold Z1g;simp[Bool.and_assoc]
     rw[hr]
     have hF:=aop_fn e.kind e.dep e.self e.to (l0 e.key) (l1 e.key) (l2 e.key) (l3 e.key) (l0 e.val) (l1 e.val) (l2 e.val) (l3 e.val) e.op (bsl false e.data)
     exact Q3i _ _ _ _ _ _ _ _ _ _ _ _ _ _ _ _ _ g1 g2 g3 hj rfl Tryz.func138 (by kernel_rfl) rfl rfl (fun _=>rfl) HM (M _ _ _ _ _ _ _ _ _ _ _ _ _) rfl (RM _ _ _ _ _ _ _ _ _ _ _ _ _) hF sm
   by_cases k6:e.kind=6
   · have sm:=Q9h e.kind e.dep e.self e.to 0 (l0 e.key) (l1 e.key) (l2 e.key) (l3 e.key) (l0 e.val) (l1 e.val) (l2 e.val) (l3 e.val) e.data hl _ _ _ _ (bz _) rfl (z4 hk) (z4 hv)
     have hj:Q5d e.kind [1,2,3,4,5,6] 0=some 5:=by rw[k6];rfl
     have hr:Q3d e=(true&&(decide (e.to=0)&&true&&decide (e.key=0)&&decide (e.val=0)&&decide (e.data=[]))):=by
      rw[er,if_neg k1,if_neg k2,if_neg k4,if_neg k5,if_pos k6];unfold Z1g;simp[Bool.and_assoc]
     rw[hr]
     have hF:=gas_fn e.kind e.dep e.self e.to (e.op:Int) (l0 e.key) (l1 e.key) (l2 e.key) (l3 e.key) (l0 e.val) (l1 e.val) (l2 e.val) (l3 e.val) (bsl false e.data)
     exact Q3i _ _ _ _ _ _ _ _ _ _ _ _ _ _ _ _ _ g1 g2 g3 hj rfl Tryz.func139 (by kernel_rfl) rfl rfl (fun _=>rfl) HM (M _ _ _ _ _ _ _ _ _ _ _ _ _) rfl (RM _ _ _ _ _ _ _ _ _ _ _ _ _) hF sm
   · have hj:Q5d e.kind [1,2,3,4,5,6] 0=none:=by
      simp only[Q5d]
      rw[if_neg k1,if_neg (by omega),if_neg (by omega),if_neg k4,if_neg k5,if_neg k6]
     rw[(er false).2 (by rw[if_neg k1,if_neg k2,if_neg k4,if_neg k5,if_neg k6])]
     exact Z0j _ _ _ _ _ _ _ _ _ _ _ _ _ _ g1 g2 g3 hj rfl (fun _=>rfl) HM
end
section
open Go.RowKit
open Nat (reduceBEq)
attribute [-go_sem] IntKind.bits
set_option maxRecDepth 20000
set_option maxHeartbeats 2000000
def idxF{α : Type}(p:α→Bool):List α→Nat→Int
 |[],_=>-1
 |y::l,i=>if p y=true then(i:Int) else idxF p l (i+1)
theorem Q6z{α : Type}(p:α→Bool):∀(l:List α) (i:Nat),decide (idxF p l i≥0)=l.any p
 |[],i=>by simp[idxF]
 |y::l,i=>by
  unfold idxF
  cases h:p y
  · rw[if_neg (by simp),Q6z p l (i+1)]
    simp[h]
  · rw[if_pos rfl]
    simp[h]
def Ev.pv(e:Ev):List PV:=[.v (.int .i64 e.kind),.v (.int .i64 e.dep),.v (.int .u64 e.self),.v (.int .u64 e.to),.v (.int .u8 (e.op:Int)),.v (.int .u64 (l0 e.key)),.v (.int .u64 (l1 e.key)),.v (.int .u64 (l2 e.key)),.v (.int .u64 (l3 e.key)),.v (.int .u64 (l0 e.val)),.v (.int .u64 (l1 e.val)),.v (.int .u64 (l2 e.val)),.v (.int .u64 (l3 e.val)),.sl false 1 e.data.length (e.data.flatMap bpv)]
theorem Q7x(e:Ev):e.pv.length=14:=rfl
abbrev evs(ex:Bool)(l:List Ev):AV:=.c (.sl ex 14 l.length (l.flatMap Ev.pv))
theorem ev_at{l:List Ev}{i:Nat}{e:Ev}(h:l[i]? = some e):((l.flatMap Ev.pv).drop (i*14)).take 14=[.v (.int .i64 e.kind),.v (.int .i64 e.dep),.v (.int .u64 e.self),.v (.int .u64 e.to),.v (.int .u8 (e.op:Int)),.v (.int .u64 (l0 e.key)),.v (.int .u64 (l1 e.key)),.v (.int .u64 (l2 e.key)),.v (.int .u64 (l3 e.key)),.v (.int .u64 (l0 e.val)),.v (.int .u64 (l1 e.val)),.v (.int .u64 (l2 e.val)),.v (.int .u64 (l3 e.val)),.sl false 1 e.data.length (e.data.flatMap bpv)]:=Q4s (f:=Ev.pv) Q7x h
theorem idxE_fn (ex:Bool) (l:List Ev) (p:Ev→Bool) {g:FuncId} {fn:Func} {caps:List AV} (hl:l.length≤1000000) (hgf:Tryz.prog.funcs[g]? = some fn) (hgn:(fn.name == "runtime.NumGoroutine")=false) (hgb:fn.body.isNone=false) (hcap:AV.inNL [] caps=true) (hp:∀x∈l,Fn Tryz.prog g (evA x::caps) [] (vb (p x)) []) :
 Fn Tryz.prog 134 [.c (.sl ex 14 l.length (l.flatMap Ev.pv)),.fn g caps] [] (vi .i64 (idxF p l 0)) []:=by
 obtain⟨r,hr⟩:∃r,idxF p l 0=r:=⟨_,rfl⟩
 rw[hr]
 (refine Q0v Tryz.func134 rfl (by rfl) ?_;simp only[Tryz.ntmps134,List.length_cons,List.length_nil,Nat.reduceAdd,Nat.reduceSub,List.replicate,List.cons_append,List.nil_append])
 (repeat(any_goals(first|((with_reducible refine Q0b ?_ ?_);rfl;intro K hK;simp only[go_sem];((repeat(refine ndI (by first|assumption) ?_));refine hK _ ?_;clear hK K))|(with_reducible first|(refine Q0c ?_;refine hR _ ?_;clear hR R)|((first|refine Q0d ?_|refine Q0g ?_);intro J hJ hJ')|(refine Q0a ?_;intro R hR)|(refine hJ _ ?_;clear hJ hJ' J)))))
 refine Q1t (α:={i:Nat // i≤l.length∧idxF p (l.drop i) i=r}) (fun q=>⟨[.c (.sl ex 14 l.length (l.flatMap Ev.pv)),.fn g caps,.any,.any,.any,.any,.any,vi .i64 l.length,vi .i64 (q.1:Int),.any,.any,.any,.any,.any,.any,.any,.any,.any,.any],[]⟩) (fun q=>l.length-q.1) ⟨0,Nat.zero_le _,hr⟩ (St.le_of (by simp[leT]) (by simp[leH])) ?_
 rintro ⟨i,hi,hd⟩ J hJ hJ'
 (try dsimp only at hJ ⊢)
 rcases Nat.lt_or_ge i l.length with hlt|hge
 · obtain⟨y,hy⟩:∃y,l[i]? = some y:=⟨_,List.getElem?_eq_getElem hlt⟩
   have k1:(decide ((i:Int)<(l.length:Int)))=true:=by simp;omega
   have k2:=ev_at hy
   have k7:(i:Int)+1=((i+1:Nat):Int):=by omega
   have hdr:l.drop i=y::l.drop (i+1):=by
    rw[List.drop_eq_getElem_cons hlt]
    rw[List.getElem?_eq_getElem hlt] at hy
    rw[Option.some.inj hy]
   have hp1:=hp y (List.mem_of_getElem? hy)
   rw[hdr] at hd
   unfold idxF at hd
   cases hxy:p y
   · rw[hxy] at hp1 hd
     rw[if_neg (by simp)] at hd
     have hJ1:=fun σ'=>hJ σ' ⟨i+1,hlt,hd⟩ (by dsimp only;omega)
     dsimp only at hJ1
     (have W:=ndI k1 (ndI k2 (ndI k7 @wrI));(repeat(any_goals(first|((with_reducible refine Q0n ?_ ?_ ?_);rfl;rfl;intro K hK;(apply Q0j (hp1);rfl;rfl;rfl;rfl;exact hgf;exact hgn;exact hgb;(focus((simp(disch:=omega) only[go_sem,W,Nat.mul_one]);(try rfl);done));(first|simp[AV.inNL,AV.inN,hcap]));(simp(disch:=omega) only[go_sem,W,Nat.mul_one];refine hK _ ?_;clear hK K))|((with_reducible refine Q0b ?_ ?_);rfl;intro K hK;simp(disch:=omega) only[go_sem,W,Nat.mul_one];((repeat(refine ndI (by first|assumption|omega|rfl) ?_));refine hK _ ?_;clear hK K))|(with_reducible first|(refine Q0c ?_;refine hR _ ?_;clear hR R)|((first|refine Q0d ?_|refine Q0g ?_);intro J hJ hJ')|(refine Q0a ?_;intro R hR)|(refine hJ _ ?_;clear hJ hJ' J)|refine Q0i ?_)|((with_reducible refine hJ' _ _ ?_ ?_);(focus(simp;done));clear hJ hJ' J)|((with_reducible apply Q0e);rfl;rfl;all_goals(intro hc;first|(cases hc;done)|(try simp only at hc)))))))
     all_goals exact hJ1 _ (St.le_of (by simp[leT]) (by simp[leH]))
   · rw[hxy] at hp1 hd
     rw[if_pos rfl] at hd
     (have W:=ndI k1 (ndI k2 (ndI k7 @wrI));(repeat(any_goals(first|((with_reducible refine Q0n ?_ ?_ ?_);rfl;rfl;intro K hK;(apply Q0j (hp1);rfl;rfl;rfl;rfl;exact hgf;exact hgn;exact hgb;(focus((simp(disch:=omega) only[go_sem,W,Nat.mul_one]);(try rfl);done));(first|simp[AV.inNL,AV.inN,hcap]));(simp(disch:=omega) only[go_sem,W,Nat.mul_one];refine hK _ ?_;clear hK K))|((with_reducible refine Q0b ?_ ?_);rfl;intro K hK;simp(disch:=omega) only[go_sem,W,Nat.mul_one];((repeat(refine ndI (by first|assumption|omega|rfl) ?_));refine hK _ ?_;clear hK K))|(with_reducible first|(refine Q0c ?_;refine hR _ ?_;clear hR R)|((first|refine Q0d ?_|refine Q0g ?_);intro J hJ hJ')|(refine Q0a ?_;intro R hR)|(refine hJ _ ?_;clear hJ hJ' J)|refine Q0i ?_|refine Q0k ?_)|((with_reducible refine hJ' _ _ ?_ ?_);(focus(simp;done));clear hJ hJ' J)|((with_reducible apply Q0e);rfl;rfl;all_goals(intro hc;first|(cases hc;done)|(try simp only at hc)))))))
     all_goals rw[←hd]
     all_goals(refine⟨by simp,⟨_,?_,AV.le_refl _⟩,Q0h (by simp[leH,hget])⟩;simp only[Tryz.results134,resL,ldA,Q0q,go_sem])
 · have k1:(decide ((i:Int)<(l.length:Int)))=false:=by simp;omega
   rw[List.drop_eq_nil_of_le hge] at hd
   have hd:r = -1:=hd.symm
   (repeat(any_goals(first|((with_reducible refine Q0b ?_ ?_);rfl;intro K hK;simp only[go_sem,k1];((repeat(refine ndI (by first|assumption) ?_));refine hK _ ?_;clear hK K))|(with_reducible first|(refine Q0c ?_;refine hR _ ?_;clear hR R)|((first|refine Q0d ?_);intro J hJ hJ')|(refine Q0a ?_;intro R hR)|(refine hJ _ ?_;clear hJ hJ' J)|refine Q0k ?_|refine Q0t ?_)|((with_reducible refine hJ' _ _ ?_ ?_);(focus(simp;done));clear hJ hJ' J)|((with_reducible apply Q0e);rfl;rfl;all_goals(intro hc;first|(cases hc;done)|(try simp only at hc))))))
   all_goals rw[hd]
   all_goals(refine⟨by simp,⟨_,?_,AV.le_refl _⟩,Q0h (by simp[leH,hget])⟩;simp only[Tryz.results134,resL,ldA,Q0q,go_sem])
theorem hasE_fn (ex:Bool) (l:List Ev) (p:Ev→Bool) {g:FuncId} {fn:Func} {caps:List AV} (hl:l.length≤1000000) (hgf:Tryz.prog.funcs[g]? = some fn) (hgn:(fn.name == "runtime.NumGoroutine")=false) (hgb:fn.body.isNone=false) (hcap:AV.inNL [] caps=true) (hp:∀x∈l,Fn Tryz.prog g (evA x::caps) [] (vb (p x)) []) :
 Fn Tryz.prog 83 [.c (.sl ex 14 l.length (l.flatMap Ev.pv)),.fn g caps] [] (vb (l.any p)) []:=by
 have h:=idxE_fn ex l p hl hgf hgn hgb hcap hp
 have e:=Q6z p l 0
 generalize idxF p l 0=r at h e
 rw[←e]
 (refine Q0v Tryz.func83 rfl (by rfl) ?_;simp only[Tryz.ntmps83,List.length_cons,List.length_nil,Nat.reduceAdd,Nat.reduceSub,List.replicate,List.cons_append,List.nil_append])
 (repeat(any_goals(first|((with_reducible refine Q0n ?_ ?_ ?_);rfl;rfl;intro K hK;((apply Q0j (h);rfl;rfl;rfl;rfl;exact Tryz.func134);kernel_rfl;rfl;(focus((simp only[go_sem]);(try rfl);done));(first|simp[AV.inNL,AV.inN,hcap]));(simp only[go_sem];refine hK _ ?_;clear hK K))|((with_reducible refine Q0b ?_ ?_);rfl;intro K hK;simp only[go_sem];((repeat(refine ndI (by first|assumption) ?_));refine hK _ ?_;clear hK K))|(with_reducible first|(refine Q0c ?_;refine hR _ ?_;clear hR R)|((first|refine Q0d ?_);intro J hJ hJ')|(refine Q0a ?_;intro R hR)|(refine hJ _ ?_;clear hJ hJ' J)|refine Q0k ?_))))
 all_goals(refine⟨by simp,⟨_,?_,AV.le_refl _⟩,Q0h (by simp[leH,hget])⟩;simp only[Tryz.results83,resL,ldA,Q0q,go_sem])
theorem chk1_fn(e:Ev)(he:e.ok):Fn Tryz.prog 84 [evA e] [] (vb (!Q3d e)) []:=by
 have h:=right_fn e he
 generalize Q3d e=b at h ⊢
 (refine Q0v Tryz.func84 rfl (by rfl) ?_;simp only[Tryz.ntmps84,List.length_cons,List.length_nil,Nat.reduceAdd,Nat.reduceSub,List.replicate,List.cons_append,List.nil_append])
 (repeat(any_goals(first|((with_reducible refine Q0n ?_ ?_ ?_);rfl;rfl;intro K hK;((apply Q0j (h);rfl;rfl;rfl;rfl;exact Tryz.func85);kernel_rfl;rfl;(focus((simp only[go_sem]);(try rfl);done));(first|rfl));(simp only[go_sem];refine hK _ ?_;clear hK K))|((with_reducible refine Q0b ?_ ?_);rfl;intro K hK;simp only[go_sem];((repeat(refine ndI (by first|assumption) ?_));refine hK _ ?_;clear hK K))|(with_reducible first|(refine Q0c ?_;refine hR _ ?_;clear hR R)|((first|refine Q0d ?_);intro J hJ hJ')|(refine Q0a ?_;intro R hR)|(refine hJ _ ?_;clear hJ hJ' J)|refine Q0k ?_))))
 all_goals(refine⟨by simp,⟨_,?_,AV.le_refl _⟩,Q0h (by simp[leH,hget])⟩;simp only[Tryz.results84,resL,ldA,Q0q,go_sem])
def trB(l:List Ev):Bool:=decide (l.length≤2000)&&l.all Q3d
theorem Q5i(ex:Bool)(l:List Ev)(hl:l.length≤1000000)(ho:∀e∈l,e.ok):Fn Tryz.prog 51 [evs ex l] [] (vi .i64 (if trB l then 0 else 270)) []:=by
 have h:=hasE_fn ex l (fun e=>!Q3d e) (caps:=[]) hl Tryz.func84 (by kernel_rfl) rfl rfl fun e he=>chk1_fn e (ho e he)
 have e2:l.any (fun e=>!Q3d e) = !l.all Q3d:=by
  rw[Bool.eq_iff_iff];simp
 rw[e2] at h
 obtain⟨b1,h1⟩:∃b,decide ((l.length:Int)>2000)=b:=⟨_,rfl⟩
 have e3:trB l=(!b1&&l.all Q3d):=by
  unfold trB
  rw[←h1]
  congr 1
  rw[Bool.eq_iff_iff];simp;omega
 rw[e3]
 generalize l.all Q3d=b2 at h ⊢
 (refine Q0v Tryz.func51 rfl (by rfl) ?_;simp only[Tryz.ntmps51,List.length_cons,List.length_nil,Nat.reduceAdd,Nat.reduceSub,List.replicate,List.cons_append,List.nil_append])
 (repeat(any_goals(first|((with_reducible refine Q0b ?_ ?_);rfl;intro K hK;simp only[go_sem,h1];((repeat(refine ndI (by first|assumption) ?_));refine hK _ ?_;clear hK K))|(with_reducible first|(refine Q0c ?_;refine hR _ ?_;clear hR R)|((first|refine Q0d ?_);intro J hJ hJ')|(refine Q0a ?_;intro R hR)|(refine hJ _ ?_;clear hJ hJ' J)|refine Q0i ?_|refine Q0k ?_)|((with_reducible refine hJ' _ _ ?_ ?_);(focus(simp;done));clear hJ hJ' J)|((with_reducible apply Q1a);rfl;rfl;rfl;all_goals(intro hb;first|(cases hb;done)|((try simp only[Bool.not_true,Bool.not_false] at hb);(first|((with_reducible intro K hK);(first|((apply Q0j (h);rfl;rfl;rfl;rfl;exact Tryz.func83);kernel_rfl;rfl;(focus((simp only[go_sem,h1]);(try rfl);done));(first|rfl))|skip);simp only[go_sem,h1];((repeat(refine ndI (by first|assumption) ?_));refine hK _ ?_;clear hK K))|((fail_if_success (with_reducible intro _));simp only[go_sem,h1])))))|((with_reducible apply Q0e);rfl;rfl;all_goals(intro hc;first|(cases hc;done)|(try simp only at hc))))))
 all_goals(subst_vars;(refine⟨by simp,⟨_,?_,AV.le_refl _⟩,Q0h (by simp[leH,hget])⟩;simp only[Tryz.results51,resL,ldA,Q0q,go_sem]))
 all_goals simp_all
end
section
open Go.RowKit
def bsr(lt:Nat→Bool):Nat→Nat→Nat→Nat
 |0,i,_=>i
 |f+1,i,j=>if i<j then(if lt ((i+j)/2) then bsr lt f ((i+j)/2+1) j else bsr lt f i ((i+j)/2)) else i
theorem Q6h(lt:Nat→Bool):∀(f g i j:Nat),j-i≤f→j-i≤g→bsr lt f i j=bsr lt g i j
 |0,0,_,_,_,_=>rfl
 |0,g+1,i,j,h,_=>by unfold bsr;rw[if_neg (by omega)]
 |f+1,0,i,j,_,h=>by
  conv=>lhs;unfold bsr
  rw[if_neg (by omega)];rfl
 |f+1,g+1,i,j,h1,h2=>by
  unfold bsr
  by_cases h:i<j
  · rw[if_pos h,if_pos h,Q6h lt f g _ j (by omega) (by omega),Q6h lt f g i _ (by omega) (by omega)]
  · rw[if_neg h,if_neg h]
theorem bsr_up{lt:Nat→Bool}{i j r:Nat}(h:i<j)(hl:lt ((i+j)/2)=true)(hr:bsr lt (j-i) i j=r):bsr lt (j-((i+j)/2+1)) ((i+j)/2+1) j=r:=by
 rw[Q6h lt (j-i) (j-i-1+1) i j (by omega) (by omega)] at hr
 unfold bsr at hr
 rw[if_pos h,if_pos hl] at hr
 rw[←hr];exact Q6h lt _ _ _ _ (by omega) (by omega)
theorem bsr_dn{lt:Nat→Bool}{i j r:Nat}(h:i<j)(hl:lt ((i+j)/2)=false)(hr:bsr lt (j-i) i j=r):bsr lt ((i+j)/2-i) i ((i+j)/2)=r:=by
 rw[Q6h lt (j-i) (j-i-1+1) i j (by omega) (by omega)] at hr
 unfold bsr at hr
 rw[if_pos h,hl] at hr
 rw[←hr];exact Q6h lt _ _ _ _ (by omega) (by omega)
theorem X9s(lt:Nat→Bool):∀(f i j:Nat),i≤j→bsr lt f i j≤j
 |0,i,j,h=>h
 |f+1,i,j,h=>by
  unfold bsr
  split
  · split
    · exact X9s lt f _ j (by omega)
    · exact Nat.le_trans (X9s lt f i _ (by omega)) (by omega)
  · exact h
theorem X9w:IntKind.u64.bits=64:=rfl
theorem half{i j:Nat}:((i:Int)+(j:Int)).fdiv (2 ^ (min 1 64))=(((i+j)/2:Nat):Int):=by
 show((i:Int)+(j:Int)).fdiv 2=_
 rw[Int.fdiv_eq_ediv_of_nonneg _ (by omega)];omega
theorem X4d{lt:Nat→Bool}{n:Nat}(mono:∀i j,i≤j→j<n→lt j=true→lt i=true):∀(f i j:Nat),j-i≤f→i≤j→j≤n→(∀k,k<i→lt k=true)→(∀k,j≤k→k<n→lt k=false)→(∀k,k<bsr lt f i j→lt k=true)∧∀k,bsr lt f i j≤k→k<n→lt k=false
 |0,i,j,h0,hij,hjn,h1,h2=>by
  obtain rfl:i=j:=by omega
  exact⟨h1,h2⟩
 |f+1,i,j,h0,hij,hjn,h1,h2=>by
  unfold bsr
  by_cases h:i<j
  · rw[if_pos h]
    cases hm:lt ((i+j)/2) with
    |true=>
     simp only[if_true]
     exact X4d mono f _ j (by omega) (by omega) hjn (fun k hk=>mono k ((i+j)/2) (by omega) (by omega) hm) h2
    |false=>
     simp only[Bool.false_eq_true,if_false]
     refine X4d mono f i _ (by omega) (by omega) (by omega) h1 fun k hk hkn=>?_
     cases hk2:lt k with
     |false=>rfl
     |true=>rw[mono _ k hk hkn hk2] at hm;cases hm
  · rw[if_neg h]
    obtain rfl:i=j:=by omega
    exact⟨h1,h2⟩
section
variable {α : Type} (key:α→Int)
def Rises(L:List α):Prop:=L.Pairwise fun x y=>key x<key y
def fnd(k:Int):List α→Option α
 |[]=>none
 |y::L=>if key y=k then some y else fnd k L
def lay(k:Int)(o:Option α):List α→List α
 |[]=>o.toList
 |y::L=>if key y<k then y::lay k o L else if key y=k then o.toList++L else o.toList++y::L
variable {key}
theorem X7e{k:Int}:∀{L:List α} {x:α},fnd key k L=some x→key x=k∧x∈L
 |y::L,x,h=>by
  unfold fnd at h
  split at h
  · rename_i e;cases h;exact⟨e,by simp⟩
  · have:=X7e h;exact⟨this.1,by simp[this.2]⟩
theorem X9e{k:Int}:∀{L:List α},(∀x∈L,key x≠k)→fnd key k L=none
 |[],_=>rfl
 |y::L,h=>by
  unfold fnd
  rw[if_neg (h y (by simp))]
  exact X9e fun x hx=>h x (by simp[hx])
theorem fnd_mem{L:List α}(hr:Rises key L){x:α}(hx:x∈L):fnd key (key x) L=some x:=by
 induction L with
 |nil=>cases hx
 |cons y L ih=>
  obtain⟨l1,l2⟩:=List.pairwise_cons.1 hr
  unfold fnd
  rcases List.mem_cons.1 hx with rfl|hx
  · rw[if_pos rfl]
  · rw[if_neg (by have:=l1 x hx;omega)];exact ih l2 hx
theorem mem_iff{L:List α}(hr:Rises key L){x:α}:x∈L↔fnd key (key x) L=some x:=⟨fnd_mem hr,fun h=>(X7e h).2⟩
structure Parts (key:α→Int) (L:List α) (k:Int) (p:Nat):Prop where
 le:p≤L.length
 lo:∀(i:Nat) (h:i<L.length),i<p→key L[i]<k
 hi:∀(i:Nat) (h:i<L.length),p≤i→k≤key L[i]
theorem Parts.tail{y:α}{L:List α}{k:Int}{p:Nat}(h:Parts key (y::L) k (p+1)):Parts key L k p:=
 ⟨by have:=h.le;simpa using this,fun i hi hp=>by have:=h.lo (i+1) (by simpa using hi) (by omega);simpa using this,fun i hi hp=>by have:=h.hi (i+1) (by simpa using hi) (by omega);simpa using this⟩
theorem X5b{k:Int}:∀{L:List α} {p:Nat},Rises key L→Parts key L k p→fnd key k L=(L[p]?).filter fun x=>decide (key x=k)
 |[],p,_,_=>by simp[fnd,Option.filter]
 |y::L,0,hr,h=>by
  obtain⟨l1,l2⟩:=List.pairwise_cons.1 hr
  have:=h.hi 0 (by simp) (Nat.le_refl _)
  simp only[List.getElem_cons_zero] at this
  unfold fnd
  simp only[List.getElem?_cons_zero,Option.filter_some,decide_eq_true_eq]
  by_cases e:key y=k
  · rw[if_pos e,if_pos e]
  · rw[if_neg e,if_neg e];exact X9e fun x hx=>by have:=l1 x hx;omega
 |y::L,p+1,hr,h=>by
  obtain⟨l1,l2⟩:=List.pairwise_cons.1 hr
  have:=h.lo 0 (by simp) (by omega)
  simp only[List.getElem_cons_zero] at this
  unfold fnd
  rw[if_neg (by omega),X5b l2 h.tail,List.getElem?_cons_succ]
theorem bsr_parts{L:List α}{k:Int}{lt:Nat→Bool}(hr:Rises key L)(hlt:∀(i:Nat) (h:i<L.length),lt i=decide (key L[i]<k)):Parts key L k (bsr lt L.length 0 L.length):=by
 have hp:=List.pairwise_iff_getElem.1 hr
 have sp:=X4d (lt:=lt) (n:=L.length) (fun j i hjk hk h=>by
  rw[hlt i hk,decide_eq_true_eq] at h
  rw[hlt j (by omega),decide_eq_true_eq]
  rcases Nat.lt_or_ge j i with h'|h'
  · have:=hp j i (by omega) hk h';omega
  · obtain rfl:j=i:=by omega
    exact h) L.length 0 L.length (by omega) (Nat.zero_le _) (Nat.le_refl _) (fun k hk=>by omega) (fun k h1 h2=>by omega)
 refine⟨X9s _ _ _ _ (Nat.zero_le _),fun i h hi=>?_,fun i h hi=>?_⟩
 · have:=sp.1 i hi;rwa [hlt i h,decide_eq_true_eq] at this
 · have:=sp.2 i hi h;rw[hlt i h,decide_eq_false_iff_not] at this;omega
end
end
section
open Go.RowKit
open Nat (reduceBEq)
set_option maxRecDepth 20000
set_option maxHeartbeats 2000000
theorem X8w(a:Int):Fn Tryz.prog 132 [vi .u64 a] [] (vb false) []:=by
 (refine Q0v Tryz.func132 rfl (by rfl) ?_;simp only[Tryz.ntmps132,List.length_cons,List.length_nil,Nat.reduceAdd,Nat.reduceSub,List.replicate,List.cons_append,List.nil_append])
 (repeat(any_goals(first|((with_reducible refine Q0b ?_ ?_);rfl;intro K hK;simp only[go_sem];((repeat(refine ndI (by first|assumption) ?_));refine hK _ ?_;clear hK K))|(with_reducible first|(refine Q0c ?_;refine hR _ ?_;clear hR R)|((first|refine Q0d ?_);intro J hJ hJ')|(refine Q0a ?_;intro R hR)|(refine hJ _ ?_;clear hJ hJ' J)|refine Q0k ?_))))
 all_goals(refine⟨by simp,⟨_,?_,AV.le_refl _⟩,Q0h (by simp[leH,hget])⟩;simp only[Tryz.results132,resL,ldA,Q0q,go_sem])
 all_goals simp
def cmpI(a b:Int):Int:=if a<b then -1 else if b<a then 1 else 0
theorem Z0x(a b:Int):Fn Tryz.prog 78 [vi .u64 a,vi .u64 b] [] (vi .i64 (cmpI a b)) []:=by
 (refine Q0v Tryz.func78 rfl (by rfl) ?_;simp only[Tryz.ntmps78,List.length_cons,List.length_nil,Nat.reduceAdd,Nat.reduceSub,List.replicate,List.cons_append,List.nil_append])
 (repeat(any_goals(first|((with_reducible refine Q0n ?_ ?_ ?_);rfl;rfl;intro K hK;((apply Q0j (X8w _);rfl;rfl;rfl;rfl;exact Tryz.func132);kernel_rfl;rfl;(focus((simp only[go_sem]);(try rfl);done));(first|rfl));(simp only[go_sem];refine hK _ ?_;clear hK K))|((with_reducible refine Q0b ?_ ?_);rfl;intro K hK;simp only[go_sem];((repeat(refine ndI (by first|assumption) ?_));refine hK _ ?_;clear hK K))|(with_reducible first|(refine Q0c ?_;refine hR _ ?_;clear hR R)|((first|refine Q0d ?_);intro J hJ hJ')|(refine Q0a ?_;intro R hR)|(refine hJ _ ?_;clear hJ hJ' J)|refine Q0i ?_|refine Q0k ?_)|((with_reducible refine hJ' _ _ ?_ ?_);(focus(simp;done));clear hJ hJ' J)|((with_reducible apply Q0e);rfl;rfl;all_goals(intro hc;first|(cases hc;done)|(try simp only at hc))))))
 all_goals(refine⟨by simp,⟨_,?_,AV.le_refl _⟩,Q0h (by simp[leH,hget])⟩;simp only[Tryz.results78,resL,ldA,Q0q,go_sem])
 all_goals simp_all [cmpI]
 all_goals omega
structure Sp where
 a:Int
 k:Nat
structure Pg where
 s:Sp
 v:Nat
def Sp.pv(s:Sp):List PV:=[.v (.int .u64 s.a),.v (.int .u64 (l0 s.k)),.v (.int .u64 (l1 s.k)),.v (.int .u64 (l2 s.k)),.v (.int .u64 (l3 s.k))]
def Pg.pv(p:Pg):List PV:=[.v (.int .u64 p.s.a),.v (.int .u64 (l0 p.s.k)),.v (.int .u64 (l1 p.s.k)),.v (.int .u64 (l2 p.s.k)),.v (.int .u64 (l3 p.s.k)),.v (.int .u64 (l0 p.v)),.v (.int .u64 (l1 p.v)),.v (.int .u64 (l2 p.v)),.v (.int .u64 (l3 p.v))]
theorem Q8q(s:Sp):s.pv.length=5:=rfl
abbrev spA(s:Sp):AV:=.agg [vi .u64 s.a,vi .u64 (l0 s.k),vi .u64 (l1 s.k),vi .u64 (l2 s.k),vi .u64 (l3 s.k)]
abbrev spl5(ex:Bool)(l:List Sp):AV:=.c (.sl ex 5 l.length (l.flatMap Sp.pv))
theorem X6p{l:List Sp}{i:Nat}{y:Sp}(h:l[i]? = some y):((l.flatMap Sp.pv).drop (i*5)).take 5=[.v (.int .u64 y.a),.v (.int .u64 (l0 y.k)),.v (.int .u64 (l1 y.k)),.v (.int .u64 (l2 y.k)),.v (.int .u64 (l3 y.k))]:=Q4s (f:=Sp.pv) Q8q h
def Sp.ok(s:Sp):Prop:=U s.a∧s.k<WW
def Pg.ok(p:Pg):Prop:=p.s.ok∧p.v<WW
def Sp.key(s:Sp):Int:=s.a*(WW:Int)+(s.k:Int)
abbrev Pg.key(p:Pg):Int:=p.s.key
theorem key_lt{W a b:Int}{x y:Int}(hx:0≤x∧x<W)(hy:0≤y∧y<W):a*W+x<b*W+y↔a<b∨(a=b∧x<y):=by
 rcases Int.lt_trichotomy a b with h|h|h
 · have e:(a+1)*W≤b*W:=Int.mul_le_mul_of_nonneg_right (by omega) (by omega)
   rw[Int.add_mul] at e
   omega
 · subst h;omega
 · have e:(b+1)*W≤a*W:=Int.mul_le_mul_of_nonneg_right (by omega) (by omega)
   rw[Int.add_mul] at e
   omega
theorem Sp.key_lt{s t:Sp}(hs:s.ok)(ht:t.ok):s.key<t.key↔s.a<t.a∨(s.a=t.a∧s.k<t.k):=by
 have h:=@Go.Proofs.YtgdjkkapgghdbaaGreatDoor.key_lt (WW:Int) s.a t.a s.k t.k ⟨by omega,by have:=hs.2;exact_mod_cast this⟩ ⟨by omega,by have:=ht.2;exact_mod_cast this⟩
 unfold Sp.key
 rw[h]
 omega
theorem Sp.key_inj{s t:Sp}(hs:s.ok)(ht:t.ok)(h:s.key=t.key):s=t:=by
 have h1:=Sp.key_lt hs ht
 have h2:=Sp.key_lt ht hs
 rw[h] at h1 h2
 obtain⟨a,k⟩:=s
 obtain⟨b,m⟩:=t
 dsimp only at h1 h2
 have e1:a=b:=by omega
 have e2:k=m:=by omega
 rw[e1,e2]
theorem cmp_key{s t:Sp}(hs:s.ok)(ht:t.ok):(if cmpI s.a t.a=0 then(if s.k<t.k then -1 else if t.k<s.k then 1 else 0) else cmpI s.a t.a)=cmpI s.key t.key:=by
 have h1:=Sp.key_lt hs ht
 have h2:=Sp.key_lt ht hs
 generalize s.key=x at *
 generalize t.key=y at *
 unfold cmpI
 rcases Int.lt_trichotomy s.a t.a with h|h|h
 · have hx:x<y:=by omega
   simp[h,hx]
 · rcases Nat.lt_trichotomy s.k t.k with g|g|g
   · have hx:x<y:=by omega
     simp[h,g,hx]
   · have hx:¬x<y:=by omega
     have hy:¬y<x:=by omega
     simp[h,g,hx,hy]
   · have hx:¬x<y:=by omega
     have hy:y<x:=by omega
     have g2:¬s.k<t.k:=by omega
     simp[h,g,hx,hy,g2]
 · have hx:¬x<y:=by omega
   have hy:y<x:=by omega
   have g2:¬s.a<t.a:=by omega
   simp[h,hx,hy,g2]
theorem cmpor_fn(ex:Bool)(x y:Int):Fn Tryz.prog 77 [.c (.sl ex 1 2 [.v (.int .i64 x),.v (.int .i64 y)])] [] (vi .i64 (if x=0 then y else x)) []:=by
 (refine Q0v Tryz.func77 rfl (by rfl) ?_;simp only[Tryz.ntmps77,List.length_cons,List.length_nil,Nat.reduceAdd,Nat.reduceSub,List.replicate,List.cons_append,List.nil_append])
 (repeat(any_goals(first|((with_reducible refine Q0b ?_ ?_);rfl;intro K hK;simp(disch:=omega) only[go_sem,wrI,Int.reduceAdd];((repeat(refine ndI (by first|assumption|omega|rfl) ?_));refine hK _ ?_;clear hK K))|(with_reducible first|(refine Q0c ?_;refine hR _ ?_;clear hR R)|((first|refine Q0d ?_|refine Q0g ?_);intro J hJ hJ')|(refine Q0a ?_;intro R hR)|(refine hJ _ ?_;clear hJ hJ' J)|refine Q0i ?_|refine Q0k ?_|refine Q0t ?_)|((with_reducible refine hJ' _ _ ?_ ?_);(focus(simp;done));clear hJ hJ' J)|((with_reducible apply Q0e);rfl;rfl;all_goals(intro hc;first|(cases hc;done)|(try simp only at hc)))|(with_reducible refine Q6b 3 ?_)|((with_reducible refine Q7y ?_);intro J hJ hJ'))))
 all_goals(refine⟨by simp,⟨_,?_,AV.le_refl _⟩,Q0h (by simp[leH,hget])⟩;simp only[Tryz.results77,resL,ldA,Q0q,go_sem])
 all_goals simp_all
theorem X0t(s t:Sp)(hs:s.ok)(ht:t.ok):Fn Tryz.prog 48 [spA s,spA t] [] (vi .i64 (cmpI s.key t.key)) []:=by
 have c1:=Z0x s.a t.a
 have c2:=cmp_fn s.k t.k hs.2 ht.2
 rw[←cmp_key hs ht]
 generalize cmpI s.a t.a=x at c1 ⊢
 generalize (if s.k<t.k then -1 else if t.k<s.k then 1 else 0:Int)=y at c2 ⊢
 (refine Q0v Tryz.func48 rfl (by rfl) ?_;simp only[Tryz.ntmps48,List.length_cons,List.length_nil,Nat.reduceAdd,Nat.reduceSub,List.replicate,List.cons_append,List.nil_append])
 (repeat(any_goals(first|((with_reducible refine Q0b ?_ ?_);rfl;intro K hK;simp only[go_sem];((repeat(refine ndI (by first|assumption) ?_));refine hK _ ?_;clear hK K))|(with_reducible first|(refine Q0c ?_;refine hR _ ?_;clear hR R)|((first|refine Q0d ?_);intro J hJ hJ')|(refine Q0a ?_;intro R hR)|(refine hJ _ ?_;clear hJ hJ' J)|refine Q0k ?_)|((with_reducible refine Q0z ?_ ?_);kernel_rfl;(with_reducible refine hR _ ?_);clear hR R)|((first|((with_reducible apply Q2g);rfl;rfl;((first|(apply Q1c (c1);rfl;rfl;rfl;rfl;exact Tryz.func78)|(apply Q1c (c2);rfl;rfl;rfl;rfl;exact Tryz.func79)|(apply Q1c (cmpor_fn _ _ _);rfl;rfl;rfl;rfl;exact Tryz.func77));kernel_rfl;rfl;(focus((simp only[go_sem]);(try rfl);done));(first|rfl)))|((with_reducible apply Q0x);rfl;rfl;(simp only[rdE,rdOf,go_sem];rfl);(intro τ hA hQ hN;((try simp only[Q1o,Op.operands,Call.operands,go_sem,List.mem_cons,List.not_mem_nil,forall_eq_or_imp,forall_eq,List.append_toArray,Option.toArray] at hA);(try simp only[go_sem,List.mem_cons,List.not_mem_nil,forall_eq_or_imp,forall_eq] at hQ hN);(first|(revert hA;intro hA));(first|(revert hQ;intro hQ));(first|(revert hN;intro hN));simp only[go_sem,hA,hQ,hN];(repeat(refine ndI (by first|assumption) ?_));(first|apply Q1f))))|((first|((with_reducible apply Q3n);rfl));apply Q6w;rfl;rfl;(focus(simp only[go_sem];try rfl));(focus(simp only[go_sem];try rfl));rfl;(first|omega);(first|omega);(first|omega);(simp only[go_sem];rfl);rfl;(focus((simp only[unC,Option.map_some]);(try rfl)))));(simp only[St.eff,setO,Q0r,go_sem]))|((with_reducible refine Q0y ?_ ?_ ?_ ?_);kernel_rfl;kernel_rfl;(first|kernel_rfl);intro R hR))))
 all_goals(refine⟨by simp,⟨_,?_,AV.le_refl _⟩,Q0h (by simp[leH,hget])⟩;simp only[Tryz.results48,resL,ldA,Q0q,go_sem])
end
section
open Go.RowKit
open Nat (reduceBEq)
attribute [-go_sem] IntKind.bits
set_option maxRecDepth 20000
set_option maxHeartbeats 2000000
def kpv(n:Int):List PV:=[.v (.int .i64 n)]
theorem kpv_len(n:Int):(kpv n).length=1:=rfl
abbrev ksl(ex:Bool)(l:List Int):AV:=.c (.sl ex 1 l.length (l.flatMap kpv))
theorem ksl_at{l:List Int}{i:Nat}{y:Int}(h:l[i]? = some y):((l.flatMap kpv).drop i).take 1=[.v (.int .i64 y)]:=by
 have:=Q4s (f:=kpv) kpv_len h
 rwa [Nat.mul_one] at this
theorem indexK_fn(ex:Bool)(l:List Int)(x:Int)(hl:l.length≤1000000):Fn Tryz.prog 170 [ksl ex l,vi .i64 x] [] (vi .i64 (idxF (fun y=>decide (x=y)) l 0)) []:=by
 obtain⟨r,hr⟩:∃r,idxF (fun y=>decide (x=y)) l 0=r:=⟨_,rfl⟩
 rw[hr]
 (refine Q0v Tryz.func170 rfl (by rfl) ?_;simp only[Tryz.ntmps170,List.length_cons,List.length_nil,Nat.reduceAdd,Nat.reduceSub,List.replicate,List.cons_append,List.nil_append])
 (repeat(any_goals(first|((with_reducible refine Q0b ?_ ?_);rfl;intro K hK;simp only[go_sem];((repeat(refine ndI (by first|assumption) ?_));refine hK _ ?_;clear hK K))|(with_reducible first|(refine Q0c ?_;refine hR _ ?_;clear hR R)|((first|refine Q0d ?_|refine Q0g ?_);intro J hJ hJ')|(refine Q0a ?_;intro R hR)|(refine hJ _ ?_;clear hJ hJ' J)))))
 refine Q1t (α:={i:Nat // i≤l.length∧idxF (fun y=>decide (x=y)) (l.drop i) i=r}) (fun p=>⟨[ksl ex l,vi .i64 x,.any,.any,.any,.any,.any,vi .i64 l.length,vi .i64 (p.1:Int),.any,.any,.any,.any,.any,.any,.any,.any,.any,.any],[]⟩) (fun p=>l.length-p.1) ⟨0,Nat.zero_le _,hr⟩ (St.le_of (by simp[leT]) (by simp[leH])) ?_
 rintro ⟨i,hi,hd⟩ J hJ hJ'
 (try dsimp only at hJ ⊢)
 rcases Nat.lt_or_ge i l.length with hlt|hge
 · obtain⟨y,hy⟩:∃y,l[i]? = some y:=⟨_,List.getElem?_eq_getElem hlt⟩
   have k1:(decide ((i:Int)<(l.length:Int)))=true:=by simp;omega
   have k2:=ksl_at hy
   have k7:(i:Int)+1=((i+1:Nat):Int):=by omega
   have hdr:l.drop i=y::l.drop (i+1):=by
    rw[List.drop_eq_getElem_cons hlt]
    rw[List.getElem?_eq_getElem hlt] at hy
    rw[Option.some.inj hy]
   rw[hdr] at hd
   unfold idxF at hd
   by_cases hxy:x=y
   · have k4:(x==y)=true:=by simp[hxy]
     rw[if_pos (by simp[hxy])] at hd
     (have W:=ndI k1 (ndI k2 (ndI k4 (ndI k7 @wrI)));(repeat(any_goals(first|((with_reducible refine Q0b ?_ ?_);rfl;intro K hK;simp(disch:=omega) only[go_sem,W,Nat.mul_one];((repeat(refine ndI (by first|assumption|omega|rfl) ?_));refine hK _ ?_;clear hK K))|(with_reducible first|(refine Q0c ?_;refine hR _ ?_;clear hR R)|((first|refine Q0d ?_|refine Q0g ?_);intro J hJ hJ')|(refine Q0a ?_;intro R hR)|(refine hJ _ ?_;clear hJ hJ' J)|refine Q0i ?_|refine Q0k ?_)|((with_reducible refine hJ' _ _ ?_ ?_);(focus(simp;done));clear hJ hJ' J)|((with_reducible apply Q0e);rfl;rfl;all_goals(intro hc;first|(cases hc;done)|(try simp only at hc)))))))
     all_goals rw[←hd]
     all_goals(refine⟨by simp,⟨_,?_,AV.le_refl _⟩,Q0h (by simp[leH,hget])⟩;simp only[Tryz.results170,resL,ldA,Q0q,go_sem])
   · have k4:(x==y)=false:=by simp[hxy]
     rw[if_neg (by simp[hxy])] at hd
     have hJ1:=fun σ'=>hJ σ' ⟨i+1,hlt,hd⟩ (by dsimp only;omega)
     dsimp only at hJ1
     (have W:=ndI k1 (ndI k2 (ndI k4 (ndI k7 @wrI)));(repeat(any_goals(first|((with_reducible refine Q0b ?_ ?_);rfl;intro K hK;simp(disch:=omega) only[go_sem,W,Nat.mul_one];((repeat(refine ndI (by first|assumption|omega|rfl) ?_));refine hK _ ?_;clear hK K))|(with_reducible first|(refine Q0c ?_;refine hR _ ?_;clear hR R)|((first|refine Q0d ?_|refine Q0g ?_);intro J hJ hJ')|(refine Q0a ?_;intro R hR)|(refine hJ _ ?_;clear hJ hJ' J)|refine Q0i ?_)|((with_reducible refine hJ' _ _ ?_ ?_);(focus(simp;done));clear hJ hJ' J)|((with_reducible apply Q0e);rfl;rfl;all_goals(intro hc;first|(cases hc;done)|(try simp only at hc)))))))
     all_goals exact hJ1 _ (St.le_of (by simp[leT]) (by simp[leH]))
 · have k1:(decide ((i:Int)<(l.length:Int)))=false:=by simp;omega
   rw[List.drop_eq_nil_of_le hge] at hd
   have hd:r = -1:=hd.symm
   (repeat(any_goals(first|((with_reducible refine Q0b ?_ ?_);rfl;intro K hK;simp only[go_sem,k1];((repeat(refine ndI (by first|assumption) ?_));refine hK _ ?_;clear hK K))|(with_reducible first|(refine Q0c ?_;refine hR _ ?_;clear hR R)|((first|refine Q0d ?_);intro J hJ hJ')|(refine Q0a ?_;intro R hR)|(refine hJ _ ?_;clear hJ hJ' J)|refine Q0k ?_|refine Q0t ?_)|((with_reducible refine hJ' _ _ ?_ ?_);(focus(simp;done));clear hJ hJ' J)|((with_reducible apply Q0e);rfl;rfl;all_goals(intro hc;first|(cases hc;done)|(try simp only at hc))))))
   all_goals rw[hd]
   all_goals(refine⟨by simp,⟨_,?_,AV.le_refl _⟩,Q0h (by simp[leH,hget])⟩;simp only[Tryz.results170,resL,ldA,Q0q,go_sem])
theorem Q8x(ex:Bool)(l:List Int)(x:Int)(hl:l.length≤1000000):Fn Tryz.prog 143 [ksl ex l,vi .i64 x] [] (vb (decide (x∈l))) []:=by
 have h:=indexK_fn ex l x hl
 have e:=Q6z (fun y=>decide (x=y)) l 0
 rw[show(l.any fun y=>decide (x=y))=decide (x∈l) by rw[Bool.eq_iff_iff];simp] at e
 generalize idxF (fun y=>decide (x=y)) l 0=r at h e
 rw[←e]
 (refine Q0v Tryz.func143 rfl (by rfl) ?_;simp only[Tryz.ntmps143,List.length_cons,List.length_nil,Nat.reduceAdd,Nat.reduceSub,List.replicate,List.cons_append,List.nil_append])
 (repeat(any_goals(first|((with_reducible refine Q0n ?_ ?_ ?_);rfl;rfl;intro K hK;((apply Q0j (h);rfl;rfl;rfl;rfl;exact Tryz.func170);kernel_rfl;rfl;(focus((simp only[go_sem]);(try rfl);done));(first|rfl));(simp only[go_sem];refine hK _ ?_;clear hK K))|((with_reducible refine Q0b ?_ ?_);rfl;intro K hK;simp only[go_sem];((repeat(refine ndI (by first|assumption) ?_));refine hK _ ?_;clear hK K))|(with_reducible first|(refine Q0c ?_;refine hR _ ?_;clear hR R)|((first|refine Q0d ?_);intro J hJ hJ')|(refine Q0a ?_;intro R hR)|(refine hJ _ ?_;clear hJ hJ' J)|refine Q0k ?_))))
 all_goals(refine⟨by simp,⟨_,?_,AV.le_refl _⟩,Q0h (by simp[leH,hget])⟩;simp only[Tryz.results143,resL,ldA,Q0q,go_sem])
theorem that_fn(ex ex':Bool)(l:List Ev)(ks:List Int):Fn Tryz.prog 95 [evs ex l,ksl ex' ks] [] (.fn 142 [.ptr 2 0,.ptr 3 0]) [(2,[evs ex l]),(3,[ksl ex' ks])]:=by
 (refine Q0v Tryz.func95 rfl (by rfl) ?_;simp only[Tryz.ntmps95,List.length_cons,List.length_nil,Nat.reduceAdd,Nat.reduceSub,List.replicate,List.cons_append,List.nil_append])
 (repeat(any_goals(first|((with_reducible refine Q0b ?_ ?_);rfl;intro K hK;simp only[go_sem];((repeat(refine ndI (by first|assumption) ?_));refine hK _ ?_;clear hK K))|(with_reducible first|(refine Q0c ?_;refine hR _ ?_;clear hR R)|((first|refine Q0d ?_);intro J hJ hJ')|(refine Q0a ?_;intro R hR)|(refine hJ _ ?_;clear hJ hJ' J)|refine Q0k ?_))))
 all_goals exact⟨by simp,⟨_,rfl,AV.le_of (by simp[Q0q])⟩,Q0h (by simp[leH,hget])⟩
def Ev.sp(e:Ev):Sp:=⟨e.self,e.key⟩
abbrev raS(l:List Sp):List AV:=(l.flatMap Sp.pv).map .c
theorem Q6u(l:List Sp):(raS l).length=l.length*5:=by rw[List.length_map,Q0o Q8q]
def selS(ks:List Int)(l:List Ev):List Sp:=(l.filter fun e=>decide (e.kind∈ks)).map Ev.sp
theorem selS_snoc(ks:List Int){l:List Ev}{i:Nat}{y:Ev}(h:l[i]? = some y):selS ks (l.take (i+1))=if decide (y.kind∈ks)=true then selS ks (l.take i)++[y.sp] else selS ks (l.take i):=by
 unfold selS
 rw[List.take_add_one,h,List.filter_append,List.map_append]
 by_cases c:decide (y.kind∈ks)=true
 · rw[if_pos c]
   simp only[Option.toList_some,List.filter_cons,c,if_true,List.filter_nil,List.map_cons,List.map_nil]
 · rw[if_neg c]
   have c':decide (y.kind∈ks)=false:=by simpa using c
   simp only[Option.toList_some,List.filter_cons,c',List.filter_nil,List.map_nil,List.append_nil,Bool.false_eq_true,if_false]
theorem X8c(ks:List Int)(l:List Ev):(selS ks l).length≤l.length:=by
 unfold selS;rw[List.length_map];exact List.length_filter_le _ _
abbrev tsH0(out:List Sp):List (Nat×List AV):=[(1005,[.row 1600 37 5 out.length]),(1600,raS out)]
abbrev tsH1(out:List Sp)(y:Ev):List (Nat×List AV):=[(1005,[.row 18 37 5 (out.length+1)]),(18,raS (out++[y.sp]))]
abbrev stT(ex ex':Bool)(l:List Ev)(ks:List Int)(lp r:Nat)(out:List Sp)(i:Nat):St:=⟨[yv lp,.ptr 1101 0,.ptr 1102 0,.any,.any,.any,.any,.any,.any,evs ex l,vi .i64 l.length,vi .i64 i,.any,.any,.any,.any,.any,.any,.any,.any,.any,.any,.any,.any,.any,.any],[(1005,[.row r 37 5 out.length]),(r,raS out),(1101,[evs ex l]),(1102,[ksl ex' ks])]⟩
theorem stT_rn(ex ex':Bool)(l:List Ev)(ks:List Int)(lp:Nat)(out:List Sp)(i:Nat):(stT ex ex' l ks lp 18 out i).to (stT ex ex' l ks lp 600 out i):=by
 have h:=St.to.rn (σ:=stT ex ex' l ks lp 18 out i) (fun r=>if r=18 then 600 else r) (fun r=>if r=600 then 18 else r) [18,1005,1101,1102] (by simp[AV.inNL,AV.inN]) (by simp) (by simp[inH,AV.inNL,AV.inN,Q0p]) (by simp) (by simp)
 simpa [AV.renL,AV.ren,renH] using h
theorem that1S_fn(ex ex':Bool)(l:List Ev)(hl:l.length≤1000)(ho:∀e∈l,e.ok)(hr:trB l=true)(ks:List Int)(hk:ks.length≤10){t:Tmp}{asg bod:Code}{T0:List AV}(hT0:AV.inNL [1005] T0=true)(lp:Nat)
 (hY:∀(out:List Sp) (y:Ev),y∈l→out.length≤1000→YC Tryz.prog t asg bod T0 lp (evA y) (tsH0 out) (tsH1 out y)) :
 FnW (LoopAt t asg bod T0 [1005,1101,1102] lp) Tryz.prog 142 [yv lp,.ptr 1101 0,.ptr 1102 0] [(1005,[nilA]),(1101,[evs ex l]),(1102,[ksl ex' ks])] (.tup []) [(1005,[.row 600 37 5 (selS ks l).length]),(600,raS (selS ks l))]:=by
 have ck:=Q5i ex l (by omega) ho
 rw[hr] at ck
 (refine Q4o Tryz.func142 rfl (by rfl) ?_;simp only[Tryz.ntmps142,List.length_cons,List.length_nil,Nat.reduceAdd,Nat.reduceSub,List.replicate,List.cons_append,List.nil_append])
 refine AWE.seq (AWE.of ?_)
 (repeat(any_goals(first|((with_reducible refine Q0n ?_ ?_ ?_);rfl;rfl;intro K hK;((apply Q0j (ck);rfl;rfl;rfl;rfl;exact Tryz.func51);kernel_rfl;rfl;(focus((simp only[go_sem,bne_self_eq_false,ite_true,if_true]);(try rfl);done));(first|rfl));(simp only[go_sem,bne_self_eq_false,ite_true,if_true];refine hK _ ?_;clear hK K))|((with_reducible refine Q0b ?_ ?_);rfl;intro K hK;simp only[go_sem,bne_self_eq_false,ite_true,if_true];((repeat(refine ndI (by first|assumption) ?_));refine hK _ ?_;clear hK K))|(with_reducible first|(refine Q0c ?_;refine hR _ ?_;clear hR R)|((first|refine Q0d ?_);intro J hJ hJ')|(refine Q0a ?_;intro R hR)|(refine hJ _ ?_;clear hJ hJ' J)|refine Q0i ?_)|((with_reducible apply Q0e);rfl;rfl;all_goals(intro hc;first|(cases hc;done)|(try simp only at hc))))))
 show AWE _ _ _ _ _
 refine AWE.seq (AWE.of ?_)
 (repeat(any_goals(first|((with_reducible refine Q0b ?_ ?_);rfl;intro K hK;simp only[go_sem];((repeat(refine ndI (by first|assumption) ?_));refine hK _ ?_;clear hK K))|(with_reducible first|(refine Q0c ?_;refine hR _ ?_;clear hR R)|(refine Q0a ?_;intro R hR)))))
 show AWE _ _ _ _ _
 refine AWE.block ?_
 refine AWE.loop (α:={i:Nat // i≤l.length}) (fun p=>stT ex ex' l ks lp 600 (selS ks (l.take p.1)) p.1) (fun p=>l.length-p.1) ⟨0,Nat.zero_le _⟩ ?_ ?_
 · refine St.to.trans (St.to.nilcell 1005 600 37 5 0 (cs:=[nilA]) (by simp[hget]) rfl (by simp[St.free,Q1z,AV.refsL,AV.refs]) (by decide) (by decide)) (St.to.of_le (St.le_of (by simp[leT,selS]) (by simp[leH,hget,hput,selS])))
 rintro ⟨i,hi⟩
 dsimp only[stT]
 rcases Nat.lt_or_ge i l.length with hlt|hge
 · obtain⟨y,hy⟩:∃y,l[i]? = some y:=⟨l[i],List.getElem?_eq_getElem hlt⟩
   have k1:(decide ((i:Int)<(l.length:Int)))=true:=by simpa using hlt
   have k2:=ev_at hy
   have k7:(i:Int)+1=((i+1:Nat):Int):=by omega
   have k5:=X8c ks (l.take i)
   have k6:(l.take i).length≤1000:=by simp;omega
   have hm:=List.mem_of_getElem? hy
   have m1:=selS_snoc ks hy
   have fin:∀τ : St,τ.to (stT ex ex' l ks lp 600 (selS ks (l.take (i+1))) (i+1))→∃q:{i:Nat // i≤l.length},l.length-q.1<l.length-i∧τ.to (stT ex ex' l ks lp 600 (selS ks (l.take q.1)) q.1):=fun τ h=>⟨⟨i+1,hlt⟩,by simp only;omega,h⟩
   have cn:=Q8x ex' ks y.kind (by omega)
   generalize selS ks (l.take (i+1))=out' at fin m1
   generalize selS ks (l.take i)=out at k5 m1 ⊢
   have k9:∀r,AV.refsL r (raS out)=false:=fun r=>Q0l r _
   refine AWE.seq (AWE.of ?_)
   (repeat(any_goals(first|((with_reducible refine Q0b ?_ ?_);rfl;intro K hK;simp only[go_sem,k1];((repeat(refine ndI (by first|assumption) ?_));refine hK _ ?_;clear hK K))|(with_reducible first|(refine Q0c ?_;refine hR _ ?_;clear hR R)|(refine Q0a ?_;intro R hR)))))
   refine AWE.seq (AWE.of ?_)
   (repeat(any_goals(first|(with_reducible first|refine Q0i ?_)|((with_reducible apply Q0e);rfl;rfl;all_goals(intro hc;first|(cases hc;done)|(try simp only at hc))))))
   refine AWE.seq (AWE.block (AWE.seq (AWE.of ?_)))
   (repeat(any_goals(first|((with_reducible refine Q0b ?_ ?_);rfl;intro K hK;simp(disch:=omega) only[go_sem,k1,k2,k7,k9,wrI];((repeat(refine ndI (by first|assumption|omega|rfl) ?_));refine hK _ ?_;clear hK K))|(with_reducible first|(refine Q0c ?_;refine hR _ ?_;clear hR R)|(refine Q0a ?_;intro R hR)))))
   cases hya:decide (y.kind∈ks) with
   |false=>
    rw[hya] at cn m1
    rw[if_neg (by simp)] at m1
    refine AWE.seq (AWE.of ?_)
    (repeat(any_goals(first|((with_reducible refine Q0n ?_ ?_ ?_);rfl;rfl;intro K hK;((apply Q0j (cn);rfl;rfl;rfl;rfl;exact Tryz.func143);kernel_rfl;rfl;(focus((simp(disch:=omega) only[go_sem,k1,k2,k7,k9,wrI]);(try rfl);done));(first|rfl));(simp(disch:=omega) only[go_sem,k1,k2,k7,k9,wrI];refine hK _ ?_;clear hK K))|((with_reducible refine Q0b ?_ ?_);rfl;intro K hK;simp(disch:=omega) only[go_sem,k1,k2,k7,k9,wrI];((repeat(refine ndI (by first|assumption|rfl) ?_));refine hK _ ?_;clear hK K))|(with_reducible first|(refine Q0c ?_;refine hR _ ?_;clear hR R)|(refine Q0a ?_;intro R hR))|((with_reducible apply Q1a);rfl;rfl;rfl;all_goals(intro hb;first|(cases hb;done)|((try simp only[Bool.not_true,Bool.not_false] at hb);(first|((fail_if_success (with_reducible intro _));simp(disch:=omega) only[go_sem,k1,k2,k7,k9,wrI]))))))))
    show AWE _ _ _ _ _
    refine AWE.of ?_
    (repeat(any_goals(first|(with_reducible first|refine Q0i ?_)|((with_reducible apply Q0e);rfl;rfl;all_goals(intro hc;first|(cases hc;done)|(try simp only at hc))))))
    show AWE _ _ _ _ _
    refine AWE.of ?_
    (repeat(any_goals(first|((with_reducible refine Q0b ?_ ?_);rfl;intro K hK;simp(disch:=omega) only[go_sem,k7,wrI];((repeat(refine ndI (by first|assumption|rfl) ?_));refine hK _ ?_;clear hK K))|(with_reducible first|(refine Q0c ?_;refine hR _ ?_;clear hR R)|(refine Q0a ?_;intro R hR)))))
    subst m1
    exact fin _ (St.to.of_le (St.le_of (by simp[leT]) (by simp[leH,hget])))
   |true=>
    rw[hya] at cn m1
    rw[if_pos rfl] at m1
    subst m1
    refine AWE.seq (AWE.region_at 7 rfl rfl ?_)
    intro R hR
    simp only[List.take,List.drop]
    (repeat(any_goals(first|((with_reducible refine Q0n ?_ ?_ ?_);rfl;rfl;intro K hK;((apply Q0j (cn);rfl;rfl;rfl;rfl;exact Tryz.func143);kernel_rfl;rfl;(focus((simp(disch:=omega) only[go_sem,k1,k2,k7,k9,wrI]);(try rfl);done));(first|rfl));(simp(disch:=omega) only[go_sem,k1,k2,k7,k9,wrI];refine hK _ ?_;clear hK K))|((with_reducible refine Q0b ?_ ?_);rfl;intro K hK;simp(disch:=omega) only[go_sem,k1,k2,k7,k9,wrI];((repeat(refine ndI (by first|assumption|rfl) ?_));refine hK _ ?_;clear hK K))|(with_reducible first|(refine Q0c ?_;refine hR _ ?_;clear hR R))|((with_reducible apply Q1a);rfl;rfl;rfl;all_goals(intro hb;first|(cases hb;done)|((try simp only[Bool.not_true,Bool.not_false] at hb);(first|((with_reducible intro K hK);simp(disch:=omega) only[go_sem,k1,k2,k7,k9,wrI];((repeat(refine ndI (by first|assumption|rfl) ?_));refine hK _ ?_;clear hK K)))))))))
    refine⟨.inr ⟨4,true,19,rfl,rfl,rfl⟩,Q5q (hY out y hm (by omega)) (fun r=>if r=1600 then 600 else r) rfl rfl rfl rfl (.inr ?_) (by rfl) ?_ ?_ ?_ ?_ [1005] hT0 ?_ ?_⟩
    · simp[AV.ren,AV.renL,St.ev]
    · simp[hget,AV.renL,AV.ren]
    · intro r hr q hq h
      simp only[List.map_cons,List.map_nil,List.cons_append,List.nil_append,List.mem_cons,List.not_mem_nil,or_false] at hr hq
      rcases hr with rfl|rfl|rfl|rfl<;>rcases hq with rfl|rfl|rfl|rfl<;>simp at h ⊢
    · simp[Q1g,St.free,Q1z,AV.refs,AV.refsL,k9]
    · simp[inH,AV.inNL,AV.inN]
    · simp[hget]
    intro R hR
    simp only[List.drop,Q0r,Q1h,renH,AV.ren,AV.renL,Q0m,hput,hdel,hget,St.put,List.set]
    (repeat(any_goals(first|((with_reducible refine Q0b ?_ ?_);rfl;intro K hK;simp(disch:=omega) only[go_sem,k1,k2,k7,k9,hya,wrI];((repeat(refine ndI (by first|assumption|rfl) ?_));refine hK _ ?_;clear hK K))|(with_reducible first|(refine Q0c ?_;refine hR _ ?_;clear hR R))|((with_reducible apply Q1a);rfl;rfl;rfl;all_goals(intro hb;first|(cases hb;done)|((try simp only[Bool.not_true,Bool.not_false] at hb);(first|((with_reducible intro K hK);simp(disch:=omega) only[go_sem,k1,k2,k7,k9,hya,wrI];((repeat(refine ndI (by first|assumption|rfl) ?_));refine hK _ ?_;clear hK K)))))))))
    show AWE _ _ _ _ _
    refine AWE.of ?_
    (repeat(any_goals(first|(with_reducible first|refine Q0i ?_)|((with_reducible apply Q0e);rfl;rfl;all_goals(intro hc;first|(cases hc;done)|(try simp only at hc))))))
    show AWE _ _ _ _ _
    refine AWE.of ?_
    (repeat(any_goals(first|((with_reducible refine Q0b ?_ ?_);rfl;intro K hK;simp(disch:=omega) only[go_sem,k7,wrI];((repeat(refine ndI (by first|assumption|rfl) ?_));refine hK _ ?_;clear hK K))|(with_reducible first|(refine Q0c ?_;refine hR _ ?_;clear hR R)|(refine Q0a ?_;intro R hR)))))
    exact fin _ (St.to.trans (St.to.of_le (τ:=stT ex ex' l ks lp 18 (out++[y.sp]) (i+1)) (St.le_of (by simp[leT]) (by simp[leH,hget,raS]))) (stT_rn ex ex' l ks lp _ _))
 · have k1:(decide ((i:Int)<(l.length:Int)))=false:=by simpa using hge
   have e:l.take i=l:=List.take_of_length_le hge
   rw[e]
   refine AWE.seq (AWE.of ?_)
   (repeat(any_goals(first|((with_reducible refine Q0b ?_ ?_);rfl;intro K hK;simp only[go_sem,k1];((repeat(refine ndI (by first|assumption) ?_));refine hK _ ?_;clear hK K))|(with_reducible first|(refine Q0c ?_;refine hR _ ?_;clear hR R)|(refine Q0a ?_;intro R hR)))))
   refine AWE.seq (AWE.of ?_)
   (repeat(any_goals(first|(with_reducible first|refine Q0t ?_)|((with_reducible apply Q0e);rfl;rfl;all_goals(intro hc;first|(cases hc;done)|(try simp only at hc))))))
   exact⟨by simp,⟨_,rfl,AV.le_of (by simp[Q0q])⟩,Q0h (by simp[leH,hget])⟩
end
section
open Go.RowKit
open Nat (reduceBEq)
set_option maxRecDepth 20000
set_option maxHeartbeats 2000000
instance decSp:DecidableEq Sp:=fun p q=>decidable_of_iff (p.a=q.a∧p.k=q.k) ⟨fun h=>by cases p;cases q;simp_all,fun h=>by rw[h];exact⟨rfl,rfl⟩⟩
theorem X2l{p q:Sp}(hp:p.ok)(hq:q.ok):(p.a==q.a&&(l0 p.k==l0 q.k&&(l1 p.k==l1 q.k&&(l2 p.k==l2 q.k&&l3 p.k==l3 q.k))))=decide (p=q):=by
 rw[wN_eq hp.2 hq.2]
 by_cases h1:p.a=q.a
 · by_cases h2:p.k=q.k
   · have e:p=q:=by cases p;cases q;simp_all
     simp[h1,h2,e]
   · have e:¬p=q:=fun h=>h2 (by rw[h])
     simp[h1,h2,e]
 · have e:¬p=q:=fun h=>h1 (by rw[h])
   simp[h1,e]
def ddS(s:List Sp):Nat→List Sp
 |0=>[]
 |i+1=>match s[i]? with
  |none=>ddS s i
  |some b=>if 0<i∧s[i-1]? = some b then ddS s i else ddS s i++[b]
theorem Q9l{s:List Sp}{i:Nat}{a b:Sp}(ha:s[i]? = some a)(hb:s[i+1]? = some b)(e:a=b):ddS s (i+2)=ddS s (i+1):=by
 show(match s[i+1]? with|none=>_|some b=>_)=_
 rw[hb]
 dsimp only
 rw[if_pos ⟨by omega,by rw[Nat.add_sub_cancel,ha,e]⟩]
theorem X7i{s:List Sp}{i:Nat}{a b:Sp}(ha:s[i]? = some a)(hb:s[i+1]? = some b)(e:a≠b):ddS s (i+2)=ddS s (i+1)++[b]:=by
 show(match s[i+1]? with|none=>_|some b=>_)=_
 rw[hb]
 dsimp only
 rw[if_neg fun h=>by
  have h2:=h.2
  rw[Nat.add_sub_cancel,ha] at h2
  exact e (Option.some.inj h2)]
theorem X7h{s:List Sp}{a:Sp}(ha:s[0]? = some a):ddS s 1=[a]:=by
 show(match s[0]? with|none=>_|some b=>_)=_
 rw[ha]
 dsimp only
 rw[if_neg fun h=>Nat.lt_irrefl 0 h.1]
 rfl
theorem Q8b{s:List Sp}:∀{k:Nat},k<s.length→(∀j,j<k→s[j]?≠s[j+1]?)→ddS s (k+1)=s.take (k+1)
 |0,hk,_=>by
  rw[X7h (List.getElem?_eq_getElem hk),List.take_add_one,List.getElem?_eq_getElem hk]
  rfl
 |k+1,hk,h=>by
  have ih:=Q8b (k:=k) (by omega) fun j hj=>h j (by omega)
  have h1:=h k (by omega)
  rw[List.getElem?_eq_getElem (by omega),List.getElem?_eq_getElem hk] at h1
  rw[X7i (List.getElem?_eq_getElem (by omega)) (List.getElem?_eq_getElem hk) (fun e=>h1 (by rw[e])),ih,List.take_add_one (i:=k+1),List.getElem?_eq_getElem hk]
  rfl
theorem X9m(s:List Sp):∀i,(ddS s i).length≤i
 |0=>Nat.le_refl _
 |i+1=>by
  have ih:=X9m s i
  unfold ddS
  split
  · omega
  · split
    · omega
    · rw[List.length_append];simp;omega
def rcS(l:List Sp):List AV:=raS l
theorem Q4a(l:List Sp):(rcS l).length=l.length*5:=Q6u l
theorem Q7l{l:List Sp}{i:Nat}{y:Sp}(h:l[i]? = some y):((rcS l).drop (i*5)).take 5=[vi .u64 y.a,vi .u64 (l0 y.k),vi .u64 (l1 y.k),vi .u64 (l2 y.k),vi .u64 (l3 y.k)]:=by
 unfold rcS raS
 rw[←List.map_drop,←List.map_take,X6p h]
 rfl
theorem Q5n(l r:List Sp):rcS (l++r)=rcS l++rcS r:=by
 unfold rcS raS;rw[List.flatMap_append,List.map_append]
theorem Q9e(l:List Sp)(k:Nat):(rcS l).take (k*5)=rcS (l.take k):=by
 by_cases h:k≤l.length
 · conv=>lhs;rw[←List.take_append_drop k l,Q5n]
   exact List.take_left' (by rw[Q4a,List.length_take];omega)
 · rw[List.take_of_length_le (by rw[Q4a];omega),List.take_of_length_le (by omega)]
theorem rcS_drop(l:List Sp)(k:Nat):(rcS l).drop (k*5)=rcS (l.drop k):=by
 by_cases h:k≤l.length
 · conv=>lhs;rw[←List.take_append_drop k l,Q5n]
   exact List.drop_left' (by rw[Q4a,List.length_take];omega)
 · rw[List.drop_of_length_le (by rw[Q4a];omega),List.drop_of_length_le (by omega)]
   rfl
theorem X6u(l:List Sp)(k:Nat)(x:Sp)(h:k<l.length):(rcS l).take (k*5)++([vi .u64 x.a,vi .u64 (l0 x.k),vi .u64 (l1 x.k),vi .u64 (l2 x.k),vi .u64 (l3 x.k)]++(rcS l).drop (k*5+5))=rcS (l.set k x):=by
 rw[show k*5+5=(k+1)*5 by omega,Q9e,rcS_drop,List.set_eq_take_append_cons_drop,if_pos h,Q5n]
 rfl
theorem Q9q(k:Nat):Q3t [.int .u64 0,.int .u64 0,.int .u64 0,.int .u64 0,.int .u64 0] k=rcS (List.replicate k ⟨0,0⟩):=by
 unfold Q3t
 induction k with
 |zero=>rfl
 |succ k ih=>
  rw[List.replicate_succ,List.flatten_cons,ih,List.replicate_succ]
  rfl
theorem X1o(s:List Sp)(hs:s.length≤1000000)(ho:∀x∈s,x.ok):Fn Tryz.prog 49 [.row 1000 37 5 s.length] [(1000,rcS s)] (.row 1000 37 5 (ddS s s.length).length) [(1000,rcS (ddS s s.length++List.replicate (s.length-(ddS s s.length).length) ⟨0,0⟩))]:=by
 have e1:=Q4a s
 by_cases h2:s.length<2
 · have hd:ddS s s.length=s:=by
    match s,h2 with
    |[],_=>rfl
    |[a],_=>exact X7h rfl
   rw[hd,Nat.sub_self,List.replicate_zero,List.append_nil]
   have k1:(decide ((s.length:Int)<2))=true:=by simp;omega
   (refine Q0v Tryz.func49 rfl (by rfl) ?_;simp only[Tryz.ntmps49,List.length_cons,List.length_nil,Nat.reduceAdd,Nat.reduceSub,List.replicate,List.cons_append,List.nil_append])
   (repeat(any_goals(first|((with_reducible refine Q0b ?_ ?_);rfl;intro K hK;simp only[go_sem,k1];((repeat(refine ndI (by first|assumption) ?_));refine hK _ ?_;clear hK K))|(with_reducible first|(refine Q0c ?_;refine hR _ ?_;clear hR R)|((first|refine Q0d ?_);intro J hJ hJ')|(refine Q0a ?_;intro R hR)|(refine hJ _ ?_;clear hJ hJ' J)|refine Q0k ?_)|((with_reducible refine hJ' _ _ ?_ ?_);(focus(simp;done));clear hJ hJ' J)|((with_reducible apply Q0e);rfl;rfl;all_goals(intro hc;first|(cases hc;done)|(try simp only at hc))))))
   all_goals(refine⟨by simp,⟨_,?_,AV.le_refl _⟩,Q0h (by simp[leH,hget])⟩;simp only[Tryz.results49,resL,ldA,Q0q,go_sem])
 · have k1:(decide ((s.length:Int)<2))=false:=by simp;omega
   (refine Q0v Tryz.func49 rfl (by rfl) ?_;simp only[Tryz.ntmps49,List.length_cons,List.length_nil,Nat.reduceAdd,Nat.reduceSub,List.replicate,List.cons_append,List.nil_append])
   (repeat(any_goals(first|((with_reducible refine Q0b ?_ ?_);rfl;intro K hK;simp only[go_sem,k1];((repeat(refine ndI (by first|assumption) ?_));refine hK _ ?_;clear hK K))|(with_reducible first|(refine Q0c ?_;refine hR _ ?_;clear hR R)|((first|refine Q0d ?_|refine Q0g ?_);intro J hJ hJ')|(refine Q0a ?_;intro R hR)|(refine hJ _ ?_;clear hJ hJ' J)|refine Q0i ?_)|((with_reducible apply Q0e);rfl;rfl;all_goals(intro hc;first|(cases hc;done)|(try simp only at hc))))))
   refine Q1t (α:={j:Nat // j<s.length∧∀i,i<j→s[i]?≠s[i+1]?}) (fun x=>⟨[.row 1000 37 5 s.length,.any,.any,vi .i64 ((x.1+1:Nat):Int),.any,.any,.any,.any,.any,.any,.any,.any,.any,.any,.any,.any,.any,.any,.any,.any,.any,.any,.any,.any,.any,.any,.any,.any,.any,.any,.any,.any,.any,.any,.any,.any,.any,.any,.any,.any,.any,.any,.any,.any,.any,.any,.any,.any,.any,.any,.any,.any,.any,.any,.any,.any,.any,.any,.any,.any,.any],[(1000,rcS s)]⟩) (fun x=>s.length-x.1) ⟨0,by omega,fun i hi=>absurd hi (Nat.not_lt_zero _)⟩ (St.le_of (by simp[leT]) (by simp[leH,hget])) ?_
   rintro ⟨j,hj,hnd⟩ J hJ hJ'
   (try dsimp only at hJ ⊢)
   rcases Nat.lt_or_ge (j+1) s.length with hlt|hge
   · have k2:(decide (((j+1:Nat):Int)<(s.length:Int)))=true:=by simp;omega
     have k3:((j+1:Nat):Int)-1=(j:Int):=by omega
     have k4:((j+1:Nat):Int)+1=((j+1+1:Nat):Int):=by omega
     obtain⟨a,ha⟩:∃a,s[j]? = some a:=⟨_,List.getElem?_eq_getElem hj⟩
     obtain⟨b,hb⟩:∃b,s[j+1]? = some b:=⟨_,List.getElem?_eq_getElem hlt⟩
     have ea:=Q7l ha
     have eb:=Q7l hb
     have oa:=ho a (List.mem_of_getElem? ha)
     have ob:=ho b (List.mem_of_getElem? hb)
     by_cases hab:b=a
     · have k5:(b.a==a.a&&(l0 b.k==l0 a.k&&(l1 b.k==l1 a.k&&(l2 b.k==l2 a.k&&l3 b.k==l3 a.k))))=true:=by rw[X2l ob oa];simp[hab]
       have hd0:ddS s (j+1)=s.take (j+1):=Q8b hj hnd
       have hd1:ddS s (j+2)=s.take (j+1):=by rw[Q9l ha hb hab.symm,hd0]
       have hd2:(ddS s (j+2)).length=j+1:=by rw[hd1,List.length_take];omega
       (have W:=ndI k2 (ndI k3 (ndI k4 (ndI k5 (ndI e1 @wrI))));(repeat(any_goals(first|((with_reducible refine Q0b ?_ ?_);rfl;intro K hK;simp(disch:=omega) only[go_sem,W,ea,eb,bne,Bool.not_true,Bool.not_false];((repeat(refine ndI (by first|assumption|rfl) ?_));refine hK _ ?_;clear hK K))|((with_reducible refine Q0b ?_ ?_);rfl;intro K hK;(try simp(disch:=omega) only[go_sem,W,ea,eb,bne,Bool.not_true,Bool.not_false]);(repeat(refine ndI (by first|assumption|rfl) ?_));refine Q4d rfl rfl rfl rfl rfl ?_ rfl rfl rfl rfl ?_ ?_ ?_;(focus(simp only[go_sem];try rfl));(intro h;first|cases h);(first|omega);(intro q hq1 hq2;(simp(disch:=omega) only[go_sem,W,ea,eb,bne,Bool.not_true,Bool.not_false];refine hK _ ?_;clear hK K)))|(with_reducible first|(refine Q0c ?_;refine hR _ ?_;clear hR R)|((first|refine Q0d ?_|refine Q0g ?_);intro J hJ hJ')|(refine Q0a ?_;intro R hR)|(refine hJ _ ?_;clear hJ hJ' J)|refine Q0i ?_)|((with_reducible apply Q0e);rfl;rfl;all_goals(intro hc;first|(cases hc;done)|(try simp only at hc)))|((with_reducible refine Q0z ?_ ?_);kernel_rfl;(with_reducible refine hR _ ?_);clear hR R)|(((with_reducible apply Q0x);rfl;rfl;(simp(disch:=omega) only[rdE,rdOf,go_sem,W,ea,eb,bne,Bool.not_true,Bool.not_false];rfl);(intro τ hA hQ hN;((try simp only[Q1o,Op.operands,Call.operands,go_sem,W,ea,eb,bne,Bool.not_true,Bool.not_false,go_sem,List.mem_cons,List.not_mem_nil,forall_eq_or_imp,forall_eq,List.append_toArray,Option.toArray] at hA);(try simp only[go_sem,W,ea,eb,bne,Bool.not_true,Bool.not_false,List.mem_cons,List.not_mem_nil,forall_eq_or_imp,forall_eq] at hQ hN);(first|(revert hA;intro hA));(first|(revert hQ;intro hQ));(first|(revert hN;intro hN));simp(disch:=omega) only[go_sem,W,ea,eb,bne,Bool.not_true,Bool.not_false,go_sem,hA,hQ,hN];(repeat(refine ndI (by first|assumption|omega|rfl) ?_));(first|apply Q1f))));(simp(disch:=omega) only[St.eff,setO,Q0r,go_sem,W,ea,eb,bne,Bool.not_true,Bool.not_false]))|((with_reducible refine Q0y ?_ ?_ ?_ ?_);kernel_rfl;kernel_rfl;(first|kernel_rfl);intro R hR)))))
       refine Q1t (α:={p:Nat×List Sp // j+2+p.1≤s.length∧p.2.length=s.length∧(ddS s (j+2+p.1)).length≤j+1+p.1∧p.2.take (ddS s (j+2+p.1)).length=ddS s (j+2+p.1)∧p.2.drop (j+1+p.1)=s.drop (j+1+p.1)}) (fun x=>⟨[.row 1000 37 5 s.length,.any,.any,vi .i64 ((ddS s (j+2+x.1.1)).length:Int),.cut 1000 37 5 (j+1) (s.length-(j+1)) q true,vi .i64 ((x.1.1+1:Nat):Int),.any,.any,.any,.any,.any,.any,.any,.any,.any,.any,.any,.any,.any,.any,.any,.any,.any,.any,.any,.any,.any,.any,.any,.any,.any,.any,.any,.any,.any,.any,.any,.any,.any,.any,.any,.any,.any,.any,.any,.any,.any,.any,.any,.any,.any,.any,.any,.any,.any,.any,.any,.any,.any,.any,.any],[(1000,rcS x.1.2)]⟩) (fun x=>s.length-x.1.1) ⟨(0,s),by dsimp only;omega,rfl,by dsimp only;rw[Nat.add_zero,hd2];omega,by dsimp only;rw[Nat.add_zero,hd2,hd1],rfl⟩ (St.le_of (by simp[leT,hd2]) (by simp[leH,hget])) ?_
       rintro ⟨⟨i,m⟩,c1,c2,c3,c4,c5⟩ J hJ hJ'
       dsimp only at c1 c2 c3 c4 c5
       (try dsimp only at hJ ⊢)
       obtain⟨d,hd⟩:∃d,(ddS s (j+2+i)).length=d:=⟨_,rfl⟩
       rcases Nat.lt_or_ge (j+2+i) s.length with hlt2|hge2
       · have n2:(decide (((i+1:Nat):Int)<((s.length-(j+1):Nat):Int)))=true:=by simp;omega
         have n3:((i+1:Nat):Int)-1=(i:Int):=by omega
         have n4:((i+1:Nat):Int)+1=((i+1+1:Nat):Int):=by omega
         have n6:((d:Nat):Int)+1=((d+1:Nat):Int):=by omega
         obtain⟨a',ha'⟩:∃a,s[j+1+i]? = some a:=⟨_,List.getElem?_eq_getElem (by omega)⟩
         obtain⟨b',hb'⟩:∃b,s[j+1+i+1]? = some b:=⟨_,List.getElem?_eq_getElem (by omega)⟩
         have hm:∀x,m[j+1+i+x]? = s[j+1+i+x]?:=fun x=>by
          rw[←List.getElem?_drop,←List.getElem?_drop,c5]
         have ea':=Q7l (l:=m) (by rw[←ha'];exact hm 0)
         have eb':=Q7l (l:=m) (by rw[←hb'];exact hm 1)
         rw[Nat.add_assoc (j+1) i 1] at eb'
         rw[Nat.add_zero] at ea'
         have c3':d≤j+1+i:=by rw[←hd];exact c3
         have oa':=ho a' (List.mem_of_getElem? ha')
         have ob':=ho b' (List.mem_of_getElem? hb')
         have hset:(rcS m).take (d*5)++[vi .u64 b'.a,vi .u64 (l0 b'.k),vi .u64 (l1 b'.k),vi .u64 (l2 b'.k),vi .u64 (l3 b'.k)]++(rcS m).drop (d*5+5)=rcS (m.set d b'):=by
          rw[List.append_assoc]
          exact X6u m d b' (by omega)
         have hdl:d<s.length:=by omega
         have hml:(rcS m).length=s.length*5:=by rw[Q4a,c2]
         rw[hd] at c3 c4
         rw[hd]
         by_cases hab':b'=a'
         · have n5:(b'.a==a'.a&&(l0 b'.k==l0 a'.k&&(l1 b'.k==l1 a'.k&&(l2 b'.k==l2 a'.k&&l3 b'.k==l3 a'.k))))=true:=by rw[X2l ob' oa'];simp[hab']
           have en:=Q9l (s:=s) ha' hb' hab'.symm
           have hJ1:=fun σ'=>hJ σ' ⟨(i+1,m),by dsimp only;omega,c2,by
            dsimp only
            rw[show j+2+(i+1)=j+1+i+2 by omega,en,show j+1+i+1=j+2+i by omega,hd]
            omega,by
            dsimp only
            rw[show j+2+(i+1)=j+1+i+2 by omega,en,show j+1+i+1=j+2+i by omega,hd]
            exact c4,by
            dsimp only
            rw[show j+1+(i+1)=j+1+i+1 by omega,←List.drop_drop,c5,List.drop_drop]⟩ (by dsimp only;omega)
           dsimp only at hJ1
           rw[show j+2+(i+1)=j+1+i+2 by omega,en,show j+1+i+1=j+2+i by omega,hd] at hJ1
           (have W:=ndI n2 (ndI n3 (ndI n4 (ndI n5 (ndI n6 @wrI))));(repeat(any_goals(first|((with_reducible refine Q0b ?_ ?_);rfl;intro K hK;simp(disch:=omega) only[go_sem,W,ea',eb',hset,hml,bne,Bool.not_true,Bool.not_false];((repeat(refine ndI (by first|assumption|rfl) ?_));refine hK _ ?_;clear hK K))|(with_reducible first|(refine Q0c ?_;refine hR _ ?_;clear hR R)|((first|refine Q0d ?_|refine Q0g ?_);intro J hJ hJ')|(refine Q0a ?_;intro R hR)|(refine hJ _ ?_;clear hJ hJ' J)|refine Q0i ?_)|((with_reducible refine hJ' _ _ ?_ ?_);(focus(simp;done));clear hJ hJ' J)|((with_reducible apply Q0e);rfl;rfl;all_goals(intro hc;first|(cases hc;done)|(try simp only at hc)))|((with_reducible refine Q0z ?_ ?_);kernel_rfl;(with_reducible refine hR _ ?_);clear hR R)|((first|((with_reducible apply Q0x);rfl;rfl;(simp(disch:=omega) only[rdE,rdOf,go_sem,W,ea',eb',hset,hml,bne,Bool.not_true,Bool.not_false];rfl);(intro τ hA hQ hN;((try simp only[Q1o,Op.operands,Call.operands,go_sem,W,ea',eb',hset,hml,bne,Bool.not_true,Bool.not_false,go_sem,List.mem_cons,List.not_mem_nil,forall_eq_or_imp,forall_eq,List.append_toArray,Option.toArray] at hA);(try simp only[go_sem,W,ea',eb',hset,hml,bne,Bool.not_true,Bool.not_false,List.mem_cons,List.not_mem_nil,forall_eq_or_imp,forall_eq] at hQ hN);(first|(revert hA;intro hA));(first|(revert hQ;intro hQ));(first|(revert hN;intro hN));simp(disch:=omega) only[go_sem,W,ea',eb',hset,hml,bne,Bool.not_true,Bool.not_false,go_sem,hA,hQ,hN];(repeat(refine ndI (by first|assumption|omega|rfl) ?_));(first|apply Q1f))))|((first|((with_reducible apply Q3n);rfl));apply Q2k;rfl;rfl;rfl;rfl;rfl;(focus(simp only[go_sem];try rfl));(first|omega)));(simp(disch:=omega) only[St.eff,setO,Q0r,go_sem,W,ea',eb',hset,hml,bne,Bool.not_true,Bool.not_false]))|((with_reducible refine Q0y ?_ ?_ ?_ ?_);kernel_rfl;kernel_rfl;(first|kernel_rfl);intro R hR)))))
           all_goals exact hJ1 _ (St.le_of (by simp[leT]) (by simp[leH,hget]))
         · have n5:(b'.a==a'.a&&(l0 b'.k==l0 a'.k&&(l1 b'.k==l1 a'.k&&(l2 b'.k==l2 a'.k&&l3 b'.k==l3 a'.k))))=false:=by rw[X2l ob' oa'];simp[hab']
           have en:=X7i (s:=s) ha' hb' (fun e=>hab' e.symm)
           have hl':(ddS s (j+1+i+2)).length=d+1:=by
            rw[en,List.length_append,show j+1+i+1=j+2+i by omega,hd];rfl
           have hJ1:=fun σ'=>hJ σ' ⟨(i+1,m.set d b'),by dsimp only;omega,by dsimp only;rw[List.length_set];exact c2,by
            dsimp only
            rw[show j+2+(i+1)=j+1+i+2 by omega,hl']
            omega,by
            dsimp only
            rw[show j+2+(i+1)=j+1+i+2 by omega,hl',en,show j+1+i+1=j+2+i by omega,List.set_eq_take_append_cons_drop,if_pos (by omega),c4,List.take_append,hd]
            rw[List.take_of_length_le (by omega),show d+1-d=1 by omega]
            rfl,by
            dsimp only
            rw[List.drop_set,if_pos (by omega),show j+1+(i+1)=j+1+i+1 by omega,←List.drop_drop,c5,List.drop_drop]⟩ (by dsimp only;omega)
           dsimp only at hJ1
           rw[show j+2+(i+1)=j+1+i+2 by omega,hl'] at hJ1
           (have W:=ndI n2 (ndI n3 (ndI n4 (ndI n5 (ndI n6 @wrI))));(repeat(any_goals(first|((with_reducible refine Q0b ?_ ?_);rfl;intro K hK;simp(disch:=omega) only[go_sem,W,ea',eb',hset,hml,bne,Bool.not_true,Bool.not_false];((repeat(refine ndI (by first|assumption|omega|rfl) ?_));refine hK _ ?_;clear hK K))|((with_reducible refine Q0b ?_ ?_);rfl;intro K hK;(try simp(disch:=omega) only[go_sem,W,ea',eb',hset,hml,bne,Bool.not_true,Bool.not_false]);(repeat(refine ndI (by first|assumption|rfl) ?_));refine Q1n rfl rfl rfl rfl rfl ?_ ?_ ?_;(focus(simp only[go_sem];try rfl));(first|omega);(simp(disch:=omega) only[go_sem,W,ea',eb',hset,hml,bne,Bool.not_true,Bool.not_false];refine hK _ ?_;clear hK K))|(with_reducible first|(refine Q0c ?_;refine hR _ ?_;clear hR R)|((first|refine Q0d ?_|refine Q0g ?_);intro J hJ hJ')|(refine Q0a ?_;intro R hR)|(refine hJ _ ?_;clear hJ hJ' J)|refine Q0i ?_)|((with_reducible refine hJ' _ _ ?_ ?_);(focus(simp;done));clear hJ hJ' J)|((with_reducible apply Q0e);rfl;rfl;all_goals(intro hc;first|(cases hc;done)|(try simp only at hc)))|((with_reducible refine Q0z ?_ ?_);kernel_rfl;(with_reducible refine hR _ ?_);clear hR R)|((first|((with_reducible apply Q0x);rfl;rfl;(simp(disch:=omega) only[rdE,rdOf,go_sem,W,ea',eb',hset,hml,bne,Bool.not_true,Bool.not_false];rfl);(intro τ hA hQ hN;((try simp only[Q1o,Op.operands,Call.operands,go_sem,W,ea',eb',hset,hml,bne,Bool.not_true,Bool.not_false,go_sem,List.mem_cons,List.not_mem_nil,forall_eq_or_imp,forall_eq,List.append_toArray,Option.toArray] at hA);(try simp only[go_sem,W,ea',eb',hset,hml,bne,Bool.not_true,Bool.not_false,List.mem_cons,List.not_mem_nil,forall_eq_or_imp,forall_eq] at hQ hN);(first|(revert hA;intro hA));(first|(revert hQ;intro hQ));(first|(revert hN;intro hN));simp(disch:=omega) only[go_sem,W,ea',eb',hset,hml,bne,Bool.not_true,Bool.not_false,go_sem,hA,hQ,hN];(repeat(refine ndI (by first|assumption|omega|rfl) ?_));(first|apply Q1f))))|((first|((with_reducible apply Q3n);rfl));apply Q2k;rfl;rfl;rfl;rfl;rfl;(focus(simp only[go_sem];try rfl));(first|omega)));(simp(disch:=omega) only[St.eff,setO,Q0r,go_sem,W,ea',eb',hset,hml,bne,Bool.not_true,Bool.not_false]))|((with_reducible refine Q0y ?_ ?_ ?_ ?_);kernel_rfl;kernel_rfl;(first|kernel_rfl);intro R hR)))))
           all_goals exact hJ1 _ (St.le_of (by simp[leT]) (by simp[leH,hget]))
       · have n2:(decide (((i+1:Nat):Int)<((s.length-(j+1):Nat):Int)))=false:=by simp;omega
         have e:j+2+i=s.length:=by omega
         rw[e] at hd c4
         rw[hd] at c4
         have hdl:d≤s.length:=by rw[←hd];exact X9m s _
         have hml:=Q4a m
         have hfin:rcS (ddS s s.length++List.replicate (s.length-d) ⟨0,0⟩)=spl (rcS m) (d*5) (Q3t [.int .u64 0,.int .u64 0,.int .u64 0,.int .u64 0,.int .u64 0] (s.length-d)):=by
          unfold spl
          rw[Q9q,Q4a,List.length_replicate,Q5n,Q9e,c4,List.drop_of_length_le (by rw[hml,c2];omega)]
          show _=_++[]
          rw[List.append_nil]
         rw[e,hd]
         have hr:(AV.row 1000 37 5 (ddS s s.length).length) = .row 1000 37 5 d:=by rw[hd]
         have hcc:ddS s s.length++List.replicate (s.length-(ddS s s.length).length) ⟨0,0⟩=ddS s s.length++List.replicate (s.length-d) ⟨0,0⟩:=by rw[hd]
         (repeat(any_goals(first|((with_reducible refine Q0b ?_ ?_);rfl;intro K hK;simp(disch:=omega) only[go_sem,n2,wrI,bne,Bool.not_true,Bool.not_false];((repeat(refine ndI (by first|assumption|rfl) ?_));refine hK _ ?_;clear hK K))|((with_reducible refine Q0b ?_ ?_);rfl;intro K hK;(try simp(disch:=omega) only[go_sem,n2,wrI,bne,Bool.not_true,Bool.not_false]);(repeat(refine ndI (by first|assumption|rfl) ?_));refine Q4d rfl rfl rfl rfl rfl ?_ rfl rfl rfl rfl ?_ ?_ ?_;(focus(simp only[go_sem];try rfl));(intro h;first|rfl|cases h);(first|omega);(intro q hq1 hq2;(simp(disch:=omega) only[go_sem,n2,wrI,bne,Bool.not_true,Bool.not_false];refine hK _ ?_;clear hK K)))|((with_reducible refine Q0b ?_ ?_);rfl;intro K hK;(try simp(disch:=omega) only[go_sem,n2,wrI,bne,Bool.not_true,Bool.not_false]);(repeat(refine ndI (by first|assumption) ?_));apply Q5r;rfl;rfl;(focus(simp only[go_sem];try rfl));(first|omega);(simp(disch:=omega) only[go_sem,Option.bind_some];rfl);rfl;rfl;rfl;rfl;(first|omega);(simp(disch:=omega) only[go_sem,n2,wrI,bne,Bool.not_true,Bool.not_false];refine hK _ ?_;clear hK K))|(with_reducible first|(refine Q0c ?_;refine hR _ ?_;clear hR R)|((first|refine Q0d ?_);intro J hJ hJ')|(refine Q0a ?_;intro R hR)|(refine hJ _ ?_;clear hJ hJ' J)|refine Q0k ?_|refine Q0t ?_)|((with_reducible refine hJ' _ _ ?_ ?_);(focus(simp;done));clear hJ hJ' J)|((with_reducible apply Q0e);rfl;rfl;all_goals(intro hc;first|(cases hc;done)|(try simp only at hc))))))
         all_goals rw[hr,hcc,hfin]
         all_goals refine⟨by simp,⟨_,rfl,AV.le_cut _ _ _ _ _⟩,Q0h ⟨?_,trivial⟩⟩
         all_goals simp[Q1y,spl,List.append_assoc]
     · have k5:(b.a==a.a&&(l0 b.k==l0 a.k&&(l1 b.k==l1 a.k&&(l2 b.k==l2 a.k&&l3 b.k==l3 a.k))))=false:=by rw[X2l ob oa];simp[hab]
       have hJ1:=fun σ'=>hJ σ' ⟨j+1,hlt,fun i hi=>by
        rcases Nat.lt_or_ge i j with h|h
        · exact hnd i h
        · obtain rfl:i=j:=by omega
          rw[ha,hb]
          exact fun e=>hab (Option.some.inj e).symm⟩ (by dsimp only;omega)
       dsimp only at hJ1
       (have W:=ndI k2 (ndI k3 (ndI k4 (ndI k5 (ndI e1 @wrI))));(repeat(any_goals(first|((with_reducible refine Q0b ?_ ?_);rfl;intro K hK;simp(disch:=omega) only[go_sem,W,ea,eb,bne,Bool.not_true,Bool.not_false];((repeat(refine ndI (by first|assumption|rfl) ?_));refine hK _ ?_;clear hK K))|(with_reducible first|(refine Q0c ?_;refine hR _ ?_;clear hR R)|((first|refine Q0d ?_|refine Q0g ?_);intro J hJ hJ')|(refine Q0a ?_;intro R hR)|(refine hJ _ ?_;clear hJ hJ' J)|refine Q0i ?_)|((with_reducible refine hJ' _ _ ?_ ?_);(focus(simp;done));clear hJ hJ' J)|((with_reducible apply Q0e);rfl;rfl;all_goals(intro hc;first|(cases hc;done)|(try simp only at hc)))|((with_reducible refine Q0z ?_ ?_);kernel_rfl;(with_reducible refine hR _ ?_);clear hR R)|(((with_reducible apply Q0x);rfl;rfl;(simp(disch:=omega) only[rdE,rdOf,go_sem,W,ea,eb,bne,Bool.not_true,Bool.not_false];rfl);(intro τ hA hQ hN;((try simp only[Q1o,Op.operands,Call.operands,go_sem,W,ea,eb,bne,Bool.not_true,Bool.not_false,go_sem,List.mem_cons,List.not_mem_nil,forall_eq_or_imp,forall_eq,List.append_toArray,Option.toArray] at hA);(try simp only[go_sem,W,ea,eb,bne,Bool.not_true,Bool.not_false,List.mem_cons,List.not_mem_nil,forall_eq_or_imp,forall_eq] at hQ hN);(first|(revert hA;intro hA));(first|(revert hQ;intro hQ));(first|(revert hN;intro hN));simp(disch:=omega) only[go_sem,W,ea,eb,bne,Bool.not_true,Bool.not_false,go_sem,hA,hQ,hN];(repeat(refine ndI (by first|assumption|omega|rfl) ?_));(first|apply Q1f))));(simp(disch:=omega) only[St.eff,setO,Q0r,go_sem,W,ea,eb,bne,Bool.not_true,Bool.not_false]))|((with_reducible refine Q0y ?_ ?_ ?_ ?_);kernel_rfl;kernel_rfl;(first|kernel_rfl);intro R hR)))))
       all_goals exact hJ1 _ (St.le_of (by simp[leT]) (by simp[leH,hget]))
   · have k2:(decide (((j+1:Nat):Int)<(s.length:Int)))=false:=by simp;omega
     have hd:ddS s s.length=s:=by
      have e:s.length=j+1:=by omega
      rw[e,Q8b hj hnd,←e,List.take_length]
     have hr:(AV.row 1000 37 5 (ddS s s.length).length) = .row 1000 37 5 s.length:=by rw[hd]
     have hcc:ddS s s.length++List.replicate (s.length-(ddS s s.length).length) ⟨0,0⟩=s:=by rw[hd,Nat.sub_self,List.replicate_zero,List.append_nil]
     (repeat(any_goals(first|((with_reducible refine Q0b ?_ ?_);rfl;intro K hK;simp only[go_sem,k2];((repeat(refine ndI (by first|assumption) ?_));refine hK _ ?_;clear hK K))|(with_reducible first|(refine Q0c ?_;refine hR _ ?_;clear hR R)|((first|refine Q0d ?_);intro J hJ hJ')|(refine Q0a ?_;intro R hR)|(refine hJ _ ?_;clear hJ hJ' J)|refine Q0k ?_|refine Q0t ?_)|((with_reducible refine hJ' _ _ ?_ ?_);(focus(simp;done));clear hJ hJ' J)|((with_reducible apply Q0e);rfl;rfl;all_goals(intro hc;first|(cases hc;done)|(try simp only at hc))))))
     all_goals rw[hr,hcc]
     all_goals(refine⟨by simp,⟨_,?_,AV.le_refl _⟩,Q0h (by simp[leH,hget])⟩;simp only[Tryz.results49,resL,ldA,Q0q,go_sem])
end
section
open Go
set_option maxRecDepth 20000
set_option maxHeartbeats 4000000
def rw_{α : Type}:Result α→World
 |.ok _ w=>w
 |.halt _ w=>w
theorem X5r(w:World)(a:Addr)(n:Nat):(w.freeze a n).drawn=w.drawn:=by
 unfold World.freeze;split<;>rfl
theorem X4l{p:Program}{w w':World}{at_:Addr}{u:TypeId}{k:Addr}{v:Value}{atomic:Bool}{l:List Addr}(h:w.viewStore p at_ u k v atomic = .ok (w',l)):w'.drawn=w.drawn:=by
 unfold World.viewStore at h
 simp only[bind,Except.bind,pure,Except.pure,throw,throwThe,MonadExceptOf.throw,MonadExcept.throw] at h
 repeat' (split at h)
 all_goals first
  |(cases h;rfl)
  |cases h
  |skip
theorem X0m{p:Program}{w w':World}{a:Addr}{v:Value}{atomic:Bool}{l:List Addr}(h:w.farStore p a v atomic = .ok (w',l)):w'.drawn=w.drawn:=by
 unfold World.farStore at h
 split at h
 · split at h
   · rename_i r hr
     cases h
     exact X4l hr
   · cases h
 · cases h
theorem ask_dr{α : Type}:∀(x:Ask α) (w:World),w.drawn≤(w.ask x).2.drawn
 |.done a,w=>Nat.le_refl _
 |.ask what range k,w=>by
  unfold World.ask
  dsimp only
  split
  · exact ask_dr (k 0) w
  · exact Nat.le_trans (Nat.le_succ _) (ask_dr (k _) {w with drawn:=w.drawn+1})
theorem sys_dr(w:World)(c:Sys):w.drawn≤(w.sys c).2.drawn:=by
 unfold World.sys
 split
 · exact Nat.le_refl _
 · rename_i r os w' h
   have:=ask_dr (Kernel.perform c w.os) w
   rw[h] at this
   exact this
theorem Q1w{α : Type}(p:Program):∀(s:Sem α) (w:World),w.drawn≤(rw_ (s.run p w)).drawn
 |.pure a,w=>Nat.le_refl _
 |.load m a k,w=>by
  unfold Sem.run
  split
  · exact Q1w p (k _) w
  · split
    · exact Q1w p (k _) w
    · exact Nat.le_refl _
 |.store m a v k,w=>by
  cases v<;>unfold Sem.run<;>try exact Nat.le_refl _
  all_goals
   split
   · split
     · exact Nat.le_refl _
     · exact Q1w p k (w.setCell a _)
   · split
     · rename_i h
       have h1:=X0m h
       exact h1▸Q1w p k _
     · exact Nat.le_refl _
 |.new o k,w=>by unfold Sem.run;exact Q1w p (k _) {w with heap:=w.heap.push o}
 |.shape r k,w=>by unfold Sem.run;exact Q1w p (k _) w
 |.freeze a n k,w=>by
  unfold Sem.run
  have h:=Q1w p k (w.freeze a n)
  rwa [X5r] at h
 |.frozen a k,w=>by unfold Sem.run;exact Q1w p (k _) w
 |.getObj r k,w=>by
  unfold Sem.run
  split
  · exact Nat.le_refl _
  · exact Q1w p (k _) w
  · exact Nat.le_refl _
 |.setObj r o k,w=>by
  unfold Sem.run
  split
  · exact Nat.le_refl _
  · exact Q1w p k {w with heap:=w.heap.setIfInBounds r o}
  · exact Nat.le_refl _
 |.choose q k,w=>by
  unfold Sem.run
  split
  · exact Q1w p (k 0) w
  · exact Nat.le_trans (Nat.le_succ _) (Q1w p (k _) {w with drawn:=w.drawn+1})
 |.sys c k,w=>by
  unfold Sem.run
  exact Nat.le_trans (sys_dr w c) (Q1w p (k _) _)
 |.program k,w=>by unfold Sem.run;exact Q1w p (k p) w
 |.mark m k,w=>by unfold Sem.run;exact Q1w p k w
 |.halt h,w=>Nat.le_refl _
theorem Q2b{α : Type}(p:Program):∀(s:Sem α) (w:World) (es:Array Event),w.drawn≤(rw_ (s.runT p w es).1).drawn
 |.pure a,w,es=>Nat.le_refl _
 |.load m a k,w,es=>by
  unfold Sem.runT
  split
  · exact Q2b p (k _) w _
  · split
    · exact Q2b p (k _) w _
    · exact Nat.le_refl _
 |.store m a v k,w,es=>by
  cases v<;>unfold Sem.runT<;>try exact Nat.le_refl _
  all_goals
   split
   · split
     · exact Nat.le_refl _
     · exact Q2b p k (w.setCell a _) _
   · split
     · rename_i h
       have h1:=X0m h
       exact h1▸Q2b p k _ _
     · exact Nat.le_refl _
 |.new o k,w,es=>by unfold Sem.runT;exact Q2b p (k _) {w with heap:=w.heap.push o} _
 |.shape r k,w,es=>by unfold Sem.runT;exact Q2b p (k _) w _
 |.freeze a n k,w,es=>by
  unfold Sem.runT
  have h:=Q2b p k (w.freeze a n) es
  rwa [X5r] at h
 |.frozen a k,w,es=>by unfold Sem.runT;exact Q2b p (k _) w _
 |.getObj r k,w,es=>by
  unfold Sem.runT
  split
  · exact Nat.le_refl _
  · exact Q2b p (k _) w _
  · exact Nat.le_refl _
 |.setObj r o k,w,es=>by
  unfold Sem.runT
  split
  · exact Nat.le_refl _
  · exact Q2b p k {w with heap:=w.heap.setIfInBounds r o} _
  · exact Nat.le_refl _
 |.choose q k,w,es=>by
  unfold Sem.runT
  split
  · exact Q2b p (k 0) w _
  · exact Nat.le_trans (Nat.le_succ _) (Q2b p (k _) {w with drawn:=w.drawn+1} _)
 |.sys c k,w,es=>by
  unfold Sem.runT
  exact Nat.le_trans (sys_dr w c) (Q2b p (k _) _ _)
 |.program k,w,es=>by unfold Sem.runT;exact Q2b p (k p) w _
 |.mark m k,w,es=>by unfold Sem.runT;exact Q2b p k w _
 |.halt h,w,es=>Nat.le_refl _
def gw:GStep→World
 |.go _ w _=>w
 |.comm _ _ _ _ w _=>w
 |.spawn _ _ w _=>w
 |.count _ w _=>w
 |.timer _ _ w _=>w
 |.alone _ _ w _=>w
 |.newcoro _ _ _ w _=>w
 |.coroswitch _ _ _ w _=>w
 |.collect _ w _=>w
 |.watch _ w _=>w
 |.ended _ w _=>w
theorem Q4r(es:Array Event)(s:GStep):gw (s.after es)=gw s:=by cases s<;>rfl
theorem Q7e(p:Program)(main:Bool)(fr:Frame)(callers:List Frame)(dying:Option Dying)(v:Value)(w:World):gw (doReturn p main fr callers dying v w)=w:=by
 unfold doReturn
 repeat' (first|split|dsimp only)
 all_goals rfl
theorem X7g(fr:Frame)(m:String)(w:World):gw (endThrow fr m w)=w:=rfl
theorem Z0t(w:World)(fd:Nat)(text:ByteArray)(o:Outcome):w.drawn≤(gw (endWith w fd text o)).drawn:=by
 have h:=sys_dr w (.write fd text)
 unfold endWith
 generalize w.sys (.write fd text)=x at h ⊢
 obtain⟨r,w'⟩:=x
 dsimp only at h ⊢
 repeat' (first|split)
 all_goals simp_all [gw]
theorem Q6l(p:Program)(fr:Frame)(v:Value)(w:World):gw (endPrinting p fr v w)=w:=by
 unfold endPrinting
 dsimp only
 split<;>rfl
theorem X0q(p:Program)(fr:Frame)(callers:List Frame)(dying:Option Dying)(m:String)(w:World):w.drawn≤(gw (endFatal p fr callers dying m w)).drawn:=by
 unfold endFatal
 extract_lets chain raw shown
 have h:=Q1w p shown w
 generalize shown.run p w=x at h ⊢
 cases x with
 |ok a w'=>exact h
 |halt e w'=>
  dsimp only[rw_] at h ⊢
  split<;>rename_i hq<;>cases hq<;>exact h
theorem Z0a(p:Program)(fr:Frame)(d:Dying)(f:Fatal)(w:World):w.drawn≤(gw (writeOn p fr d f w)).drawn:=by
 unfold writeOn
 extract_lets on
 split
 · exact Nat.le_refl _
 · dsimp only
   split
   all_goals exact Nat.le_trans (Q2b _ _ _ _) (Nat.le_of_eq (congrArg (fun x=>(rw_ x.1).drawn) ‹Sem.runT _ _ _ _=_›))
theorem die_gw(p:Program)(fr:Frame)(d:Dying)(w:World):w.drawn≤(gw (die p fr d w)).drawn:=by
 unfold die
 split
 · exact Z0a _ _ _ _ _
 · split
   · split
     · exact Nat.le_refl _
     · exact Z0t _ _ _ _
   · dsimp only
     split
     · exact Nat.le_refl _
     · have h:=Q1w p (withAddress ‹ByteArray›) w
       generalize (withAddress ‹ByteArray›).run p w=x at h ⊢
       cases x<;>exact h
     · rename_i t recv name _
       have h:=Q2b p (invoke (.fn (.method name) #[]) #[.iface t recv]) w #[]
       generalize (invoke (.fn (.method name) #[]) #[.iface t recv]).runT p w #[]=x at h ⊢
       obtain⟨x,es⟩:=x
       rw[Q4r]
       cases x<;>dsimp only[rw_] at h ⊢<;> split<;>(try(rename_i h1;cases h1))<;>first|exact h|(rw[Q6l];exact h)|exact Nat.le_refl _
     · exact Nat.le_refl _
theorem X5o{c:Prop}[Decidable c]{a b:GStep}{w:World}(ha:w.drawn≤(gw a).drawn)(hb:w.drawn≤(gw b).drawn):w.drawn≤(gw (if c then a else b)).drawn:=by
 split
 · exact ha
 · exact hb
theorem X1b(p:Program)(fr:Frame)(callers:List Frame)(dying:Option Dying)(d:Deferred)(w:World):w.drawn≤(gw (callDeferred p fr callers dying d w)).drawn:=by
 unfold callDeferred
 refine X5o ?_ ?_
 · exact Nat.le_refl _
 · have h:=Q2b p (invoke d.target d.args) w #[]
   generalize (invoke d.target d.args).runT p w #[]=x at h ⊢
   obtain⟨x,es⟩:=x
   dsimp only
   rw[Q4r]
   cases x<;>dsimp only[rw_] at h ⊢<;> split<;>(try(rename_i h1;cases h1))<;>(try(split))<;>first|exact h|(rw[X7g];exact h)|exact Nat.le_trans h (X0q _ _ _ _ _ _)
theorem unwind_gw(p:Program)(main:Bool)(fr:Frame)(callers:List Frame)(dying:Option Dying)(w:World):w.drawn≤(gw (unwind p main fr callers dying w)).drawn:=by
 unfold unwind
 split
 · rename_i block _ ds _
   have h:=Q2b p (Instr.takeDeferred block) w #[]
   generalize (Instr.takeDeferred block).runT p w #[]=x at h ⊢
   obtain⟨x,es⟩:=x
   dsimp only
   rw[Q4r]
   cases x<;>exact h
 · exact X1b _ _ _ _ _ _
 · split
   · exact Nat.le_refl _
   · split
     · exact Nat.le_refl _
     · split
       · exact Nat.le_refl _
       · split
         · split
           · exact Nat.le_refl _
           · rename_i chain _ _ _ _ _
             have h:=Q1w p (reportChain chain false) w
             generalize (reportChain chain false).run p w=x at h ⊢
             cases x<;>dsimp only[rw_] at h ⊢<;> (try split)<;>(try(rename_i h1;cases h1))<;>exact h
         · split
           · rw[Q6l];exact Nat.le_refl _
           · exact Nat.le_refl _
   · split
     · rw[Q7e];exact Nat.le_refl _
     · rename_i fn _
       have h:=Q2b p (results fn fr.tmps) w #[]
       generalize (results fn fr.tmps).runT p w #[]=x at h ⊢
       obtain⟨x,es⟩:=x
       dsimp only
       rw[Q4r]
       cases x<;>dsimp only[rw_] at h ⊢<;> (try split)<;>(try(rename_i h1;cases h1))<;>first|exact h|(rw[Q7e];exact h)
theorem early_gw(p:Program)(fr:Frame)(callers:List Frame)(dying:Option Dying)(g:Nat)(w:World):w.drawn≤(gw (early p fr callers dying g w)).drawn:=by
 have hn:∀w:World,w.drawn≤(gw (match w.heap[g]? with
  |some (.pending c elem)=>
   .go {frame:=fr,callers,status:=.running,dying} {w with heap:=w.heap.setIfInBounds g (.cells c elem)}
  |_=>.ended (.stuck "early: the variable does not wait" (fr.pos p)) w)).drawn:=fun w=>by
  split<;>exact Nat.le_refl _
 unfold early
 extract_lets refuse notYet
 have hn':∀w:World,w.drawn≤(gw (notYet w)).drawn:=fun w=>by
  show w.drawn≤(gw (match w.heap[g]? with|some (.pending c elem)=>_|_=>_)).drawn
  split<;>exact Nat.le_refl _
 split
 · exact hn' w
 · split
   · exact Nat.le_refl _
   · extract_lets there
     have ht:∀w:World,w.drawn≤(gw (there w)).drawn:=fun w=>Nat.le_refl _
     have h:=Q1w p (choose (.early g)) w
     generalize (choose (.early g)).run p w=x at h ⊢
     repeat' split
     all_goals first
      |exact hn' w
      |exact ht w
      |exact Nat.le_refl _
      |exact Nat.le_trans h (hn' _)
      |exact Nat.le_trans h (ht _)
      |exact h
theorem Q9p(p:Program)(listen:Bool)(fr:Frame)(callers:List Frame)(dying:Option Dying)(s:Sem Next)(w:World):w.drawn≤(gw (stepG.apply p listen fr callers dying s w)).drawn:=by
 unfold stepG.apply
 extract_lets go kind
 have h:w.drawn≤(rw_ (if listen then s.runT p w #[] else(s.run p w,#[])).1).drawn:=by
  split
  · exact Q2b p s w #[]
  · exact Q1w p s w
 generalize (if listen then s.runT p w #[] else(s.run p w,#[]):Result Next×Array Event)=x at h ⊢
 obtain⟨x,es⟩:=x
 dsimp only
 rw[Q4r]
 cases x<;>dsimp only[rw_] at h ⊢<;> (try split)<;>(try(rename_i h1;cases h1))<;>(try exact h)
 all_goals first
  |exact Nat.le_trans h (X0q _ _ _ _ _ _)
  |exact Nat.le_trans h (early_gw _ _ _ _ _ _)
  |(refine X5o ?_ ?_<;>exact h)
  |(split<;>exact h)
theorem oper_gw(p:Program)(listen:Bool)(fr:Frame)(callers:List Frame)(dying:Option Dying)(w:World):w.drawn≤(gw (stepG.oper p listen fr callers dying w)).drawn:=by
 unfold stepG.oper
 split
 · exact Nat.le_refl _
 · split<;>exact Q9p _ _ _ _ _ _ _
theorem exec_gw(p:Program)(main listen:Bool)(fr:Frame)(callers:List Frame)(dying:Option Dying)(w:World):w.drawn≤(gw (stepG.exec p main listen fr callers dying w)).drawn:=by
 unfold stepG.exec
 extract_lets go to lost leave
 have hgo:∀(fr:Frame) (w':World),gw (go fr w')=w':=fun _ _=>rfl
 have hto:∀l,gw (to l)=w:=fun _=>rfl
 have hlo:∀s,gw (lost s)=w:=fun _=>rfl
 have hle:∀j,w.drawn≤(gw (leave j)).drawn:=fun j=>by
  show w.drawn≤(gw (match fr.roundOf with|none=>_|some l=>_)).drawn
  split
  · refine X5o ?_ ?_<;>exact Nat.le_refl _
  · rename_i l _
    have h:=Q2b p (Instr.endRound l j) w #[]
    generalize (Instr.endRound l j).runT p w #[]=x at h ⊢
    obtain⟨x,es⟩:=x
    dsimp only
    rw[Q4r]
    cases x<;>dsimp only[rw_] at h ⊢
    · rw[Q7e];exact h
    · exact h
 clear_value go to lost leave
 split
 all_goals(try dsimp only)
 all_goals first
  |exact hle _
  |(rw[hto];exact Nat.le_refl _)
  |(rw[hlo];exact Nat.le_refl _)
  |exact Nat.le_refl _
  |exact Q9p _ _ _ _ _ _ _
  |(split<;>first|(rw[hto];exact Nat.le_refl _)|(rw[hlo];exact Nat.le_refl _))
  |skip
 · cases exitTo _ _ with
   |none=>exact hle _
   |some l=>exact Nat.le_of_eq (congrArg World.drawn (hto l)).symm
 · cases gotoIn _ _ with
   |none=>exact hle _
   |some l=>exact Nat.le_of_eq (congrArg World.drawn (hto l)).symm
 · rename_i f params assign body k _
   have h:=Q2b p (Instr.enterLoop fr.fn fr.tmps params assign body fr.roundOf) w #[]
   generalize (Instr.enterLoop fr.fn fr.tmps params assign body fr.roundOf).runT p w #[]=x at h ⊢
   obtain⟨x,es⟩:=x
   dsimp only
   rw[Q4r]
   cases x<;>dsimp only[rw_] at h ⊢
   · exact Nat.le_trans h (Q9p _ _ _ _ _ _ _)
   · exact h
 · rename_i l k _
   have h:=Q2b p (Instr.endLoop l) w #[]
   generalize (Instr.endLoop l).runT p w #[]=x at h ⊢
   obtain⟨x,es⟩:=x
   dsimp only
   rw[Q4r]
   cases x<;>dsimp only[rw_] at h ⊢<;> (try split)<;>(try(rename_i h1;cases h1))<;>first|exact h|(rw[hgo];exact h)
 · cases Extern.next _ with
   |none=>exact Nat.le_of_eq (congrArg World.drawn (hlo _)).symm
   |some e=>exact Q9p _ _ _ _ _ _ _
 · refine X5o ?_ ?_
   · rw[hto];exact Nat.le_refl _
   · rename_i id ops draw k _
     have h:=Q1w p (choose (.order fr.fn id)) w
     generalize (choose (.order fr.fn id)).run p w=x at h ⊢
     cases x<;>dsimp only[rw_] at h ⊢
     · rw[hgo];exact h
     · exact h
 · refine X5o ?_ ?_
   · exact oper_gw _ _ _ _ _ _
   · rw[hgo];exact Nat.le_refl _
theorem stepG_gw(p:Program)(main:Bool)(g:Goroutine)(w:World)(listen:Bool):w.drawn≤(gw (stepG p main g w listen)).drawn:=by
 unfold stepG
 dsimp only
 split
 · exact die_gw _ _ _ _
 · exact exec_gw _ _ _ _ _ _ _
 · exact unwind_gw _ _ _ _ _ _
def sw:Stepped→World
 |.next m=>m.world
 |.ended _ w=>w
theorem X4k{rest:Rest}{cases:Array CommCase}{w w':World}(h:waitingAt rest cases w=some w'):w'.drawn=w.drawn:=by
 unfold waitingAt at h
 split at h
 · split at h
   · cases h;rfl
   · cases h
 · cases h;rfl
theorem ite_sw{c:Prop}[Decidable c]{a b:Stepped×Array MemOp}{w:World}(ha:w.drawn≤(sw a.1).drawn)(hb:w.drawn≤(sw b.1).drawn):w.drawn≤(sw (if c then a else b).1).drawn:=by
 split
 · exact ha
 · exact hb
theorem X1p(p:Program)(rest:Rest)(gs:Array Goroutine)(i:Nat)(g:Goroutine)(cases:Array CommCase)(blocking:Bool)(shape:CommShape)(w:World) :
 w.drawn≤(sw (communicate p rest gs i g cases blocking shape w).1).drawn:=by
 unfold communicate
 extract_lets put illMade me other ready pick
 have hp:∀g gs (w:World) ops,sw (put g gs w ops).1=w:=fun _ _ _ _=>rfl
 clear_value put
 refine ite_sw (Nat.le_refl _) ?_
 refine ite_sw (ite_sw ?_ ?_) ?_
 · split
   · rename_i h
     exact Nat.le_of_eq (X4k h).symm
   · exact Nat.le_refl _
 · rw[hp];exact Nat.le_refl _
 · have h:=Q1w p pick w
   generalize pick.run p w=x at h ⊢
   cases x with
   |halt e w'=>exact h
   |ok a w'=>
    obtain⟨k,c,way⟩:=a
    dsimp only[rw_] at h ⊢
    split
    · have h2:=Q1w p (runtimePanic (.plain "send on closed channel"):Sem Unit) w'
      generalize (runtimePanic (.plain "send on closed channel"):Sem Unit).run p w'=x at h2 ⊢
      split
      · rw[hp];exact Nat.le_trans h h2
      · exact h
    · rw[hp];exact h
    · rw[hp];exact h
    · split
      · rw[hp];exact h
      · split
        · rename_i h2
          have h3:=congrArg (fun x=>(rw_ x).drawn) h2
          refine Nat.le_trans ?_ (Nat.le_of_eq (congrArg World.drawn (hp _ _ _ _)).symm)
          exact Nat.le_trans h (Nat.le_trans (Q1w p _ w') (Nat.le_of_eq h3))
        · rename_i h2
          have h3:=congrArg (fun x=>(rw_ x).drawn) h2
          exact Nat.le_trans h (Nat.le_trans (Q1w p _ w') (Nat.le_of_eq h3))
    · rw[hp];exact h
    · rw[hp];exact h
    · exact h
theorem drain_dr(w:World)(c:Nat):(drain w c).2.drawn=w.drawn:=by
 unfold drain;split<;>rfl
theorem X4u(m:Machine)(k:Nat)(t:Timer)(when period:Nat):(retime m k t when period).2.world.drawn=m.world.drawn:=by
 unfold retime
 cases t.chan with
 |none=>rfl
 |some c=>exact drain_dr m.world c
theorem Z0e{m m':Machine}{op:TimerOp}{v:Value}(h:timerOp m op = .ok (v,m')):m'.world.drawn=m.world.drawn:=by
 unfold timerOp at h
 split at h
 · split at h
   · cases h;rfl
   · split at h
     · split at h
       · cases h
       · cases h;rfl
     · cases h
 · unfold timerOp.named at h
   split at h
   · cases h;exact X4u _ _ _ _ _
   · cases h
 · unfold timerOp.opened at h
   split at h
   · rename_i m1 h1
     have e1:m1.world.drawn=m.world.drawn:=by
      split at h1
      · split at h1
        · cases h1;rfl
        · cases h1
      · cases h1;rfl
     unfold timerOp.named at h
     split at h
     · cases h;exact(X4u _ _ _ _ _).trans e1
     · cases h
   · cases h
 · cases h;rfl
theorem look_sw(p:Program)(gs:Array Goroutine)(rest:Rest)(w:World):w.drawn≤(sw (look p gs rest w)).drawn:=by
 unfold look
 split
 · dsimp only
   split
   · exact Nat.le_refl _
   · split
     · exact Nat.le_refl _
     · split
       · rename_i h2
         exact Nat.le_trans (Q1w p _ w) (Nat.le_of_eq (congrArg (fun x=>(rw_ x).drawn) h2))
       · rename_i h2
         exact Nat.le_trans (Q1w p _ w) (Nat.le_of_eq (congrArg (fun x=>(rw_ x).drawn) h2))
       · rename_i h2
         exact Nat.le_trans (Q1w p _ w) (Nat.le_of_eq (congrArg (fun x=>(rw_ x).drawn) h2))
 · exact Nat.le_refl _
theorem serve_sw(p:Program)(m:Machine)(k:Nat):m.world.drawn≤(sw (serve p m k)).drawn:=by
 unfold serve
 split
 · exact Nat.le_refl _
 · exact Nat.le_refl _
 · extract_lets
   split<;>exact Nat.le_refl _
theorem runT_sw(p:Program)(m:Machine)(i:Nat)(listen:Bool):m.world.drawn≤(sw (runT p m i listen).1).drawn:=by
 unfold runT
 generalize m.gs.swapAt! i {(default:Goroutine) with status:=.finished}=y
 obtain⟨g,gs⟩:=y
 have h:=stepG_gw p (i==0) g m.world listen
 dsimp only
 generalize stepG p (i==0) g m.world listen=s at h ⊢
 cases s<;>dsimp only[gw] at h ⊢<;> (try exact h)
 · exact Nat.le_trans h (X1p _ _ _ _ _ _ _ _ _)
 · split<;>exact h
 · split
   · rename_i h1
     have:=Z0e h1
     exact Nat.le_trans h (Nat.le_of_eq this.symm)
   · exact h
   · exact h
   · exact h
 · repeat' split
   all_goals first|exact h|(rename_i h1;cases h1;exact h)
 · exact Nat.le_trans h (look_sw _ _ _ _)
def mx(w:World):Move→Prop
 |.goroutine m _=>w.drawn≤m.world.drawn
 |.machine (.next m) _=>w.drawn≤m.world.drawn
 |.machine (.ended _ _) _=>True
theorem mx_sw{w:World}{s:Stepped}{ops:Array MemOp}(h:w.drawn≤(sw s).drawn):mx w (.machine s ops):=by
 cases s with
 |next m=>exact h
 |ended o w=>trivial
theorem Z0o{w w':World}(h:w.drawn≤w'.drawn):∀{mv:Move},mx w' mv→mx w mv
 |.goroutine m _,h'=>Nat.le_trans h h'
 |.machine (.next m) _,h'=>Nat.le_trans h h'
 |.machine (.ended _ _) _,_=>trivial
theorem X4h(p:Program)(m:Machine):mx m.world (askOn p m):=by
 unfold askOn
 extract_lets mono rs ds pick
 have hpick:∀m:Machine,mx m.world (pick m):=fun m=>by
  show mx m.world (match (choose (.sched rs.length)).run p m.world with | .halt _ w=>_ | .ok k world=>_)
  have h:=Q1w p (choose (.sched rs.length)) m.world
  generalize (choose (.sched rs.length)).run p m.world=x at h ⊢
  cases x with
  |halt e w=>trivial
  |ok k world=>
   dsimp only[rw_] at h ⊢
   split
   · exact h
   · have h2:=Q1w p (choose (.extern "sched.slice" 65536)) world
     generalize (choose (.extern "sched.slice" 65536)).run p world=x at h2 ⊢
     cases x
     · exact Nat.le_trans h h2
     · trivial
 clear_value pick rs
 split
 · trivial
 · rename_i k world h1
   have h:m.world.drawn≤world.drawn:=Nat.le_trans (Q1w p _ m.world) (Nat.le_of_eq (congrArg (fun x=>(rw_ x).drawn) h1))
   clear h1
   refine Z0o h ?_
   dsimp only
   split
   · exact mx_sw (serve_sw p {m with world} _)
   · cases rs with
     |nil=>
      dsimp only
      split
      · exact Nat.le_refl _
      · split
        · exact Nat.le_refl _
        · split<;>trivial
     |cons r rs=>
      dsimp only
      split
      · exact hpick {m with world}
      · split
        · trivial
        · rename_i w2 h1
          have h2:world.drawn≤w2.drawn:=Nat.le_trans (Q1w p _ world) (Nat.le_of_eq (congrArg (fun x=>(rw_ x).drawn) h1))
          exact Z0o h2 (hpick {m with world:=w2})
        · rename_i w2 h1
          have h2:world.drawn≤w2.drawn:=Nat.le_trans (Q1w p _ world) (Nat.le_of_eq (congrArg (fun x=>(rw_ x).drawn) h1))
          exact h2
        · rename_i w2 h1
          have h2:world.drawn≤w2.drawn:=Nat.le_trans (Q1w p _ world) (Nat.le_of_eq (congrArg (fun x=>(rw_ x).drawn) h1))
          exact Z0o h2 (hpick (({m with world:=w2}:Machine).advanceTo _))
theorem ask_mx(p:Program)(m:Machine):mx m.world (ask p m):=by
 unfold ask
 split
 · split
   · trivial
   · rename_i w h1
     have h:m.world.drawn≤w.drawn:=Nat.le_trans (Q1w p _ m.world) (Nat.le_of_eq (congrArg (fun x=>(rw_ x).drawn) h1))
     have h2:=look_sw p m.gs m.rest w
     refine Z0o h ?_
     generalize look p m.gs m.rest w=s at h2 ⊢
     cases s with
     |next m'=>exact Z0o h2 (X4h p m')
     |ended o w=>trivial
   · rename_i w _ h1
     have h:m.world.drawn≤w.drawn:=Nat.le_trans (Q1w p _ m.world) (Nat.le_of_eq (congrArg (fun x=>(rw_ x).drawn) h1))
     exact Z0o h (X4h p {m with world:=w})
 · exact X4h p m
theorem move_mx(p:Program)(m:Machine):mx m.world (move p m):=by
 unfold move
 split
 · split
   · exact Nat.le_refl _
   · trivial
 · split
   · split
     · exact Nat.le_refl _
     · exact ask_mx p {m with rest:={m.rest with slice:=none}}
   · exact ask_mx p m
theorem step_dr{p:Program}{m m':Machine}(h:step p m = .next m'):m.world.drawn≤m'.world.drawn:=by
 have h1:=move_mx p m
 unfold step stepT at h
 generalize move p m=mv at h h1
 match mv,h,h1 with
 |.goroutine m1 i,h,h1=>
  have h2:=runT_sw p m1 i true
  dsimp only at h
  rw[h] at h2
  exact Nat.le_trans h1 h2
 |.machine (.next m1) _,h,h1=>cases h;exact h1
 |.machine (.ended _ _) _,h,h1=>cases h
theorem X7z{p:Program}:∀{n:Nat} {m m':Machine},runN p n m = .next m'→m.world.drawn≤m'.world.drawn
 |0,m,m',h=>by cases h;exact Nat.le_refl _
 |n+1,m,m',h=>by
  unfold runN at h
  split at h
  · rename_i m1 h1
    exact Nat.le_trans (step_dr h1) (X7z h)
  · rename_i h1
    exact(h1 _ h).elim
open Go.Proofs in
theorem calls_dr{P:Program}{f:FuncId}{args:Array Value}{w:World}{R:Ending→World→Prop}(h:Calls P f args w fun e w'=>(∃v,e = .returned v)∧R e w') :
 Calls P f args w fun e w'=>R e w'∧w.drawn≤w'.drawn:=by
 intro cs
 obtain⟨e,w',fr,⟨⟨v,rfl⟩,hR⟩,hc,hf,hl⟩:=h cs
 obtain⟨n,hn⟩:=hc
 exact⟨_,w',fr,⟨hR,X7z hn⟩,⟨n,hn⟩,hf,hl⟩
end
section
open Go.RowKit
set_option maxHeartbeats 2000000
theorem Q5z{α : Type}[Inhabited α](enc:α→List Value)(k:Nat)(hk:∀x,(enc x).length=k)(l:List α):Sort.flatK enc k l.toArray=(l.flatMap enc).toArray:=by
 have hlen:(l.flatMap enc).length=l.length*k:=by
  induction l with
  |nil=>simp
  |cons x l ih=>rw[List.flatMap_cons,List.length_append,ih,hk,List.length_cons,Nat.add_mul,Nat.one_mul,Nat.add_comm]
 refine Sort.ext_get! (by simp[hlen]) fun t ht=>?_
 have ht':t<l.length*k:=by simpa using ht
 have k0:0<k:=by
  rcases Nat.eq_zero_or_pos k with h|h
  · subst h;simp at ht'
  · exact h
 rw[Sort.get_flatK _ _ _ t (by simpa using ht')]
 have hi:t/k<l.length:=Nat.div_lt_of_lt_mul (by rwa [Nat.mul_comm] at ht')
 have hm:t%k<k:=Nat.mod_lt _ k0
 have key:∀(l:List α) (i j:Nat) (x:α),l[i]? = some x→j<k→(l.flatMap enc)[i*k+j]? = (enc x)[j]?:=by
  intro l
  induction l with
  |nil=>intro i j x h;simp at h
  |cons y l ih=>
   intro i j x h hj
   rw[List.flatMap_cons]
   cases i with
   |zero=>
    simp at h;subst h
    rw[Nat.zero_mul,Nat.zero_add,List.getElem?_append_left (by rw[hk];exact hj)]
   |succ i=>
    rw[List.getElem?_append_right (by rw[hk,Nat.add_mul];omega),hk,show(i+1)*k+j-k=i*k+j by rw[Nat.add_mul];omega]
    exact ih i j x (by simpa using h) hj
 have h1:=key l (t/k) (t%k) _ (List.getElem?_eq_getElem hi) hm
 have e:t/k*k+t%k=t:=by rw[Nat.mul_comm];exact Nat.div_add_mod t k
 rw[e] at h1
 have e2:l.toArray[t/k]! = l[t/k]:=by rw[getElem!_pos _ _ (by simpa using hi)];simp
 rw[e2]
 have e3:t<(l.flatMap enc).toArray.size:=by simp[hlen];exact ht'
 rw[getElem!_pos _ t e3]
 rw[getElem!_pos _ _ (by rw[hk];exact hm)]
 rw[List.getElem?_eq_getElem (by rw[hlen];exact ht'),List.getElem?_eq_getElem (by rw[hk];exact hm)] at h1
 simpa using (Option.some.inj h1).symm
theorem X2e{α : Type}[Inhabited α]{P:Program}{g:FuncId}{enc:α→List Value}{k:Nat}{cf:α→α→Int}(h1:∀x,∀v∈enc x,v.oneCell'=true)
 (hF:∀x y,Fn P g [.agg ((enc x).map fun v=>.c (.v v)),.agg ((enc y).map fun v=>.c (.v v))] [] (.c (.v (.int .i64 (cf x y)))) [])
 (E:Env) {r:Nat} (hr:r∈E.D) (hz:(E.ι r).2.1≠0) (n:Nat):CmpLays P g #[] enc k cf (E.ι r).1 0 n E.w:=by
 intro m os dk hdk x y
 have hG:GlobOK (sortWorldK enc k E.w (E.ι r).1 0 m dk os) (fun _=>True) (fun _=>(0,0,0)) []:=fun b cs hg=>by
  obtain⟨_,k2,k3,k4,k5⟩:=E.hG b cs hg
  refine⟨trivial,fun r h=>(by cases h),k3,k4,fun j u hu=>?_⟩
  have hc:=k5 j u hu
  rw[cell?_sortWorldK_other enc k E.w (E.ι r).1 0 m dk os ⟨b,j,none⟩ (Ne.symm (k2 r hr hz)) (block_lt_of_cell hc)]
  exact hc
 have hag:∀z:α,RV (fun _=>True) (fun _=>(0,0,0)) (sortWorldK enc k E.w (E.ι r).1 0 m dk os) (.agg (enc z).toArray) (.agg ((enc z).map fun v=>.c (.v v))):=fun z=>by
  refine .agg _ _ (by simp) (h1 z) fun j u p hu hp=>?_
  rw[List.getElem?_map,hu] at hp
  cases hp
  exact .c _ _ (.v _ (h1 z u (List.mem_of_getElem? hu)))
 have h2:=hF x y ⟨sortWorldK enc k E.w (E.ι r).1 0 m dk os,fun _=>True,fun _=>(0,0,0),[],fun r h=>(by cases h),hG⟩ [.agg (enc x).toArray,.agg (enc y).toArray] rfl (fun r cs b h=>by cases h) ⟨fun r cs h=>(by cases h),fun r q cs ds h=>(by cases h)⟩ rfl fun j v p hv hp=>by
  match j,hv,hp with
  |0,hv,hp=>cases hv;cases hp;exact hag x
  |1,hv,hp=>cases hv;cases hp;exact hag y
  |j+2,hv,hp=>simp at hv
 have h3:=calls_dr (h2.mono (R':=fun e w'=>(∃v,e = .returned v)∧(e = .returned (.int .i64 (cf x y))∧w'.os=(sortWorldK enc k E.w (E.ι r).1 0 m dk os).os∧w'.tape=(sortWorldK enc k E.w (E.ι r).1 0 m dk os).tape∧w'.output=(sortWorldK enc k E.w (E.ι r).1 0 m dk os).output∧(sortWorldK enc k E.w (E.ι r).1 0 m dk os).heap.size≤w'.heap.size∧∀b,b<(sortWorldK enc k E.w (E.ι r).1 0 m dk os).heap.size→w'.heap[b]? = (sortWorldK enc k E.w (E.ι r).1 0 m dk os).heap[b]?)) (by
  rintro e w' ⟨v,ι',rfl,hv,_,hk⟩
  cases hv with
  |c _ _ hp=>
   cases hp with
   |v=>exact⟨⟨_,rfl⟩,rfl,hk.os,hk.tape,hk.output,hk.size,fun b hb=>hk.block b hb fun r h=>by cases h⟩))
 refine h3.mono ?_
 rintro e w' ⟨⟨rfl,g1,g2,g3,g4,g5⟩,g6⟩
 refine⟨rfl,w'.drawn-(sortWorldK enc k E.w (E.ι r).1 0 m dk os).drawn,w'.heap.extract (sortWorldK enc k E.w (E.ι r).1 0 m dk os).heap.size w'.heap.size,?_⟩
 generalize sortWorldK enc k E.w (E.ι r).1 0 m dk os=W at *
 obtain⟨hp,tp,dr,o,ot⟩:=w'
 obtain⟨hp',tp',dr',o',ot'⟩:=W
 dsimp only at g1 g2 g3 g4 g5 g6
 subst g1 g2 g3
 unfold Sort.grow World.drewN
 dsimp only
 have e1:hp=hp'++hp.extract hp'.size hp.size:=by
  refine Array.ext_getElem? fun i=>?_
  rcases Nat.lt_or_ge i hp'.size with h|h
  · rw[Array.getElem?_append_left h,g5 i h]
  · rw[Array.getElem?_append_right h]
    rcases Nat.lt_or_ge i hp.size with h'|h'
    · rw[Array.getElem?_extract,if_pos (by omega),show hp'.size+(i-hp'.size)=i by omega]
    · rw[Array.getElem?_eq_none h',Array.getElem?_eq_none (by simp;omega)]
 rw[←e1,show dr'+(dr-dr')=dr by omega]
theorem Fn.sortingK{P:Program}{f g:FuncId}{e:TypeId}{k n:Nat}(L L':List Value)(hL:L.length=n*k)(hlen:L'.length=L.length)(h1:∀v∈L,v.oneCell'=true)(h1':∀v∈L',v.oneCell'=true)
 (hS:∀(E:Env) (cap:Nat),1000∈E.D→(E.ι 1000).2.1≠0→(E.ι 1000).1<E.w.heap.size→Sort.Holds id E.w (E.ι 1000).1 0 L.toArray→Calls P f #[.slice (some ⟨(E.ι 1000).1,0,none⟩) n cap,.func (.func g) #[] #[]] E.w fun e w'=>e = .returned (.tuple #[])∧∃m os,w'=sortWorld id E.w (E.ι 1000).1 0 m L'.toArray os)
 (h0:∀p cap w,Calls P f #[.slice p 0 cap,.func (.func g) #[] #[]] w fun e w'=>e = .returned (.tuple #[])∧w'=w) :
 Fn P f [.row 1000 e k n,.fn g []] [(1000,L.map fun x=>.c (.v x))] (.tup []) [(1000,L'.map fun x=>.c (.v x))]:=by
 intro E vs hD hsep hH hvl hv
 obtain⟨v0,v1,rfl⟩:∃v0 v1,vs=[v0,v1]:=by
  match vs,hvl with
  |[v0,v1],_=>exact⟨v0,v1,rfl⟩
 have r0:=hv 0 v0 _ rfl rfl
 have r1:=hv 1 v1 _ rfl rfl
 have hmine:(∀(q:Nat) cs,hget [(1000,L'.map fun x=>AV.c (.v x))] q=some cs→(q∈E.D→E.ι q=E.ι q)∧(q∉E.D→(E.ι q).2.1≠0→Mine E (E.ι q).1)):=fun q cs hq=>
  ⟨fun _=>rfl,fun hn _=>by
    rw[hD] at hn
    simp only[hget] at hq
    split at hq
    · rename_i e;subst e;simp at hn
    · cases hq⟩
 have hblk0:=hH.blk 1000 (L.map fun x=>AV.c (.v x)) (by simp[hget])
 cases r1 with
 |fn _ us _ hul hus=>
 obtain rfl:=List.eq_nil_of_length_eq_zero hul
 have hnone:∀p c,n=0→v0 = .slice p 0 c→Calls P f [v0,.func (.func g) #[] #[]].toArray E.w fun e w'=>∃v ι',e = .returned v∧RV (Sx E ι' [(1000,L'.map fun x=>AV.c (.v x))]) ι' w' v (.tup [])∧ConcH (Sx E ι' [(1000,L'.map fun x=>AV.c (.v x))]) ι' [(1000,L'.map fun x=>AV.c (.v x))] w'∧Keep E ι' [(1000,L'.map fun x=>AV.c (.v x))] w':=by
  intro p c hn0 hv0
  subst hv0
  have hl0:L=[]:=List.eq_nil_of_length_eq_zero (by rw[hL,hn0,Nat.zero_mul])
  subst hl0
  obtain rfl:=List.eq_nil_of_length_eq_zero hlen
  refine(h0 p c E.w).mono ?_
  rintro e w' ⟨rfl,rfl⟩
  refine⟨_,E.ι,rfl,.tup [] [] rfl (fun j u x hu=>by cases hu),⟨fun q cs hq=>?_,fun q q' cs ds hq hq' hne=>?_⟩,⟨rfl,rfl,rfl,Nat.le_refl _,fun _ _ _=>rfl,hmine⟩⟩
  · simp only[hget] at hq
    split at hq
    · rename_i e;subst e;cases hq
      rcases hblk0 with hb|⟨cur,hc1,hc2,hc3,hc4,hc5⟩
      · exact .inl hb
      · exact .inr ⟨cur,hc1,hc2,hc3,fun j u x hu hx=>(by cases hx),hc5⟩
    · cases hq
  · simp only[hget] at hq hq'
    split at hq
    · split at hq'
      · omega
      · cases hq'
    · cases hq
 rcases Nat.eq_zero_or_pos n with hn0|hn0
 · generalize hn:n=m at r0
   have hm0:m=0:=by omega
   cases r0 with
   |row _ _ _ _ c k1 k2 k3 k4 k0=>exact hnone _ _ hn0 (by rw[hm0])
   |rnil A _ _ _ k=>exact hnone A 0 hn0 rfl
 · generalize hn:n=m at r0
   cases r0 with
   |rnil A _ _ _ k=>omega
   |row _ _ _ _ c k1 k2 k3 k4 k0=>
    rcases hblk0 with hb|⟨cur,hc1,hc2,hc3,hc4,hc5⟩
    · exact absurd hb.1 k0
    · rw[List.length_map] at hc3
      have hlt:(E.ι 1000).1<E.w.heap.size:=(Array.getElem?_eq_some_iff.1 hc1).1
      have hHo:Sort.Holds id E.w (E.ι 1000).1 0 L.toArray:=by
       intro j hj
       have hj':j<L.length:=by simpa using hj
       have hjc:j<cur.size:=by omega
       refine⟨?_,Q7b hc1 _⟩
       rw[Nat.zero_add,X7l hc1,Array.getElem?_eq_getElem hjc]
       obtain⟨hrv,_⟩:=hc4 j _ (.c (.v L[j])) (Array.getElem?_eq_getElem hjc) (by rw[List.getElem?_map,List.getElem?_eq_getElem hj'];rfl)
       generalize cur[j]=u at hrv ⊢
       cases hrv with
       |c _ _ hp=>
        cases hp with
        |v=>
         rw[getElem!_pos _ j hj]
         simp
      have hC:=hS E c (by rw[hD];simp) k0 hlt hHo
      rw[hn] at hC
      refine hC.mono ?_
      rintro e w' ⟨rfl,m',os,rfl⟩
      have hnew:=Q7a (enc:=id) (m:=m') (d:=L'.toArray) (os:=os) hc1
      have hcs:(Sort.putCells id 0 L'.toArray cur).size=cur.size:=by simp[Sort.putCells]
      have hcell:∀(j:Nat) (u:Value),(Sort.putCells id 0 L'.toArray cur)[j]? = some u→∃y,cur[j]? = some y∧((∀h:j<L'.length,u=L'[j])∧(¬j<L'.length→u=y)):=by
       intro j u hu
       have hj:j<cur.size:=by rw[←hcs];exact(Array.getElem?_eq_some_iff.1 hu).1
       refine⟨_,Array.getElem?_eq_getElem hj,?_⟩
       simp only[Sort.putCells,Array.getElem?_mapIdx,Array.getElem?_eq_getElem hj,Option.map_some,Option.some.injEq] at hu
       rw[←hu]
       refine⟨fun h=>?_,fun h=>?_⟩
       · rw[if_pos (by simpa using h),Nat.sub_zero,getElem!_pos _ j (by simpa using h)]
         simp
       · rw[if_neg (by simpa using h)]
      refine⟨_,E.ι,rfl,.tup [] [] rfl (fun j u x hu=>by cases hu),⟨fun q cs hq=>?_,fun q q' cs ds hq hq' hne'=>?_⟩,⟨rfl,rfl,rfl,Q6r,fun b hb hnb=>?_,hmine⟩⟩
      · simp only[hget] at hq
        split at hq
        · rename_i e;subst e;cases hq
          refine .inr ⟨_,hnew,by rw[hcs];exact hc2,by rw[hcs,List.length_map];omega,fun j u x hu hx=>?_,fun u hu=>?_⟩
          · obtain⟨y,hy,hu1,_⟩:=hcell j u hu
            rw[List.getElem?_map,Option.map_eq_some_iff] at hx
            obtain⟨z,hz,rfl⟩:=hx
            obtain⟨hj,hz'⟩:=List.getElem?_eq_some_iff.1 hz
            have:u=z:=(hu1 hj).trans hz'
            subst this
            exact⟨.c _ _ (.v _ (h1' u (List.mem_of_getElem? hz))),h1' u (List.mem_of_getElem? hz)⟩
          · obtain⟨j,hj⟩:=List.mem_iff_getElem?.1 hu
            rw[Array.getElem?_toList] at hj
            obtain⟨y,hy,hu1,hu2⟩:=hcell j u hj
            by_cases h:j<L'.length
            · rw[hu1 h];exact h1' _ (List.getElem_mem h)
            · rw[hu2 h]
              exact hc5 y (by
               rw[←Array.getElem?_toList] at hy
               exact List.mem_of_getElem? hy)
        · cases hq
      · simp only[hget] at hq hq'
        split at hq
        · split at hq'
          · omega
          · cases hq'
        · cases hq
      · exact Q3p hb (hnb 1000 (by rw[hD];simp) k0)
end
section
open Go.RowKit
set_option maxRecDepth 20000
set_option maxHeartbeats 2000000
def Q9s:Go.Shelf.Ren:=⟨fun|6=>47|15=>76|14=>75|28=>130|29=>131|20=>122|21=>123|22=>124|23=>125|24=>126|25=>127|26=>128|27=>129|46=>154|47=>155|48=>156|49=>157|50=>158|57=>178|n=>n,fun|22=>28|24=>37|25=>89|3=>3|39=>55|0=>0|53=>160|55=>22|4=>4|46=>153|45=>152|50=>157|5=>5|9=>9|66=>184|70=>188|76=>203|77=>204|n=>n,fun|n=>n⟩
theorem sortS:Go.Proofs.SlLaysF0.n6 Tryz.prog Q9s where
 mixed:=by kernel_rfl
 f6:=⟨"slices.SortFunc[[]sheafer/api.Spot,sheafer/api.Spot]",by decide,Tryz.func47.trans (congrArg some (by kernel_rfl))⟩
 f14:=⟨"slices.pdqsortCmpFunc[sheafer/api.Spot]",by decide,Tryz.func75.trans (congrArg some (by kernel_rfl))⟩
 f15:=Tryz.func76.trans (congrArg some (by kernel_rfl))
 f20:=⟨"slices.insertionSortCmpFunc[sheafer/api.Spot]",by decide,Tryz.func122.trans (congrArg some (by kernel_rfl))⟩
 f21:=⟨"slices.heapSortCmpFunc[sheafer/api.Spot]",by decide,Tryz.func123.trans (congrArg some (by kernel_rfl))⟩
 f22:=⟨"slices.breakPatternsCmpFunc[sheafer/api.Spot]",by decide,Tryz.func124.trans (congrArg some (by kernel_rfl))⟩
 f23:=⟨"slices.choosePivotCmpFunc[sheafer/api.Spot]",by decide,Tryz.func125.trans (congrArg some (by kernel_rfl))⟩
 f24:=⟨"slices.reverseRangeCmpFunc[sheafer/api.Spot]",by decide,Tryz.func126.trans (congrArg some (by kernel_rfl))⟩
 f25:=⟨"slices.partialInsertionSortCmpFunc[sheafer/api.Spot]",by decide,Tryz.func127.trans (congrArg some (by kernel_rfl))⟩
 f26:=⟨"slices.partitionEqualCmpFunc[sheafer/api.Spot]",by decide,Tryz.func128.trans (congrArg some (by kernel_rfl))⟩
 f27:=⟨"slices.partitionCmpFunc[sheafer/api.Spot]",by decide,Tryz.func129.trans (congrArg some (by kernel_rfl))⟩
 f28:=Tryz.func130.trans (congrArg some (by kernel_rfl))
 f29:=Tryz.func131.trans (congrArg some (by kernel_rfl))
 f46:=⟨"slices.siftDownCmpFunc[sheafer/api.Spot]",by decide,Tryz.func154.trans (congrArg some (by kernel_rfl))⟩
 f47:=Tryz.func155.trans (congrArg some (by kernel_rfl))
 f48:=Tryz.func156.trans (congrArg some (by kernel_rfl))
 f49:=⟨"slices.medianAdjacentCmpFunc[sheafer/api.Spot]",by decide,Tryz.func157.trans (congrArg some (by kernel_rfl))⟩
 f50:=⟨"slices.medianCmpFunc[sheafer/api.Spot]",by decide,Tryz.func158.trans (congrArg some (by kernel_rfl))⟩
 f57:=⟨"slices.order2CmpFunc[sheafer/api.Spot]",by decide,Tryz.func178.trans (congrArg some (by kernel_rfl))⟩
 t0:=Tryz.underlying0
 a0:=Tryz.isAgg0
 z0:=Tryz.sizeOf0
 v0:=Tryz.zeroValue0
 t3:=Tryz.underlying3
 a3:=Tryz.isAgg3
 z3:=Tryz.sizeOf3
 v3:=Tryz.zeroValue3
 t4:=Tryz.underlying4
 a4:=Tryz.isAgg4
 z4:=Tryz.sizeOf4
 v4:=Tryz.zeroValue4
 t5:=Tryz.underlying5
 a5:=Tryz.isAgg5
 z5:=Tryz.sizeOf5
 v5:=Tryz.zeroValue5
 t9:=Tryz.underlying9
 a9:=Tryz.isAgg9
 z9:=Tryz.sizeOf9
 v9:=Tryz.zeroValue9
 t22:=Tryz.underlying28
 a22:=Tryz.isAgg28
 z22:=Tryz.sizeOf28
 v22:=Tryz.zeroValue28
 t25:=Tryz.underlying89
 a25:=Tryz.isAgg89
 z25:=Tryz.sizeOf89
 v25:=Tryz.zeroValue89
 t39:=Tryz.underlying55
 a39:=Tryz.isAgg55
 z39:=Tryz.sizeOf55
 v39:=Tryz.zeroValue55
 t45:=Tryz.underlying152
 a45:=Tryz.isAgg152
 z45:=Tryz.sizeOf152
 v45:=Tryz.zeroValue152
 t46:=Tryz.underlying153
 a46:=Tryz.isAgg153
 z46:=Tryz.sizeOf153
 v46:=Tryz.zeroValue153
 t50:=Tryz.underlying157
 a50:=Tryz.isAgg157
 z50:=Tryz.sizeOf157
 v50:=Tryz.zeroValue157
 t53:=Tryz.underlying160
 a53:=Tryz.isAgg160
 z53:=Tryz.sizeOf160
 v53:=Tryz.zeroValue160
 t55:=Tryz.underlying22
 a55:=Tryz.isAgg22
 z55:=Tryz.sizeOf22
 v55:=Tryz.zeroValue22
 t66:=Tryz.underlying184
 a66:=Tryz.isAgg184
 z66:=Tryz.sizeOf184
 v66:=Tryz.zeroValue184
 t70:=Tryz.underlying188
 a70:=Tryz.isAgg188
 z70:=Tryz.sizeOf188
 v70:=Tryz.zeroValue188
 t76:=Tryz.underlying203
 a76:=Tryz.isAgg203
 z76:=Tryz.sizeOf203
 v76:=Tryz.zeroValue203
 t77:=Tryz.underlying204
 a77:=Tryz.isAgg204
 z77:=Tryz.sizeOf204
 v77:=Tryz.zeroValue204
abbrev SpO:={s:Sp // s.ok}
instance:Inhabited SpO:=⟨⟨⟨0,0⟩,⟨by decide,by decide⟩,by decide⟩⟩
def encS(x:SpO):List Value:=[.int .u64 x.1.a,.int .u64 (l0 x.1.k),.int .u64 (l1 x.1.k),.int .u64 (l2 x.1.k),.int .u64 (l3 x.1.k)]
def cfS(x y:SpO):Int:=cmpI x.1.key y.1.key
theorem ltS(x y:SpO):ltOf cfS x y=decide (x.1.key<y.1.key):=by
 unfold ltOf cfS cmpI
 by_cases h1:x.1.key<y.1.key
 · simp[h1]
 · by_cases h2:y.1.key<x.1.key<;>simp[h1,h2]
theorem swoS:Sort.SWO (ltOf cfS) where
 irrefl x:=by rw[ltS];simp
 trans x y z h1 h2:=by rw[ltS] at *;simp at *;omega
 ntrans x y z h1 h2:=by rw[ltS] at *;simp at *;omega
theorem totS(x y:SpO)(h1:ltOf cfS x y=false)(h2:ltOf cfS y x=false):x=y:=by
 rw[ltS] at *
 simp at *
 exact Subtype.ext (Sp.key_inj x.2 y.2 (by omega))
theorem upS:∀{l:List Sp},(∀a∈l,a.ok)→∃L:List SpO,L.map (·.1)=l
 |[],_=>⟨[],rfl⟩
 |a::l,h=>by
  obtain⟨L,hL⟩:=upS (l:=l) fun b hb=>h b (by simp[hb])
  exact⟨⟨a,h a (by simp)⟩::L,by simp[hL]⟩
theorem X2q(L:List SpO):raS (L.map (·.1))=(L.flatMap encS).map fun v=>AV.c (.v v):=by
 unfold raS
 induction L with
 |nil=>rfl
 |cons x L ih=>
  rw[List.map_cons,List.flatMap_cons,List.map_append,ih,List.flatMap_cons,List.map_append]
  rfl
theorem Q7z(x:SpO):∀v∈encS x,v.oneCell'=true:=by
 intro v hv
 simp only[encS,List.mem_cons,List.not_mem_nil,or_false] at hv
 rcases hv with rfl|rfl|rfl|rfl|rfl<;>rfl
theorem X3o(L:List SpO):∀v∈L.flatMap encS,v.oneCell'=true:=fun v hv=>by
 obtain⟨x,_,hx⟩:=List.mem_flatMap.1 hv
 exact Q7z x v hx
theorem Q8l(L:List SpO):(L.flatMap encS).length=L.length*5:=by
 induction L with
 |nil=>rfl
 |cons x L ih=>rw[List.flatMap_cons,List.length_append,ih,List.length_cons];simp[encS];omega
theorem sortS_fn(l:List Sp)(hl:l.length≤1000000)(hu:∀a∈l,a.ok):∃s:List Sp,s.Perm l∧s.Pairwise (fun x y=>x.key≤y.key) ∧
 Fn Tryz.prog 47 [.row 1000 37 5 l.length,.fn 48 []] [(1000,raS l)] (.tup []) [(1000,raS s)]:=by
 obtain⟨L,rfl⟩:=upS hu
 have hle:∀x y:SpO,(!ltOf cfS y x)=decide (x.1.key≤y.1.key):=fun x y=>by
  rw[ltS,←decide_not]
  exact decide_eq_decide.2 (by omega)
 refine⟨(L.mergeSort fun x y=>!ltOf cfS y x).map (·.1),(List.mergeSort_perm _ _).map _,?_,?_⟩
 · have h:=List.pairwise_mergeSort (le:=fun x y:SpO=>!ltOf cfS y x) (fun x y z h1 h2=>by
    rw[hle] at *
    simp at *
    omega) (fun x y=>by
    rw[hle,hle]
    simp
    omega) L
   rw[List.pairwise_map]
   exact h.imp fun {x y} hxy=>by
    rw[hle] at hxy
    simpa using hxy
 · rw[X2q,X2q,List.length_map]
   refine Fn.sortingK _ _ (Q8l L) (by rw[Q8l,Q8l,List.length_mergeSort]) (X3o _) (X3o _) (fun E cap hD hz hlt hH=>?_) fun p cap w=>?_
   · have eg:∀args w,(callFunc 48 args).run Tryz.prog w = .ok (.enter 48 args) w:=enters_of Tryz.func48 (by kernel_rfl) rfl
     have hc:=X2e (P:=Tryz.prog) (g:=48) (enc:=encS) (k:=5) (cf:=cfS) Q7z (fun x y=>X0t x.1 y.1 x.2 y.2) E hD hz L.toArray.size
     have hH':Sort.HoldsK encS 5 E.w (E.ι 1000).1 0 L.toArray:=by
      unfold Sort.HoldsK
      rw[Q5z encS 5 (fun _=>rfl)]
      exact hH
     have h:=AnyQ.slices_SortFunc_total sortS 5 Tryz.isAgg37 Tryz.sizeOf37 encS (fun _=>rfl) Q7z cfS swoS 48 #[] (E.ι 1000).1 0 cap L.toArray E.w eg hc hH' hlt (by simp at hl ⊢;omega) totS
     refine Calls.mono ?_ (R:=fun e w'=>e = .returned (.tuple #[])∧∃n os,w'=sortWorldK encS 5 E.w (E.ι 1000).1 0 n (L.toArray.toList.mergeSort fun x y=>!(ltOf cfS) y x).toArray os) ?_
     · simp only[List.size_toArray] at h
       exact h
     · rintro e w' ⟨rfl,m,os,rfl⟩
       refine⟨rfl,m,os,?_⟩
       unfold sortWorldK sortWorld Sort.putRowK
       rw[Q5z encS 5 (fun _=>rfl)]
   · exact AnyF.slices_SortFunc_none (P:=Tryz.prog) (ρ:=Q9s) sortS p cap _ w
end
section
open Go.RowKit
open Nat (reduceBEq)
attribute [-go_sem] IntKind.bits
set_option maxRecDepth 20000
set_option maxHeartbeats 2000000
theorem X9k{s:List Sp}{i:Nat}{b:Sp}(hb:s[i]? = some b):(ddS s (i+1)=ddS s i∧0<i∧s[i-1]? = some b)∨(ddS s (i+1)=ddS s i++[b]∧(0<i→s[i-1]?≠some b)):=by
 have e:ddS s (i+1)=if 0<i∧s[i-1]? = some b then ddS s i else ddS s i++[b]:=by
  show(match s[i]? with|none=>_|some b=>_)=_
  rw[hb]
 by_cases h:0<i∧s[i-1]? = some b
 · exact .inl ⟨by rw[e,if_pos h],h⟩
 · exact .inr ⟨by rw[e,if_neg h],fun h1 h2=>h ⟨h1,h2⟩⟩
theorem mem_takeS{s:List Sp}{i j:Nat}{b:Sp}(h:s[j]? = some b)(hj:j<i):b∈s.take i:=by
 refine List.mem_of_getElem? (i:=j) ?_
 rw[List.getElem?_take,if_pos hj,h]
theorem X0r(s:List Sp):∀i,i≤s.length→∀x,x∈ddS s i↔x∈s.take i
 |0,_,x=>by simp[ddS]
 |i+1,h,x=>by
  have ih:=X0r s i (by omega) x
  have hb:s[i]? = some (s[i]'(by omega)):=List.getElem?_eq_getElem (by omega)
  have et:s.take (i+1)=s.take i++[s[i]'(by omega)]:=by rw[List.take_add_one,hb];rfl
  rw[et,List.mem_append,List.mem_singleton]
  rcases X9k hb with⟨e,h0,h1⟩|⟨e,_⟩
  · rw[e,ih]
    refine⟨.inl,fun h=>h.elim id fun hx=>?_⟩
    rw[hx]
    exact mem_takeS h1 (by omega)
  · rw[e,List.mem_append,List.mem_singleton,ih]
theorem X9l(s:List Sp)(hs:s.Pairwise (fun x y=>x.key≤y.key))(ho:∀x∈s,x.ok):∀i,i≤s.length→(ddS s i).Pairwise (fun x y=>x.key<y.key)
 |0,_=>by simp[ddS]
 |i+1,h=>by
  have ih:=X9l s hs ho i (by omega)
  have hb:s[i]? = some (s[i]'(by omega)):=List.getElem?_eq_getElem (by omega)
  rcases X9k hb with⟨e,_⟩|⟨e,h1⟩
  · rw[e];exact ih
  · rw[e,List.pairwise_append]
    refine⟨ih,List.pairwise_singleton _ _,fun a ha b hb'=>?_⟩
    rw[List.mem_singleton] at hb'
    subst hb'
    have ha':=(X0r s i (by omega) a).1 ha
    obtain⟨j,hj⟩:=List.mem_iff_getElem?.1 ha'
    rw[List.getElem?_take] at hj
    split at hj
    · rename_i hji
      have hp:=List.pairwise_iff_getElem.1 hs
      have haj:s[j]'(by omega)=a:=(List.getElem?_eq_some_iff.1 hj).2
      have h2:=hp j i (by omega) (by omega) hji
      rw[haj] at h2
      have h3:=h1 (by omega)
      rw[List.getElem?_eq_getElem (by omega)] at h3
      have h4:s[i-1]'(by omega)≠s[i]'(by omega):=fun e=>h3 (by rw[e])
      have h5:=hp (i-1) i (by omega) (by omega) (by omega)
      have oi:=ho (s[i]'(by omega)) (List.getElem_mem _)
      have oj:a.ok:=by rw[←haj];exact ho _ (List.getElem_mem _)
      have o1:=ho (s[i-1]'(by omega)) (List.getElem_mem _)
      rcases Nat.lt_or_ge j (i-1) with h6|h6
      · have h7:=hp j (i-1) (by omega) (by omega) h6
        rw[haj] at h7
        have h8:(s[i-1]'(by omega)).key≠(s[i]'(by omega)).key:=fun e=>h4 (Sp.key_inj o1 oi e)
        omega
      · have:j=i-1:=by omega
        subst this
        rw[haj] at h4
        have h8:a.key≠(s[i]'(by omega)).key:=fun e=>h4 (Sp.key_inj oj oi e)
        omega
    · cases hj
theorem X8f:∀{a b:List Sp},a.Pairwise (fun x y=>x.key<y.key)→b.Pairwise (fun x y=>x.key<y.key)→(∀x,x∈a↔x∈b)→a=b
 |[],[],_,_,_=>rfl
 |[],y::b,_,_,h=>by have:=(h y).2 (by simp);simp at this
 |x::a,[],_,_,h=>by have:=(h x).1 (by simp);simp at this
 |x::a,y::b,ha,hb,h=>by
  rw[List.pairwise_cons] at ha hb
  have hx:=(h x).1 (by simp)
  have hy:=(h y).2 (by simp)
  rw[List.mem_cons] at hx hy
  have e:x=y:=by
   rcases hx with hx|hx
   · exact hx
   · rcases hy with hy|hy
     · exact hy.symm
     · have h1:=ha.1 y hy
       have h2:=hb.1 x hx
       omega
  subst e
  rw[X8f ha.2 hb.2 fun z=>by
   have hz:=h z
   rw[List.mem_cons,List.mem_cons] at hz
   constructor
   · intro hm
     rcases hz.1 (.inr hm) with e|hm'
     · have:=ha.1 z hm;rw[e] at this;omega
     · exact hm'
   · intro hm
     rcases hz.2 (.inr hm) with e|hm'
     · have:=hb.1 z hm;rw[e] at this;omega
     · exact hm']
def canS(l:List Sp):List Sp:=let s:=l.mergeSort fun x y=>decide (x.key≤y.key);ddS s s.length
theorem Q3o(l:List Sp)(ho:∀x∈l,x.ok):(canS l).Pairwise (fun x y=>x.key<y.key)∧∀x,x∈canS l↔x∈l:=by
 have hp:=List.mergeSort_perm l fun x y=>decide (x.key≤y.key)
 have hs:=List.pairwise_mergeSort (le:=fun x y:Sp=>decide (x.key≤y.key)) (fun x y z h1 h2=>by simp at *;omega) (fun x y=>by simp;omega) l
 have hs':(l.mergeSort fun x y=>decide (x.key≤y.key)).Pairwise (fun x y=>x.key≤y.key):=hs.imp fun {x y} h=>by simpa using h
 refine⟨X9l _ hs' (fun x hx=>ho x (hp.mem_iff.1 hx)) _ (Nat.le_refl _),fun x=>?_⟩
 show x∈ddS _ _↔_
 rw[X0r _ _ (Nat.le_refl _),List.take_length]
 exact hp.mem_iff
theorem X6g{r l:List Sp}(ho:∀x∈l,x.ok)(hr:r.Pairwise (fun x y=>x.key<y.key))(hm:∀x,x∈r↔x∈l):r=canS l:=
 X8f hr (Q3o l ho).1 fun x=>(hm x).trans ((Q3o l ho).2 x).symm
theorem selS_ok{l:List Ev}(ho:∀e∈l,e.ok)(ks:List Int):∀x∈selS ks l,x.ok:=fun x hx=>by
 obtain⟨e,he,rfl⟩:=List.mem_map.1 hx
 have h:=ho e (List.mem_filter.1 he).1
 exact⟨h.2.2.2.2.1,h.1⟩
def Q3e(ks:List Int)(l:List Ev):List Sp:=if trB l=true then selS ks l else[]
theorem that1T_fn(ex ex':Bool)(l:List Ev)(hl:l.length≤1000)(ho:∀e∈l,e.ok)(ks:List Int)(hk:ks.length≤10){t:Tmp}{asg bod:Code}{T0:List AV}(hT0:AV.inNL [1005] T0=true)(lp:Nat)
 (hY:∀(out:List Sp) (y:Ev),y∈l→out.length≤1000→YC Tryz.prog t asg bod T0 lp (evA y) (tsH0 out) (tsH1 out y)) :
 FnW (LoopAt t asg bod T0 [1005,1101,1102] lp) Tryz.prog 142 [yv lp,.ptr 1101 0,.ptr 1102 0] [(1005,[nilA]),(1101,[evs ex l]),(1102,[ksl ex' ks])] (.tup []) [(1005,[.row 600 37 5 (Q3e ks l).length]),(600,raS (Q3e ks l))]:=by
 by_cases hr:trB l=true
 · have h:=that1S_fn ex ex' l hl ho hr ks hk hT0 lp hY
   have e:Q3e ks l=selS ks l:=if_pos hr
   rw[e]
   exact h
 · have e:Q3e ks l=[]:=if_neg hr
   rw[e]
   have ck:=Q5i ex l (by omega) ho
   rw[if_neg hr] at ck
   (refine Q4o Tryz.func142 rfl (by rfl) ?_;simp only[Tryz.ntmps142,List.length_cons,List.length_nil,Nat.reduceAdd,Nat.reduceSub,List.replicate,List.cons_append,List.nil_append])
   refine AWE.to (St.to.nilcell 1005 600 37 5 0 (cs:=[nilA]) (by simp[hget]) rfl (by simp[St.free,Q1z,AV.refsL,AV.refs]) (by decide) (by decide)) ?_
   refine AWE.of ?_
   simp only[hput,hget,List.set]
   (repeat(any_goals(first|((with_reducible refine Q0n ?_ ?_ ?_);rfl;rfl;intro K hK;((apply Q0j (ck);rfl;rfl;rfl;rfl;exact Tryz.func51);kernel_rfl;rfl;(focus((simp only[go_sem,bne_self_eq_false,ite_true,if_true]);(try rfl);done));(first|rfl));(simp only[go_sem,bne_self_eq_false,ite_true,if_true];refine hK _ ?_;clear hK K))|((with_reducible refine Q0b ?_ ?_);rfl;intro K hK;simp only[go_sem,bne_self_eq_false,ite_true,if_true];((repeat(refine ndI (by first|assumption) ?_));refine hK _ ?_;clear hK K))|(with_reducible first|(refine Q0c ?_;refine hR _ ?_;clear hR R)|((first|refine Q0d ?_);intro J hJ hJ')|(refine Q0a ?_;intro R hR)|(refine hJ _ ?_;clear hJ hJ' J)|refine Q0k ?_)|((with_reducible refine hJ' _ _ ?_ ?_);(focus(simp;done));clear hJ hJ' J)|((with_reducible apply Q0e);rfl;rfl;all_goals(intro hc;first|(cases hc;done)|(try simp only at hc))))))
   all_goals exact⟨by simp,⟨_,rfl,AV.le_of (by simp[Q0q])⟩,Q0h (by simp[leH,hget])⟩
theorem Q4c{l:List Ev}(ho:∀e∈l,e.ok)(ks:List Int):∀x∈Q3e ks l,x.ok:=by
 unfold Q3e
 split
 · exact selS_ok ho ks
 · exact fun x hx=>by cases hx
theorem Q7j(ks:List Int)(l:List Ev):(Q3e ks l).length≤l.length:=by
 unfold Q3e
 split
 · exact X8c ks l
 · exact Nat.zero_le _
theorem spots_fn(ex ex':Bool)(l:List Ev)(hl:l.length≤1000)(ho:∀e∈l,e.ok)(ks:List Int)(hk:ks.length≤10):Fn Tryz.prog 64 [evs ex l,ksl ex' ks] [] (spl5 false (canS (Q3e ks l))) []:=by
 have th:=that_fn ex ex' l ks
 have tl:=Q7j ks l
 obtain⟨s,hp,hs,so⟩:=sortS_fn (Q3e ks l) (by omega) (Q4c ho ks)
 have hlen:=hp.length_eq
 have os:∀x∈s,x.ok:=fun x hx=>Q4c ho ks x (hp.mem_iff.1 hx)
 have e:canS (Q3e ks l)=ddS s s.length:=(X6g (Q4c ho ks) (X9l s hs os _ (Nat.le_refl _)) fun x=>by rw[X0r s _ (Nat.le_refl _),List.take_length];exact hp.mem_iff).symm
 rw[e]
 have co:=(X1o s (by omega) os).weaken (H2:=[(1000,rcS (ddS s s.length))]) (AV.le_refl _) (leHp (ds:=rcS (List.replicate (s.length-(ddS s s.length).length) ⟨0,0⟩)) (by rw[Q5n];simp[hget]))
 generalize hr:ddS s s.length=r at co ⊢
 rw[hlen] at co
 have hrow:Fn Tryz.prog 64 [evs ex l,ksl ex' ks] [] (.row 600 37 5 r.length) [(600,raS r)]:=by
  (refine Q0v Tryz.func64 rfl (by rfl) ?_;simp only[Tryz.ntmps64,List.length_cons,List.length_nil,Nat.reduceAdd,Nat.reduceSub,List.replicate,List.cons_append,List.nil_append])
  (repeat(any_goals(first|((with_reducible refine Q0n ?_ ?_ ?_);rfl;rfl;intro K hK;(apply Q0s (th) (fun r=>r+99);rfl;rfl;rfl;rfl;exact Tryz.func95;kernel_rfl;rfl;rfl;(intro r hr q hq h;simp only[List.map_cons,List.map_nil,List.cons_append,List.nil_append,List.mem_cons,List.not_mem_nil,or_false] at hr hq;(try dsimp only at h);first|omega);(simp only[Q0w,Q1k,AV.ren,AV.renL,Q0m,List.mem_cons,List.not_mem_nil,forall_eq_or_imp,forall_eq,Q1g,List.contains_cons,List.contains_nil,AV.refsL,AV.refs,Q0l,AV.inN,AV.inNL,inH,Q0p,go_sem]));(simp only[Q0r,Q1h,renH,AV.ren,AV.renL,Q0m,go_sem];refine hK _ ?_;clear hK K))|((with_reducible refine Q0b ?_ ?_);rfl;intro K hK;simp only[go_sem];((repeat(refine ndI (by first|assumption) ?_));refine hK _ ?_;clear hK K))|(with_reducible first|(refine Q0c ?_;refine hR _ ?_;clear hR R)|((first|refine Q0d ?_|refine Q0g ?_);intro J hJ hJ')|(refine Q0a ?_;intro R hR)|(refine hJ _ ?_;clear hJ hJ' J)))))
  show AW _ _ _ _
  refine AW.range (T0:=[.any,.any,.any,.any,.any,.ptr 1005 0,.any,.any,.any,.any,.any,.any,.any,.any,.any,.any,.any,.any,.any,.any,.any,.any,.any]) (cargs:=[.ptr 1101 0,.ptr 1102 0]) (H0:=[(1005,[nilA]),(1101,[evs ex l]),(1102,[ksl ex' ks])]) (H1:=[(1005,[.row 600 37 5 (Q3e ks l).length]),(600,raS (Q3e ks l))]) (res:=.tup []) (fun r=>if 1000≤r then r-1000 else r) (fun lp=>that1T_fn ex ex' l hl ho ks hk rfl lp fun out y hm ho=>yc_of rfl rfl ?_) rfl rfl Tryz.func142 (by kernel_rfl) rfl rfl ?_ ?_ ?_ ?_ ?_ rfl ?_ ?_
  · have k4:=Q6u out
    have k9:∀r,AV.refsL r (raS out)=false:=fun r=>Q0l r _
    simp only[List.set]
    (repeat(any_goals(first|((with_reducible refine Q0b ?_ ?_);rfl;intro K hK;simp(disch:=omega) only[go_sem,k4,k9];((repeat(refine ndI (by first|assumption|rfl) ?_));refine hK _ ?_;clear hK K))|(with_reducible first|(refine Q0c ?_;refine hR _ ?_;clear hR R)|(refine Q0a ?_;intro R hR)))))
    refine⟨rfl,?_⟩
    (have W:=ndI k4 (ndI k9 @Q0l);(repeat(any_goals(first|((with_reducible refine Q0b ?_ ?_);rfl;intro K hK;simp(disch:=omega) only[go_sem,W,Q4w,AV.refsL,AV.refs,List.length_append,List.length_cons,List.length_nil,Bool.or_false];((repeat(refine ndI (by first|assumption|omega|rfl) ?_));refine hK _ ?_;clear hK K))|(with_reducible first|(refine Q0c ?_;refine hR _ ?_;clear hR R)|((first|refine Q0g ?_);intro J hJ hJ')|(refine Q0a ?_;intro R hR))|((with_reducible refine hJ' _ _ ?_ ?_);(focus(simp;done));clear hJ hJ' J)))))
    exact⟨rfl,Q0h (by simp[leH,hget,raS,Sp.pv,Ev.sp])⟩
  · simp[Q0w,Q1k,AV.ren]
  · simp[Q0w,Q1k,AV.ren]
  · simp[hget,AV.renL,AV.ren]
  · intro r hr q hq h
    simp only[List.map_cons,List.map_nil,List.cons_append,List.nil_append,List.mem_cons,List.not_mem_nil,or_false] at hr hq
    rcases hr with rfl|rfl|rfl|rfl|rfl<;>rcases hq with rfl|rfl|rfl|rfl|rfl<;>simp at h ⊢
  · simp[Q1g,St.free,Q1z,AV.refs,AV.refsL]
  · simp[inH,AV.inNL,AV.inN]
  · unfold rcS at co
    simp only[Q0r,Q1h,renH,AV.ren,AV.renL,Q0m,hput,hdel,hget,Nat.reduceLeDiff,Nat.reduceSub,Nat.reduceEqDiff,↓reduceIte]
    (repeat(any_goals(first|((with_reducible refine Q0n ?_ ?_ ?_);rfl;rfl;intro K hK;(first|(apply Q0s (so) (fun r=>600);rfl;rfl;rfl;rfl;exact Tryz.func47;kernel_rfl;rfl;rfl;(intro r hr q hq h;simp only[List.map_cons,List.map_nil,List.cons_append,List.nil_append,List.mem_cons,List.not_mem_nil,or_false] at hr hq;(try dsimp only at h);first|omega);(simp only[Q0w,Q1k,AV.ren,AV.renL,Q0m,List.mem_cons,List.not_mem_nil,forall_eq_or_imp,forall_eq,Q1g,List.contains_cons,List.contains_nil,AV.refsL,AV.refs,Q0l,AV.inN,AV.inNL,inH,Q0p,go_sem]))|(apply Q0s (co) (fun r=>600);rfl;rfl;rfl;rfl;exact Tryz.func49;kernel_rfl;rfl;rfl;(intro r hr q hq h;simp only[List.map_cons,List.map_nil,List.cons_append,List.nil_append,List.mem_cons,List.not_mem_nil,or_false] at hr hq;(try dsimp only at h);first|omega);(simp only[Q0w,Q1k,AV.ren,AV.renL,Q0m,List.mem_cons,List.not_mem_nil,forall_eq_or_imp,forall_eq,Q1g,List.contains_cons,List.contains_nil,AV.refsL,AV.refs,Q0l,AV.inN,AV.inNL,inH,Q0p,go_sem])));(simp only[Q0r,Q1h,renH,AV.ren,AV.renL,Q0m,go_sem];refine hK _ ?_;clear hK K))|((with_reducible refine Q0b ?_ ?_);rfl;intro K hK;simp only[go_sem];((repeat(refine ndI (by first|assumption) ?_));refine hK _ ?_;clear hK K))|(with_reducible first|(refine Q0c ?_;refine hR _ ?_;clear hR R)|((first|refine Q0d ?_);intro J hJ hJ')|(refine Q0a ?_;intro R hR)|(refine hJ _ ?_;clear hJ hJ' J)|refine Q0k ?_)|((with_reducible refine hJ' _ _ ?_ ?_);(focus(simp;done));clear hJ hJ' J))))
    all_goals exact⟨by simp,⟨_,rfl,AV.le_refl _⟩,Q0h (by simp[leH,hget])⟩
 have h1:=hrow.frzG
 simpa [AV.frz,AV.frzL,Q0o Q8q] using h1
theorem X1r(ex:Bool)(l:List Ev)(hl:l.length≤1000)(ho:∀e∈l,e.ok):Fn Tryz.prog 28 [evs ex l] [] (spl5 false (canS (Q3e [2,3] l))) []:=by
 have h:=spots_fn ex true l hl ho [2,3] (by decide)
 (refine Q0v Tryz.func28 rfl (by rfl) ?_;simp only[Tryz.ntmps28,List.length_cons,List.length_nil,Nat.reduceAdd,Nat.reduceSub,List.replicate,List.cons_append,List.nil_append])
 (repeat(any_goals(first|((with_reducible refine Q2t ?_ ?_);rfl;intro K hK;apply Q2f;rfl;rfl;(focus(simp only[go_sem];try rfl));(focus(simp only[go_sem];try rfl));rfl;(first|omega);(first|omega);(first|omega);(simp only[go_sem];rfl);rfl;(focus((simp only[unC,Option.map_some]);(try rfl)));(simp only[go_sem];refine hK _ ?_;clear hK K))|((with_reducible refine Q0n ?_ ?_ ?_);rfl;rfl;intro K hK;((apply Q0j (h);rfl;rfl;rfl;rfl;exact Tryz.func64);kernel_rfl;rfl;(focus((simp only[go_sem]);(try rfl);done));(first|rfl));(simp only[go_sem];refine hK _ ?_;clear hK K))|((with_reducible refine Q0b ?_ ?_);rfl;intro K hK;simp only[go_sem];((repeat(refine ndI (by first|assumption) ?_));refine hK _ ?_;clear hK K))|(with_reducible first|(refine Q0c ?_;refine hR _ ?_;clear hR R)|((first|refine Q0d ?_);intro J hJ hJ')|(refine Q0a ?_;intro R hR)|(refine hJ _ ?_;clear hJ hJ' J)|refine Q0k ?_))))
 all_goals(refine⟨by simp,⟨_,?_,AV.le_refl _⟩,Q0h (by simp[leH,hget])⟩;simp only[Tryz.results28,resL,ldA,Q0q,go_sem])
end
section
open Go.RowKit
open Nat (reduceBEq)
attribute [-go_sem] IntKind.bits
set_option maxRecDepth 20000
set_option maxHeartbeats 600000
abbrev raG{β : Type}(pv:β→List PV)(l:List β):List AV:=(l.flatMap pv).map .c
def selG{β : Type}(st:Ev→Option β)(ks:List Int)(l:List Ev):List β:=(l.filter fun e=>decide (e.kind∈ks)).filterMap st
theorem selG_snoc{β : Type}(st:Ev→Option β)(ks:List Int){l:List Ev}{i:Nat}{y:Ev}(h:l[i]? = some y):selG st ks (l.take (i+1))=if decide (y.kind∈ks)=true then(match st y with|some v=>selG st ks (l.take i)++[v]|none=>selG st ks (l.take i)) else selG st ks (l.take i):=by
 unfold selG
 rw[List.take_add_one,h,List.filter_append,List.filterMap_append]
 by_cases c:decide (y.kind∈ks)=true
 · rw[if_pos c]
   simp only[Option.toList_some,List.filter_cons,c,if_true,List.filter_nil]
   cases hs:st y<;>simp[hs]
 · rw[if_neg c]
   have c':decide (y.kind∈ks)=false:=by simpa using c
   simp only[Option.toList_some,List.filter_cons,c',List.filter_nil,List.filterMap_nil,List.append_nil,Bool.false_eq_true,if_false]
theorem X8d{β : Type}(st:Ev→Option β)(ks:List Int)(l:List Ev):(selG st ks l).length≤l.length:=by
 unfold selG;exact Nat.le_trans (List.length_filterMap_le _ _) (List.length_filter_le _ _)
abbrev tgH0{β : Type}(ty sz:Nat)(pv:β→List PV)(out:List β):List (Nat×List AV):=[(1005,[.row 1600 ty sz out.length]),(1600,raG pv out)]
abbrev tgH1{β : Type}(ty sz:Nat)(pv:β→List PV)(out:List β)(v:β):List (Nat×List AV):=[(1005,[.row 26 ty sz (out.length+1)]),(26,raG pv (out++[v]))]
abbrev stG{β : Type}(ty sz:Nat)(pv:β→List PV)(ex ex':Bool)(l:List Ev)(ks:List Int)(lp r:Nat)(out:List β)(i:Nat):St:=⟨[yv lp,.ptr 1101 0,.ptr 1102 0,.any,.any,.any,.any,.any,.any,evs ex l,vi .i64 l.length,vi .i64 i,.any,.any,.any,.any,.any,.any,.any,.any,.any,.any,.any,.any,.any,.any],[(1005,[.row r ty sz out.length]),(r,raG pv out),(1101,[evs ex l]),(1102,[ksl ex' ks])]⟩
theorem stG_rn{β : Type}(ty sz:Nat)(pv:β→List PV)(ex ex':Bool)(l:List Ev)(ks:List Int)(lp:Nat)(out:List β)(i:Nat):(stG ty sz pv ex ex' l ks lp 26 out i).to (stG ty sz pv ex ex' l ks lp 600 out i):=by
 have h:=St.to.rn (σ:=stG ty sz pv ex ex' l ks lp 26 out i) (fun r=>if r=26 then 600 else r) (fun r=>if r=600 then 26 else r) [26,1005,1101,1102] (by simp[AV.inNL,AV.inN]) (by simp) (by simp[inH,AV.inNL,AV.inN,Q0p]) (by simp) (by simp)
 simpa [AV.renL,AV.ren,renH] using h
theorem that1G_fn{β : Type}(ty sz:Nat)(pv:β→List PV)(st:Ev→Option β)(ex ex':Bool)(l:List Ev)(hl:l.length≤1000)(ho:∀e∈l,e.ok)(hr:trB l=true)(ks:List Int)(hk:ks.length≤10){t:Tmp}{asg bod:Code}{T0:List AV}(hT0:AV.inNL [1005] T0=true)(lp:Nat)
 (hY:∀(out:List β) (y:Ev) (v:β),y∈l→y.kind∈ks→out.length≤1000→st y=some v→YC Tryz.prog t asg bod T0 lp (evA y) (tgH0 ty sz pv out) (tgH1 ty sz pv out v))
 (hN:∀(out:List β) (y:Ev),y∈l→y.kind∈ks→out.length≤1000→st y=none→YC Tryz.prog t asg bod T0 lp (evA y) (tgH0 ty sz pv out) (tgH0 ty sz pv out)) :
 FnW (LoopAt t asg bod T0 [1005,1101,1102] lp) Tryz.prog 142 [yv lp,.ptr 1101 0,.ptr 1102 0] [(1005,[nilA]),(1101,[evs ex l]),(1102,[ksl ex' ks])] (.tup []) [(1005,[.row 600 ty sz (selG st ks l).length]),(600,raG pv (selG st ks l))]:=by
 have ck:=Q5i ex l (by omega) ho
 rw[hr] at ck
 (refine Q4o Tryz.func142 rfl (by rfl) ?_;simp only[Tryz.ntmps142,List.length_cons,List.length_nil,Nat.reduceAdd,Nat.reduceSub,List.replicate,List.cons_append,List.nil_append])
 refine AWE.seq (AWE.of ?_)
 (repeat(any_goals(first|((with_reducible refine Q0n ?_ ?_ ?_);rfl;rfl;intro K hK;((apply Q0j (ck);rfl;rfl;rfl;rfl;exact Tryz.func51);kernel_rfl;rfl;(focus((simp only[go_sem,bne_self_eq_false,ite_true,if_true]);(try rfl);done));(first|rfl));(simp only[go_sem,bne_self_eq_false,ite_true,if_true];refine hK _ ?_;clear hK K))|((with_reducible refine Q0b ?_ ?_);rfl;intro K hK;simp only[go_sem,bne_self_eq_false,ite_true,if_true];((repeat(refine ndI (by first|assumption) ?_));refine hK _ ?_;clear hK K))|(with_reducible first|(refine Q0c ?_;refine hR _ ?_;clear hR R)|((first|refine Q0d ?_);intro J hJ hJ')|(refine Q0a ?_;intro R hR)|(refine hJ _ ?_;clear hJ hJ' J)|refine Q0i ?_)|((with_reducible apply Q0e);rfl;rfl;all_goals(intro hc;first|(cases hc;done)|(try simp only at hc))))))
 show AWE _ _ _ _ _
 refine AWE.seq (AWE.of ?_)
 (repeat(any_goals(first|((with_reducible refine Q0b ?_ ?_);rfl;intro K hK;simp only[go_sem];((repeat(refine ndI (by first|assumption) ?_));refine hK _ ?_;clear hK K))|(with_reducible first|(refine Q0c ?_;refine hR _ ?_;clear hR R)|(refine Q0a ?_;intro R hR)))))
 show AWE _ _ _ _ _
 refine AWE.block ?_
 refine AWE.loop (α:={i:Nat // i≤l.length}) (fun p=>stG ty sz pv ex ex' l ks lp 600 (selG st ks (l.take p.1)) p.1) (fun p=>l.length-p.1) ⟨0,Nat.zero_le _⟩ ?_ ?_
 · refine St.to.trans (St.to.nilcell 1005 600 ty sz 0 (cs:=[nilA]) (by simp[hget]) rfl (by simp[St.free,Q1z,AV.refsL,AV.refs]) (by decide) (by decide)) (St.to.of_le (St.le_of (by simp[leT,selG]) (by simp[leH,hget,hput,selG,raG])))
 rintro ⟨i,hi⟩
 dsimp only[stG]
 rcases Nat.lt_or_ge i l.length with hlt|hge
 · obtain⟨y,hy⟩:∃y,l[i]? = some y:=⟨l[i],List.getElem?_eq_getElem hlt⟩
   have k1:(decide ((i:Int)<(l.length:Int)))=true:=by simpa using hlt
   have k2:=ev_at hy
   have k7:(i:Int)+1=((i+1:Nat):Int):=by omega
   have k5:=X8d st ks (l.take i)
   have k6:(l.take i).length≤1000:=by simp;omega
   have hm:=List.mem_of_getElem? hy
   have m1:=selG_snoc st ks hy
   have fin:∀τ : St,τ.to (stG ty sz pv ex ex' l ks lp 600 (selG st ks (l.take (i+1))) (i+1))→∃q:{i:Nat // i≤l.length},l.length-q.1<l.length-i∧τ.to (stG ty sz pv ex ex' l ks lp 600 (selG st ks (l.take q.1)) q.1):=fun τ h=>⟨⟨i+1,hlt⟩,by simp only;omega,h⟩
   have cn:=Q8x ex' ks y.kind (by omega)
   generalize selG st ks (l.take (i+1))=out' at fin m1
   generalize selG st ks (l.take i)=out at k5 m1 ⊢
   have k9:∀r,AV.refsL r (raG pv out)=false:=fun r=>Q0l r _
   refine AWE.seq (AWE.of ?_)
   (repeat(any_goals(first|((with_reducible refine Q0b ?_ ?_);rfl;intro K hK;simp only[go_sem,k1];((repeat(refine ndI (by first|assumption) ?_));refine hK _ ?_;clear hK K))|(with_reducible first|(refine Q0c ?_;refine hR _ ?_;clear hR R)|(refine Q0a ?_;intro R hR)))))
   refine AWE.seq (AWE.of ?_)
   (repeat(any_goals(first|(with_reducible first|refine Q0i ?_)|((with_reducible apply Q0e);rfl;rfl;all_goals(intro hc;first|(cases hc;done)|(try simp only at hc))))))
   refine AWE.seq (AWE.block (AWE.seq (AWE.of ?_)))
   (repeat(any_goals(first|((with_reducible refine Q0b ?_ ?_);rfl;intro K hK;simp(disch:=omega) only[go_sem,k1,k2,k7,k9,wrI];((repeat(refine ndI (by first|assumption|omega|rfl) ?_));refine hK _ ?_;clear hK K))|(with_reducible first|(refine Q0c ?_;refine hR _ ?_;clear hR R)|(refine Q0a ?_;intro R hR)))))
   cases hya:decide (y.kind∈ks) with
   |false=>
    rw[hya] at cn m1
    rw[if_neg (by simp)] at m1
    refine AWE.seq (AWE.of ?_)
    (repeat(any_goals(first|((with_reducible refine Q0n ?_ ?_ ?_);rfl;rfl;intro K hK;((apply Q0j (cn);rfl;rfl;rfl;rfl;exact Tryz.func143);kernel_rfl;rfl;(focus((simp(disch:=omega) only[go_sem,k1,k2,k7,k9,wrI]);(try rfl);done));(first|rfl));(simp(disch:=omega) only[go_sem,k1,k2,k7,k9,wrI];refine hK _ ?_;clear hK K))|((with_reducible refine Q0b ?_ ?_);rfl;intro K hK;simp(disch:=omega) only[go_sem,k1,k2,k7,k9,wrI];((repeat(refine ndI (by first|assumption|rfl) ?_));refine hK _ ?_;clear hK K))|(with_reducible first|(refine Q0c ?_;refine hR _ ?_;clear hR R)|(refine Q0a ?_;intro R hR))|((with_reducible apply Q1a);rfl;rfl;rfl;all_goals(intro hb;first|(cases hb;done)|((try simp only[Bool.not_true,Bool.not_false] at hb);(first|((fail_if_success (with_reducible intro _));simp(disch:=omega) only[go_sem,k1,k2,k7,k9,wrI]))))))))
    show AWE _ _ _ _ _
    refine AWE.of ?_
    (repeat(any_goals(first|(with_reducible first|refine Q0i ?_)|((with_reducible apply Q0e);rfl;rfl;all_goals(intro hc;first|(cases hc;done)|(try simp only at hc))))))
    show AWE _ _ _ _ _
    refine AWE.of ?_
    (repeat(any_goals(first|((with_reducible refine Q0b ?_ ?_);rfl;intro K hK;simp(disch:=omega) only[go_sem,k7,wrI];((repeat(refine ndI (by first|assumption|rfl) ?_));refine hK _ ?_;clear hK K))|(with_reducible first|(refine Q0c ?_;refine hR _ ?_;clear hR R)|(refine Q0a ?_;intro R hR)))))
    subst m1
    exact fin _ (St.to.of_le (St.le_of (by simp[leT]) (by simp[leH,hget])))
   |true=>
    rw[hya] at cn m1
    rw[if_pos rfl] at m1
    cases hst:st y with
    |some v=>
     rw[hst] at m1
     dsimp only at m1
     subst m1
     refine AWE.seq (AWE.region_at 7 rfl rfl ?_)
     intro R hR
     simp only[List.take,List.drop]
     (repeat(any_goals(first|((with_reducible refine Q0n ?_ ?_ ?_);rfl;rfl;intro K hK;((apply Q0j (cn);rfl;rfl;rfl;rfl;exact Tryz.func143);kernel_rfl;rfl;(focus((simp(disch:=omega) only[go_sem,k1,k2,k7,k9,wrI]);(try rfl);done));(first|rfl));(simp(disch:=omega) only[go_sem,k1,k2,k7,k9,wrI];refine hK _ ?_;clear hK K))|((with_reducible refine Q0b ?_ ?_);rfl;intro K hK;simp(disch:=omega) only[go_sem,k1,k2,k7,k9,wrI];((repeat(refine ndI (by first|assumption|rfl) ?_));refine hK _ ?_;clear hK K))|(with_reducible first|(refine Q0c ?_;refine hR _ ?_;clear hR R))|((with_reducible apply Q1a);rfl;rfl;rfl;all_goals(intro hb;first|(cases hb;done)|((try simp only[Bool.not_true,Bool.not_false] at hb);(first|((with_reducible intro K hK);simp(disch:=omega) only[go_sem,k1,k2,k7,k9,wrI];((repeat(refine ndI (by first|assumption|rfl) ?_));refine hK _ ?_;clear hK K)))))))))
     refine⟨.inr ⟨4,true,19,rfl,rfl,rfl⟩,Q5q (hY out y v hm (of_decide_eq_true hya) (by omega) hst) (fun r=>if r=1600 then 600 else r) rfl rfl rfl rfl (.inr ?_) (by rfl) ?_ ?_ ?_ ?_ [1005] hT0 ?_ ?_⟩
     · simp[AV.ren,AV.renL,St.ev]
     · simp[hget,AV.renL,AV.ren]
     · intro r hr q hq h
       simp only[List.map_cons,List.map_nil,List.cons_append,List.nil_append,List.mem_cons,List.not_mem_nil,or_false] at hr hq
       rcases hr with rfl|rfl|rfl|rfl<;>rcases hq with rfl|rfl|rfl|rfl<;>simp at h ⊢
     · simp[Q1g,St.free,Q1z,AV.refs,AV.refsL,k9]
     · simp[inH,AV.inNL,AV.inN]
     · simp[hget]
     intro R hR
     simp only[List.drop,Q0r,Q1h,renH,AV.ren,AV.renL,Q0m,hput,hdel,hget,St.put,List.set]
     (repeat(any_goals(first|((with_reducible refine Q0b ?_ ?_);rfl;intro K hK;simp(disch:=omega) only[go_sem,k1,k2,k7,k9,hya,wrI];((repeat(refine ndI (by first|assumption|rfl) ?_));refine hK _ ?_;clear hK K))|(with_reducible first|(refine Q0c ?_;refine hR _ ?_;clear hR R))|((with_reducible apply Q1a);rfl;rfl;rfl;all_goals(intro hb;first|(cases hb;done)|((try simp only[Bool.not_true,Bool.not_false] at hb);(first|((with_reducible intro K hK);simp(disch:=omega) only[go_sem,k1,k2,k7,k9,hya,wrI];((repeat(refine ndI (by first|assumption|rfl) ?_));refine hK _ ?_;clear hK K)))))))))
     show AWE _ _ _ _ _
     refine AWE.of ?_
     (repeat(any_goals(first|(with_reducible first|refine Q0i ?_)|((with_reducible apply Q0e);rfl;rfl;all_goals(intro hc;first|(cases hc;done)|(try simp only at hc))))))
     show AWE _ _ _ _ _
     refine AWE.of ?_
     (repeat(any_goals(first|((with_reducible refine Q0b ?_ ?_);rfl;intro K hK;simp(disch:=omega) only[go_sem,k7,wrI];((repeat(refine ndI (by first|assumption|rfl) ?_));refine hK _ ?_;clear hK K))|(with_reducible first|(refine Q0c ?_;refine hR _ ?_;clear hR R)|(refine Q0a ?_;intro R hR)))))
     exact fin _ (St.to.trans (St.to.of_le (τ:=stG ty sz pv ex ex' l ks lp 26 (out++[v]) (i+1)) (St.le_of (by simp[leT]) (by simp[leH,hget,raG]))) (stG_rn ty sz pv ex ex' l ks lp _ _))
    |none=>
     rw[hst] at m1
     dsimp only at m1
     subst m1
     refine AWE.seq (AWE.region_at 7 rfl rfl ?_)
     intro R hR
     simp only[List.take,List.drop]
     (repeat(any_goals(first|((with_reducible refine Q0n ?_ ?_ ?_);rfl;rfl;intro K hK;((apply Q0j (cn);rfl;rfl;rfl;rfl;exact Tryz.func143);kernel_rfl;rfl;(focus((simp(disch:=omega) only[go_sem,k1,k2,k7,k9,wrI]);(try rfl);done));(first|rfl));(simp(disch:=omega) only[go_sem,k1,k2,k7,k9,wrI];refine hK _ ?_;clear hK K))|((with_reducible refine Q0b ?_ ?_);rfl;intro K hK;simp(disch:=omega) only[go_sem,k1,k2,k7,k9,wrI];((repeat(refine ndI (by first|assumption|rfl) ?_));refine hK _ ?_;clear hK K))|(with_reducible first|(refine Q0c ?_;refine hR _ ?_;clear hR R))|((with_reducible apply Q1a);rfl;rfl;rfl;all_goals(intro hb;first|(cases hb;done)|((try simp only[Bool.not_true,Bool.not_false] at hb);(first|((with_reducible intro K hK);simp(disch:=omega) only[go_sem,k1,k2,k7,k9,wrI];((repeat(refine ndI (by first|assumption|rfl) ?_));refine hK _ ?_;clear hK K)))))))))
     refine⟨.inr ⟨4,true,19,rfl,rfl,rfl⟩,Q5q (hN out' y hm (of_decide_eq_true hya) (by omega) hst) (fun r=>if r=1600 then 600 else r) rfl rfl rfl rfl (.inr ?_) (by rfl) ?_ ?_ ?_ ?_ [1005] hT0 ?_ ?_⟩
     · simp[AV.ren,AV.renL,St.ev]
     · simp[hget,AV.renL,AV.ren]
     · intro r hr q hq h
       simp only[List.map_cons,List.map_nil,List.cons_append,List.nil_append,List.mem_cons,List.not_mem_nil,or_false] at hr hq
       rcases hr with rfl|rfl|rfl|rfl<;>rcases hq with rfl|rfl|rfl|rfl<;>simp at h ⊢
     · simp[Q1g,St.free,Q1z,AV.refs,AV.refsL,k9]
     · simp[inH,AV.inNL,AV.inN]
     · simp[hget]
     intro R hR
     simp only[List.drop,Q0r,Q1h,renH,AV.ren,AV.renL,Q0m,hput,hdel,hget,St.put,List.set]
     (repeat(any_goals(first|((with_reducible refine Q0b ?_ ?_);rfl;intro K hK;simp(disch:=omega) only[go_sem,k1,k2,k7,k9,hya,wrI];((repeat(refine ndI (by first|assumption|rfl) ?_));refine hK _ ?_;clear hK K))|(with_reducible first|(refine Q0c ?_;refine hR _ ?_;clear hR R))|((with_reducible apply Q1a);rfl;rfl;rfl;all_goals(intro hb;first|(cases hb;done)|((try simp only[Bool.not_true,Bool.not_false] at hb);(first|((with_reducible intro K hK);simp(disch:=omega) only[go_sem,k1,k2,k7,k9,hya,wrI];((repeat(refine ndI (by first|assumption|rfl) ?_));refine hK _ ?_;clear hK K)))))))))
     show AWE _ _ _ _ _
     refine AWE.of ?_
     (repeat(any_goals(first|(with_reducible first|refine Q0i ?_)|((with_reducible apply Q0e);rfl;rfl;all_goals(intro hc;first|(cases hc;done)|(try simp only at hc))))))
     show AWE _ _ _ _ _
     refine AWE.of ?_
     (repeat(any_goals(first|((with_reducible refine Q0b ?_ ?_);rfl;intro K hK;simp(disch:=omega) only[go_sem,k7,wrI];((repeat(refine ndI (by first|assumption|rfl) ?_));refine hK _ ?_;clear hK K))|(with_reducible first|(refine Q0c ?_;refine hR _ ?_;clear hR R)|(refine Q0a ?_;intro R hR)))))
     exact fin _ (St.to.of_le (St.le_of (by simp[leT]) (by simp[leH,hget])))
 · have k1:(decide ((i:Int)<(l.length:Int)))=false:=by simpa using hge
   have e:l.take i=l:=List.take_of_length_le hge
   rw[e]
   refine AWE.seq (AWE.of ?_)
   (repeat(any_goals(first|((with_reducible refine Q0b ?_ ?_);rfl;intro K hK;simp only[go_sem,k1];((repeat(refine ndI (by first|assumption) ?_));refine hK _ ?_;clear hK K))|(with_reducible first|(refine Q0c ?_;refine hR _ ?_;clear hR R)|(refine Q0a ?_;intro R hR)))))
   refine AWE.seq (AWE.of ?_)
   (repeat(any_goals(first|(with_reducible first|refine Q0t ?_)|((with_reducible apply Q0e);rfl;rfl;all_goals(intro hc;first|(cases hc;done)|(try simp only at hc))))))
   exact⟨by simp,⟨_,rfl,AV.le_of (by simp[Q0q])⟩,Q0h (by simp[leH,hget])⟩
def lpv(n:Nat):List PV:=[.v (.int .u64 (l0 n)),.v (.int .u64 (l1 n)),.v (.int .u64 (l2 n)),.v (.int .u64 (l3 n))]
theorem X3f(n:Nat):(lpv n).length=4:=rfl
abbrev wsl(ex:Bool)(l:List Nat):AV:=.c (.sl ex 4 l.length (l.flatMap lpv))
theorem wsl_at{l:List Nat}{i:Nat}{y:Nat}(h:l[i]? = some y):((l.flatMap lpv).drop (i*4)).take 4=[.v (.int .u64 (l0 y)),.v (.int .u64 (l1 y)),.v (.int .u64 (l2 y)),.v (.int .u64 (l3 y))]:=Q4s (f:=lpv) X3f h
def ownL(a:Int):List Nat:=wdL [UInt64.ofNat a.toNat,0,0,0]
theorem own_lnA{a:Int}(ha:U a):w4 a 0 0 0=lnA [UInt64.ofNat a.toNat,0,0,0]:=by
 have e:((UInt64.ofNat a.toNat).toNat:Int)=a:=by
  have h:a.toNat<2 ^ 64:=by have:=ha.2;omega
  rw[UInt64.toNat_ofNat_of_lt' (by simpa [UInt64.size] using h)]
  exact Int.toNat_of_nonneg ha.1
 simp only[lnA,rcV,List.map_cons,List.map_nil,lvA,e]
 rfl
theorem ownL_len(a:Int):(ownL a).length=32:=X6o _
def ownB(W:List Nat)(e:Ev):Bool:=decide (e.data.take 32=W)
def Z1f(W:List Nat)(e:Ev):Option Nat:=if ownB W e=true then some e.val else none
def Q5h(W:List Nat)(l:List Ev):List Nat:=selG (Z1f W) [1] l
theorem X8z{l:List Ev}(hr:trB l=true){y:Ev}(hy:y∈l)(hk:y.kind=1):y.data.length=64:=by
 unfold trB at hr
 have h1:=List.all_eq_true.1 (Bool.and_eq_true_iff.1 hr).2 y hy
 unfold Q3d at h1
 rw[if_pos hk] at h1
 have h2:=(Bool.and_eq_true_iff.1 (Bool.and_eq_true_iff.1 h1).2).1
 exact(of_decide_eq_true h2).1
theorem arg32{D:List Nat}(h:D.length=64):bsl false (D.take 32) = .c (.sl false 1 32 ((D.flatMap bpv).take 32)):=by
 have e:(D.take 32).length=32:=by rw[List.length_take,h];rfl
 have f:(D.flatMap bpv).take (32*1)=(D.take 32).flatMap bpv:=Q5a Q4b _ _
 rw[bsl,e,←f]
theorem basesW_fn(ex:Bool)(l:List Ev)(hl:l.length≤1000)(ho:∀e∈l,e.ok)(hr:trB l=true)(a:Int)(W:List Nat)(ol:W.length=32)(wb:Fn Tryz.prog 153 [w4 a 0 0 0] [] (bsl false W) []):Fn Tryz.prog 121 [evs ex l,vi .u64 a] [] (wsl false (Q5h W l)) []:=by
 have th:Fn Tryz.prog 95 [evs ex l,.c (.sl true 1 1 [.v (.int .i64 1)])] [] (.fn 142 [.ptr 2 0,.ptr 3 0]) [(2,[evs ex l]),(3,[.c (.sl true 1 1 [.v (.int .i64 1)])])]:=that_fn ex true l [1]
 have aw:=X9x a
 have hrow:Fn Tryz.prog 121 [evs ex l,vi .u64 a] [] (.row 600 35 4 (Q5h W l).length) [(600,raG lpv (Q5h W l))]:=by
  (refine Q0v Tryz.func121 rfl (by rfl) ?_;simp only[Tryz.ntmps121,List.length_cons,List.length_nil,Nat.reduceAdd,Nat.reduceSub,List.replicate,List.cons_append,List.nil_append])
  (repeat(any_goals(first|((with_reducible refine Q2t ?_ ?_);rfl;intro K hK;apply Q2f;rfl;rfl;(focus(simp only[go_sem];try rfl));(focus(simp only[go_sem];try rfl));rfl;(first|omega);(first|omega);(first|omega);(simp only[go_sem];rfl);rfl;(focus((simp only[unC,Option.map_some]);(try rfl)));(simp only[go_sem];refine hK _ ?_;clear hK K))|((with_reducible refine Q0n ?_ ?_ ?_);rfl;rfl;intro K hK;(first|((first|(apply Q0j (aw);rfl;rfl;rfl;rfl;exact Tryz.func119)|(apply Q0j (wb);rfl;rfl;rfl;rfl;exact Tryz.func153));kernel_rfl;rfl;(focus((simp only[go_sem]);(try rfl);done));(first|rfl))|(apply Q0s (th) (fun r=>r+99);rfl;rfl;rfl;rfl;exact Tryz.func95;kernel_rfl;rfl;rfl;(intro r hr q hq h;simp only[List.map_cons,List.map_nil,List.cons_append,List.nil_append,List.mem_cons,List.not_mem_nil,or_false] at hr hq;(try dsimp only at h);first|omega);(simp only[Q0w,Q1k,AV.ren,AV.renL,Q0m,List.mem_cons,List.not_mem_nil,forall_eq_or_imp,forall_eq,Q1g,List.contains_cons,List.contains_nil,AV.refsL,AV.refs,Q0l,AV.inN,AV.inNL,inH,Q0p,go_sem])));(simp only[Q0r,Q1h,renH,AV.ren,AV.renL,Q0m,go_sem];refine hK _ ?_;clear hK K))|((with_reducible refine Q0b ?_ ?_);rfl;intro K hK;simp only[go_sem];((repeat(refine ndI (by first|assumption) ?_));refine hK _ ?_;clear hK K))|(with_reducible first|(refine Q0c ?_;refine hR _ ?_;clear hR R)|((first|refine Q0d ?_|refine Q0g ?_);intro J hJ hJ')|(refine Q0a ?_;intro R hR)|(refine hJ _ ?_;clear hJ hJ' J)))))
  show AW _ _ _ _
  refine AW.frz 5 (pcs:=[.sl false 1 (W).length ((W).flatMap bpv)]) rfl ?_
  simp only[St.frz,AV.frz,AV.frzL,frzH,hdel]
  refine AW.range (T0:=[.any,.any,.any,.any,.any,.ep [.sl false 1 (W).length ((W).flatMap bpv)],.ptr 1005 0,.any,.any,.any,.any,.any,.any,.any,.any,.any,.any,.any,.any,.any,.any,.any,.any,.any,.any,.any,.any,.any]) (cargs:=[.ptr 1101 0,.ptr 1102 0]) (H0:=[(1005,[nilA]),(1101,[evs ex l]),(1102,[ksl true [1]])]) (H1:=[(1005,[.row 600 35 4 (Q5h W l).length]),(600,raG lpv (Q5h W l))]) (res:=.tup []) (fun r=>if r=1005 then 6 else if 1000≤r then r-1000 else r) (fun lp=>that1G_fn 35 4 lpv (Z1f W) ex true l hl ho hr [1] (by decide) rfl lp ?_ ?_) rfl rfl Tryz.func142 (by kernel_rfl) rfl rfl ?_ ?_ ?_ ?_ ?_ rfl ?_ ?_
  · intro out y v hm hk ho' hv
    have hk1:y.kind=1:=by simpa using hk
    have dl:=X8z hr hm hk1
    have hb:ownB W y=true:=by
     unfold Z1f at hv
     split at hv
     · assumption
     · cases hv
    have hv':y.val=v:=by
     unfold Z1f at hv
     rw[if_pos hb] at hv
     exact Option.some.inj hv
    subst hv'
    have be:=beq_fn false false (y.data.take 32) (W) (by simp;omega)
    change Fn _ _ _ _ (vb (ownB W y)) _ at be
    rw[hb,arg32 dl,show bsl false W = .c (.sl false 1 32 (W.flatMap bpv)) by rw[bsl,ol]] at be
    have k4:(raG lpv out).length=out.length*4:=by rw[List.length_map,Q0o X3f]
    have k9:∀r,AV.refsL r (raG lpv out)=false:=fun r=>Q0l r _
    refine yc_ofR rfl ?_
    simp only[List.set]
    (repeat(any_goals(first|((with_reducible refine Q0b ?_ ?_);rfl;intro K hK;simp only[go_sem];((repeat(refine ndI (by first|assumption) ?_));refine hK _ ?_;clear hK K))|(with_reducible first|(refine Q0c ?_;refine hR _ ?_;clear hR R)|(refine Q0a ?_;intro R hR)))))
    refine⟨rfl,fun ro=>AWR.block (AWR.seq ?_)⟩
    with_reducible apply AWR.draw
    · rfl
    · kernel_rfl
    · kernel_rfl
    · simp[Q2c,Q6y,St.free,Q1z,AV.refsL,AV.refs]
    intro R hR
    clear hb hv hr
    (repeat(any_goals(first|((with_reducible refine Q0z ?_ ?_);kernel_rfl;(with_reducible refine hR _ ?_);clear hR R)|((first|((with_reducible apply Q2g);rfl;rfl;((apply Q1c (be);rfl;rfl;rfl;rfl;exact Tryz.func141);kernel_rfl;rfl;(focus((simp(disch:=omega) only[go_sem,k4,k9,ol,dl,Bool.false_and]);(try rfl);done));(first|rfl)))|((with_reducible apply Q0x);rfl;rfl;(simp(disch:=omega) only[rdE,rdOf,go_sem,k4,k9,ol,dl,Bool.false_and];rfl);(intro τ hA hQ hN;((try simp only[Q1o,Op.operands,Call.operands,go_sem,k4,k9,ol,dl,Bool.false_and,go_sem,List.mem_cons,List.not_mem_nil,forall_eq_or_imp,forall_eq,List.append_toArray,Option.toArray] at hA);(try simp only[go_sem,k4,k9,ol,dl,Bool.false_and,List.mem_cons,List.not_mem_nil,forall_eq_or_imp,forall_eq] at hQ hN);(first|(revert hA;intro hA));(first|(revert hQ;intro hQ));(first|(revert hN;intro hN));simp(disch:=omega) only[go_sem,k4,k9,ol,dl,Bool.false_and,go_sem,hA,hQ,hN];(repeat(refine ndI (by first|assumption|omega|rfl) ?_));(first|apply Q1f)))));(simp(disch:=omega) only[St.eff,setO,Q0r,go_sem,k4,k9,ol,dl,Bool.false_and])))))
    show AWR _ _ _ _ _
    refine AWR.of rfl ?_
    (have W:=ndI k4 (ndI k9 @Q0l);(repeat(any_goals(first|((with_reducible refine Q0b ?_ ?_);rfl;intro K hK;simp(disch:=omega) only[go_sem,W,Q4w,AV.refsL,AV.refs,List.length_append,List.length_cons,List.length_nil,Bool.or_false];((repeat(refine ndI (by first|assumption|omega|rfl) ?_));refine hK _ ?_;clear hK K))|(with_reducible first|(refine Q0c ?_;refine hR _ ?_;clear hR R)|(refine Q0a ?_;intro R hR))|((with_reducible apply Q0e);rfl;rfl;all_goals(intro hc;first|(cases hc;done)|(try simp only at hc)))))))
    all_goals exact⟨rfl,Q0h (by simp[leH,hget,lpv,raG])⟩
  · intro out y hm hk ho' hv
    have hk1:y.kind=1:=by simpa using hk
    have dl:=X8z hr hm hk1
    have hb:ownB W y=false:=by
     unfold Z1f at hv
     split at hv
     · cases hv
     · rename_i h
       simpa using h
    have be:=beq_fn false false (y.data.take 32) W (by simp;omega)
    change Fn _ _ _ _ (vb (ownB W y)) _ at be
    rw[hb,arg32 dl,show bsl false W = .c (.sl false 1 32 (W.flatMap bpv)) by rw[bsl,ol]] at be
    have k4:(raG lpv out).length=out.length*4:=by rw[List.length_map,Q0o X3f]
    have k9:∀r,AV.refsL r (raG lpv out)=false:=fun r=>Q0l r _
    refine yc_ofR rfl ?_
    simp only[List.set]
    (repeat(any_goals(first|((with_reducible refine Q0b ?_ ?_);rfl;intro K hK;simp only[go_sem];((repeat(refine ndI (by first|assumption) ?_));refine hK _ ?_;clear hK K))|(with_reducible first|(refine Q0c ?_;refine hR _ ?_;clear hR R)|(refine Q0a ?_;intro R hR)))))
    refine⟨rfl,fun ro=>AWR.block (AWR.seq ?_)⟩
    with_reducible apply AWR.draw
    · rfl
    · kernel_rfl
    · kernel_rfl
    · simp[Q2c,Q6y,St.free,Q1z,AV.refsL,AV.refs]
    intro R hR
    clear hb hv hr
    (repeat(any_goals(first|((with_reducible refine Q0z ?_ ?_);kernel_rfl;(with_reducible refine hR _ ?_);clear hR R)|((first|((with_reducible apply Q2g);rfl;rfl;((apply Q1c (be);rfl;rfl;rfl;rfl;exact Tryz.func141);kernel_rfl;rfl;(focus((simp(disch:=omega) only[go_sem,k4,k9,ol,dl,Bool.false_and]);(try rfl);done));(first|rfl)))|((with_reducible apply Q0x);rfl;rfl;(simp(disch:=omega) only[rdE,rdOf,go_sem,k4,k9,ol,dl,Bool.false_and];rfl);(intro τ hA hQ hN;((try simp only[Q1o,Op.operands,Call.operands,go_sem,k4,k9,ol,dl,Bool.false_and,go_sem,List.mem_cons,List.not_mem_nil,forall_eq_or_imp,forall_eq,List.append_toArray,Option.toArray] at hA);(try simp only[go_sem,k4,k9,ol,dl,Bool.false_and,List.mem_cons,List.not_mem_nil,forall_eq_or_imp,forall_eq] at hQ hN);(first|(revert hA;intro hA));(first|(revert hQ;intro hQ));(first|(revert hN;intro hN));simp(disch:=omega) only[go_sem,k4,k9,ol,dl,Bool.false_and,go_sem,hA,hQ,hN];(repeat(refine ndI (by first|assumption|omega|rfl) ?_));(first|apply Q1f)))));(simp(disch:=omega) only[St.eff,setO,Q0r,go_sem,k4,k9,ol,dl,Bool.false_and])))))
    show AWR _ _ _ _ _
    refine AWR.of rfl ?_
    (repeat(any_goals(first|(with_reducible first|refine Q0i ?_)|((with_reducible apply Q0e);rfl;rfl;all_goals(intro hc;first|(cases hc;done)|(try simp only at hc))))))
    all_goals exact⟨rfl,Q0h (by simp[leH,hget,lpv])⟩
  · simp[Q0w,Q1k,AV.ren]
  · simp[Q0w,Q1k,AV.ren]
  · simp[hget,AV.renL,AV.ren,kpv]
  · intro r hr q hq h
    simp only[List.map_cons,List.map_nil,List.cons_append,List.nil_append,List.mem_cons,List.not_mem_nil,or_false] at hr hq
    rcases hr with rfl|rfl|rfl|rfl|rfl<;>rcases hq with rfl|rfl|rfl|rfl|rfl<;>simp at h ⊢
  · simp[Q1g,St.free,Q1z,AV.refs,AV.refsL]
  · simp[inH,AV.inNL,AV.inN]
  · simp only[Q0r,Q1h,renH,AV.ren,AV.renL,Q0m,hput,hdel,hget,Nat.reduceLeDiff,Nat.reduceSub,Nat.reduceEqDiff,↓reduceIte]
    (repeat(any_goals(first|((with_reducible refine Q0b ?_ ?_);rfl;intro K hK;simp only[go_sem];((repeat(refine ndI (by first|assumption) ?_));refine hK _ ?_;clear hK K))|(with_reducible first|(refine Q0c ?_;refine hR _ ?_;clear hR R)|((first|refine Q0d ?_);intro J hJ hJ')|(refine Q0a ?_;intro R hR)|(refine hJ _ ?_;clear hJ hJ' J)|refine Q0k ?_)|((with_reducible refine hJ' _ _ ?_ ?_);(focus(simp;done));clear hJ hJ' J))))
    all_goals exact⟨by simp,⟨_,rfl,AV.le_refl _⟩,Q0h (by simp[leH,hget])⟩
 have h1:=hrow.frzG
 simpa [AV.frz,AV.frzL,Q0o X3f] using h1
theorem bases_fn(ex:Bool)(l:List Ev)(hl:l.length≤1000)(ho:∀e∈l,e.ok)(hr:trB l=true)(a:Int)(ha:U a):Fn Tryz.prog 121 [evs ex l,vi .u64 a] [] (wsl false (Q5h (ownL a) l)) []:=by
 have wb:=wbytes_fn [UInt64.ofNat a.toNat,0,0,0] rfl
 rw[←own_lnA ha] at wb
 exact basesW_fn ex l hl ho hr a (ownL a) (ownL_len a) wb
end
end Go.Proofs.YtgdjkkapgghdbaaGreatDoor
