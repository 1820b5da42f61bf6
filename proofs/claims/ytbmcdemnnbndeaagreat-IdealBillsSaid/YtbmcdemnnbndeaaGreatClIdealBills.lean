/-
  Proved: the law IdealBills answers true for every row of receipts, and its argument reads behind the call as before. Conditions: none.
-/
import Derived.Test.YtbmcdemnnbndeaaGreatIj
import Derived.Test.YtbmcdemnnbndeaaGreatWa
import Derived.Test.YtbmcdemnnbndeaaGreatPqf
import Derived.Test.YtbmcdemnnbndeaaGreatRows
import Derived.Test.YtbmcdemnnbndeaaGreatAvI
import Derived.ProofKit
import Derived.OpenShut
import Derived.ChangeOld
import Derived.Deep.Slices
import Derived.Test.YtbmcdemnnbndeaaGreatAvW
import Derived.Test.YtbmcdemnnbndeaaGreatSs
set_option linter.unusedSimpArgs false
set_option linter.unusedVariables false
namespace Go.Proofs.YtbmcdemnnbndeaaGreat
open Go.RowKit
open Nat (reduceBEq)
set_option maxRecDepth 20000
set_option maxHeartbeats 2000000
structure Tn where
 w:Wl
 v:Wl
 r:List Rp
 f:Int
 m:Nat
 b:Nat
structure Tn.ok (t:Tn):Prop where
 w:t.w.ok
 v:t.v.ok
 r:t.r.length≤900∧∀x∈t.r,x.ok
 f:U t.f
 m:t.m<WW
 b:t.b<WW
def Tn.pv(t:Tn):List PV:=[acV t.w.S,hdV t.w.L,noV t.w.N,acV t.v.S,hdV t.v.L,noV t.v.N,rpV t.r,.v (.int .u64 t.f),.v (.int .u64 (l0 t.m)),.v (.int .u64 (l1 t.m)),.v (.int .u64 (l2 t.m)),.v (.int .u64 (l3 t.m)),.v (.int .u64 (l0 t.b)),.v (.int .u64 (l1 t.b)),.v (.int .u64 (l2 t.b)),.v (.int .u64 (l3 t.b))]
abbrev tnA(t:Tn):AV:=.agg [.c (acV t.w.S),.c (hdV t.w.L),.c (noV t.w.N),.c (acV t.v.S),.c (hdV t.v.L),.c (noV t.v.N),.c (rpV t.r),vi .u64 t.f,vi .u64 (l0 t.m),vi .u64 (l1 t.m),vi .u64 (l2 t.m),vi .u64 (l3 t.m),vi .u64 (l0 t.b),vi .u64 (l1 t.b),vi .u64 (l2 t.b),vi .u64 (l3 t.b)]
def brkE(t:Tn):Bool:=decide (hasN t.v+Q2z t.w<hasN t.w+Q2z t.v)
def brkS(t:Tn):Bool:=!decide (Q2a t.v+t.b=Q2a t.w+t.m)
def brkC(t:Tn):Bool:=t.r.any fun r=>decide (r.h<r.c)
def balN(w:Wl)(a:Int):Nat:=(OfS w.S a).b
def brkF(t:Tn):Bool:=!decide (t.f=0)&&(decide (WW≤(csL t.r++[balN t.w t.f]).sum)||decide (balN t.v t.f<(csL t.r++[balN t.w t.f]).sum%WW))
theorem two_eq(w:World)(p q:Bool)(a b c d a' b' c' d':Int):(Op.equal 81 (.agg #[.bool p,.int .u64 a,.int .u64 b,.int .u64 c,.int .u64 d]) (.agg #[.bool q,.int .u64 a',.int .u64 b',.int .u64 c',.int .u64 d'])).run Tryz.prog w = .ok (p==q&&(a==a'&&(b==b'&&(c==c'&&d==d')))) w:=by
 have h1:=fun w=>run_equalIn_agg (P:=Tryz.prog) w 9999 81 #[.bool p,.int .u64 a,.int .u64 b,.int .u64 c,.int .u64 d] #[.bool q,.int .u64 a',.int .u64 b',.int .u64 c',.int .u64 d'] (by kernel_rfl) (by kernel_rfl)
 have h2:Op.maxDepth=9999+1:=rfl
 unfold Op.equal
 rw[h2,h1]
 obtain⟨f1,f2,h3,h4,h5,h6,h7,h8,h9⟩:∃f1 f2:Field,(Tryz.prog.fieldsOf 81).toList=[f1,f2]∧f1.type=4∧f2.type=27∧f1.offset=0∧f2.offset=1∧f1.name = "over"∧f2.name = "rest":=
  ⟨(Tryz.prog.fieldsOf 81).toList.head!,(Tryz.prog.fieldsOf 81).toList.tail.head!,by kernel_rfl,by kernel_rfl,by kernel_rfl,by kernel_rfl,by kernel_rfl,by kernel_rfl,by kernel_rfl⟩
 have hw:=(X0y (P:=Tryz.prog) 3 27 (by kernel_rfl) 9996 4 true w [.int .u64 a,.int .u64 b,.int .u64 c,.int .u64 d] [.int .u64 a',.int .u64 b',.int .u64 c',.int .u64 d'] (a==a'&&(b==b'&&(c==c'&&d==d'))) (by kernel_rfl) (by kernel_rfl) rfl rfl (by simp[eqVs])).1
 have hb:=run_equalIn_bool (P:=Tryz.prog) w 9998 4 p q (by kernel_rfl)
 simp only[vOf,if_true,Nat.reduceAdd] at hw hb
 generalize (a==a'&&(b==b'&&(c==c'&&d==d')))=r at hw ⊢
 rw[h3]
 simp[h4,h5,h6,h7,h8,h9,hw,hb,go_sem]
 by_cases e:p=q<;>cases r<;>simp[e]
theorem two_op{σ : St}{o:Oper}{x y:Operand}{p q:Bool}{a b c d a' b' c' d':Int}(ho:o.op = .binOp .neq 81 x y 81)(hx:Q0j x=true)(hy:Q0j y=true)
 (h1:σ.ev x = .agg [vb p,vi .u64 a,vi .u64 b,vi .u64 c,vi .u64 d]) (h2:σ.ev y = .agg [vb q,vi .u64 a',vi .u64 b',vi .u64 c',vi .u64 d']):OpF Tryz.prog o σ.ev (hget σ.H) (vb (!(p==q&&(a==a'&&(b==b'&&(c==c'&&d==d')))))) [] []:=fun τ hA _=>by
 have e1:τ.ev x = σ.ev x:=hA x (by rw[ho];simp[Op.operands])
 have e2:τ.ev y = σ.ev y:=hA y (by rw[ho];simp[Op.operands])
 refine Q1o _ (by cases o.dst<;>rfl) fun E ι s w h=>?_
 have hxv:=h.ev x hx
 rw[e1,h1] at hxv
 have hyv:=h.ev y hy
 rw[e2,h2] at hyv
 have g1:=RV.vals (xs:=[.bool p,.int .u64 a,.int .u64 b,.int .u64 c,.int .u64 d]) hxv
 have g2:=RV.vals (xs:=[.bool q,.int .u64 a',.int .u64 b',.int .u64 c',.int .u64 d']) hyv
 refine⟨_,?_,Q2g _ rfl⟩
 have hguard:∀x' y',(eqGuard .neq 81 x' y' (s.eval x) (s.eval y)).run Tryz.prog w = .ok () w:=by
  intro x' y'
  rw[g1,g2]
  unfold eqGuard
  have hgu:Tryz.prog.eqGuardType Tryz.prog.depth 81=false:=by kernel_rfl
  simp[hgu]
 have g3:binOp .neq 81 (s.eval x) (s.eval y)=(do pure (.bool (!(←Op.equal 81 (s.eval x) (s.eval y))))):=by rw[g1,g2];rfl
 have heq:=two_eq w p q a b c d a' b' c' d'
 simp only[execOp,ho,Sem.run_bind,hguard,Result.andThen_ok,g3,Sem.run_pure]
 rw[g1,g2]
 simp only[heq,Sem.run_bind,Result.andThen_ok,Sem.run_pure]
theorem brk1_fn(t:Tn)(ht:t.ok):Fn Tryz.prog 29 [.ep t.pv] [] (vb (brkE t)) []:=by
 have f1:=has_fn t.v ht.v
 have f2:=X3n t.w ht.w
 have f3:=has_fn t.w ht.w
 have f4:=X3n t.v ht.v
 have g1:=X1e (hasN t.v) (Q2z t.w) (Q7g ht.v) (Q6q _)
 have g2:=X1e (hasN t.w) (Q2z t.v) (Q7g ht.w) (Q6q _)
 have b1:=Q7g ht.v
 have b2:=Q6q t.w
 have b3:=Q7g ht.w
 have b4:=Q6q t.v
 have g3:=lessT_fn (hasN t.v+Q2z t.w) (hasN t.w+Q2z t.v) (by omega) (by omega)
 clear b1 b2 b3 b4
 unfold brkE
 generalize decide (hasN t.v+Q2z t.w<hasN t.w+Q2z t.v)=q at g3 ⊢
 unfold twA at g1 g2 g3
 generalize decide (WW≤hasN t.v+Q2z t.w)=q1 at g1 g3
 generalize (hasN t.v+Q2z t.w)%WW=m1 at g1 g3
 generalize decide (WW≤hasN t.w+Q2z t.v)=q2 at g2 g3
 generalize (hasN t.w+Q2z t.v)%WW=m2 at g2 g3
 generalize hasN t.v=n1 at f1 g1
 generalize Q2z t.w=n2 at f2 g1
 generalize hasN t.w=n3 at f3 g2
 generalize Q2z t.v=n4 at f4 g2
 unfold Tn.pv
 (refine Q1c Tryz.func29 rfl (by rfl) ?_;simp only[Tryz.ntmps29,List.length_cons,List.length_nil,Nat.reduceAdd,Nat.reduceSub,List.replicate,List.cons_append,List.nil_append])
 (repeat(any_goals(first|((with_reducible refine Q0d ?_ ?_);rfl;intro K hK;simp only[go_sem];((repeat(refine ndI (by first|assumption) ?_));refine hK _ ?_;clear hK K))|(with_reducible first|(refine Q0c ?_;refine hR _ ?_;clear hR R)|((first|refine Q0e ?_);intro Ψ hΨ hΨ')|(refine Q0b ?_;intro R hR)|(refine hΨ _ ?_;clear hΨ hΨ' Ψ)|refine Q0l ?_)|((with_reducible refine Q0w ?_ ?_);kernel_rfl;(with_reducible refine hR _ ?_);clear hR R)|((first|((with_reducible apply Q1m);rfl;rfl;(first|((apply Q0s (g3);rfl;rfl;rfl;rfl;exact Tryz.func30);kernel_rfl;rfl;(focus((simp only[go_sem]);(try rfl);done));(first|rfl))|((apply Q0s (f1);rfl;rfl;rfl;rfl;exact Tryz.func26);kernel_rfl;rfl;(focus((simp only[go_sem]);(try rfl);done));(first|rfl))|((apply Q0s (f2);rfl;rfl;rfl;rfl;exact Tryz.func27);kernel_rfl;rfl;(focus((simp only[go_sem]);(try rfl);done));(first|rfl))|((apply Q0s (f3);rfl;rfl;rfl;rfl;exact Tryz.func26);kernel_rfl;rfl;(focus((simp only[go_sem]);(try rfl);done));(first|rfl))|((apply Q0s (f4);rfl;rfl;rfl;rfl;exact Tryz.func27);kernel_rfl;rfl;(focus((simp only[go_sem]);(try rfl);done));(first|rfl))|((apply Q0s (g1);rfl;rfl;rfl;rfl;exact Tryz.func31);kernel_rfl;rfl;(focus((simp only[go_sem]);(try rfl);done));(first|rfl))|((apply Q0s (g2);rfl;rfl;rfl;rfl;exact Tryz.func31);kernel_rfl;rfl;(focus((simp only[go_sem]);(try rfl);done));(first|rfl))))|((with_reducible apply Q0u);rfl;rfl;(simp only[rdE,rdOf,go_sem];rfl);(intro τ hA hQ hN;((try simp only[Q1g,Op.operands,Call.operands,go_sem,List.mem_cons,List.not_mem_nil,forall_eq_or_imp,forall_eq,List.append_toArray,Option.toArray] at hA);(try simp only[go_sem,List.mem_cons,List.not_mem_nil,forall_eq_or_imp,forall_eq] at hQ hN);(first|(revert hA;intro hA));(first|(revert hQ;intro hQ));(first|(revert hN;intro hN));simp only[go_sem,hA,hQ,hN];(repeat(refine ndI (by first|assumption) ?_));(first|apply Q1d)))));(simp only[St.eff,setO,Q0x,go_sem]))|((with_reducible refine Q0r ?_ ?_ ?_ ?_);kernel_rfl;kernel_rfl;(first|kernel_rfl);intro R hR))))
 all_goals(refine⟨by simp,⟨_,?_,AV.le_refl _⟩,Q0i (by simp[leH,hget])⟩;simp only[Tryz.results29,resL,ldA,Q0z,go_sem])
theorem brk2_fn(t:Tn)(ht:t.ok):Fn Tryz.prog 32 [.ep t.pv] [] (vb (brkS t)) []:=by
 have f1:=Q8c t.v ht.v
 have f2:=Q8c t.w ht.w
 have g1:=X1e (Q2a t.v) t.b (Q6a _) ht.b
 have g2:=X1e (Q2a t.w) t.m (Q6a _) ht.m
 have e:(!(decide (WW≤Q2a t.v+t.b)==decide (WW≤Q2a t.w+t.m)&&(l0 ((Q2a t.v+t.b)%WW)==l0 ((Q2a t.w+t.m)%WW)&&(l1 ((Q2a t.v+t.b)%WW)==l1 ((Q2a t.w+t.m)%WW)&&(l2 ((Q2a t.v+t.b)%WW)==l2 ((Q2a t.w+t.m)%WW)&&l3 ((Q2a t.v+t.b)%WW)==l3 ((Q2a t.w+t.m)%WW))))))=brkS t:=by
  unfold brkS
  congr 1
  rw[wN_eq (Nat.mod_lt _ (by decide)) (Nat.mod_lt _ (by decide))]
  have h1:=Q6a t.v
  have h2:=Q6a t.w
  have h3:=ht.b
  have h4:=ht.m
  generalize Q2a t.v=a at *
  generalize Q2a t.w=b at *
  generalize t.b=c at *
  generalize t.m=d at *
  have hW:0<WW:=by decide
  generalize WW=W at *
  have m0:∀x,x<2*W→(W≤x∧x%W=x-W)∨(¬W≤x∧x%W=x):=fun x hx=>by
   by_cases h:W≤x
   · exact .inl ⟨h,by rw[Nat.mod_eq_sub_mod h,Nat.mod_eq_of_lt (by omega)]⟩
   · exact .inr ⟨h,Nat.mod_eq_of_lt (by omega)⟩
  rw[Bool.eq_iff_iff,Bool.and_eq_true,beq_iff_eq,decide_eq_decide,decide_eq_true_eq,decide_eq_true_eq]
  rcases m0 (a+c) (by omega) with⟨h5,m1⟩|⟨h5,m1⟩<;>rcases m0 (b+d) (by omega) with⟨h6,m2⟩|⟨h6,m2⟩<;>rw[m1,m2]<;>exact⟨fun ⟨h7,h8⟩=>by omega,fun h7=>⟨by omega,by omega⟩⟩
 generalize brkS t=q at e ⊢
 unfold twA at g1 g2
 generalize decide (WW≤Q2a t.v+t.b)=q1 at g1 e
 generalize (Q2a t.v+t.b)%WW=m1 at g1 e
 generalize decide (WW≤Q2a t.w+t.m)=q2 at g2 e
 generalize (Q2a t.w+t.m)%WW=m2 at g2 e
 generalize Q2a t.v=n1 at f1 g1
 generalize Q2a t.w=n2 at f2 g2
 unfold Tn.pv
 (refine Q1c Tryz.func32 rfl (by rfl) ?_;simp only[Tryz.ntmps32,List.length_cons,List.length_nil,Nat.reduceAdd,Nat.reduceSub,List.replicate,List.cons_append,List.nil_append])
 (repeat(any_goals(first|((with_reducible refine Q0d ?_ ?_);rfl;intro K hK;simp only[go_sem,e];((repeat(refine ndI (by first|assumption) ?_));refine hK _ ?_;clear hK K))|(with_reducible first|(refine Q0c ?_;refine hR _ ?_;clear hR R)|((first|refine Q0e ?_);intro Ψ hΨ hΨ')|(refine Q0b ?_;intro R hR)|(refine hΨ _ ?_;clear hΨ hΨ' Ψ)|refine Q0l ?_)|((with_reducible refine Q0w ?_ ?_);kernel_rfl;(with_reducible refine hR _ ?_);clear hR R)|((first|((with_reducible apply X0v);rfl;(apply two_op;rfl;rfl;rfl;rfl;rfl))|((with_reducible apply Q1m);rfl;rfl;(first|((apply Q0s (f1);rfl;rfl;rfl;rfl;exact Tryz.func15);kernel_rfl;rfl;(focus((simp only[go_sem,e]);(try rfl);done));(first|rfl))|((apply Q0s (f2);rfl;rfl;rfl;rfl;exact Tryz.func15);kernel_rfl;rfl;(focus((simp only[go_sem,e]);(try rfl);done));(first|rfl))|((apply Q0s (g1);rfl;rfl;rfl;rfl;exact Tryz.func31);kernel_rfl;rfl;(focus((simp only[go_sem,e]);(try rfl);done));(first|rfl))|((apply Q0s (g2);rfl;rfl;rfl;rfl;exact Tryz.func31);kernel_rfl;rfl;(focus((simp only[go_sem,e]);(try rfl);done));(first|rfl))))|((with_reducible apply Q0u);rfl;rfl;(simp only[rdE,rdOf,go_sem,e];rfl);(intro τ hA hQ hN;((try simp only[Q1g,Op.operands,Call.operands,go_sem,e,go_sem,List.mem_cons,List.not_mem_nil,forall_eq_or_imp,forall_eq,List.append_toArray,Option.toArray] at hA);(try simp only[go_sem,e,List.mem_cons,List.not_mem_nil,forall_eq_or_imp,forall_eq] at hQ hN);(first|(revert hA;intro hA));(first|(revert hQ;intro hQ));(first|(revert hN;intro hN));simp only[go_sem,e,go_sem,hA,hQ,hN];(repeat(refine ndI (by first|assumption) ?_));(first|apply Q1d)))));(simp only[St.eff,setO,Q0x,go_sem,e]))|((with_reducible refine Q0r ?_ ?_ ?_ ?_);kernel_rfl;kernel_rfl;(first|kernel_rfl);intro R hR))))
 all_goals(refine⟨by simp,⟨_,?_,AV.le_refl _⟩,Q0i (by simp[leH,hget])⟩;simp only[Tryz.results32,resL,ldA,Q0z,go_sem])
theorem dear_fn(r:Rp)(hr:r.ok):Fn Tryz.prog 35 [rpA r] [] (vb (decide (r.h<r.c))) []:=by
 have f:=X5j r.c r.h hr.2.2.1 hr.2.1
 have e:decide ((if r.c<r.h then(-1:Int) else if r.h<r.c then 1 else 0)>0)=decide (r.h<r.c):=by
  refine decide_eq_decide.2 ?_
  repeat' split
  all_goals omega
 generalize (if r.c<r.h then(-1:Int) else if r.h<r.c then 1 else 0)=z at f e
 rw[←e]
 (refine Q1c Tryz.func35 rfl (by rfl) ?_;simp only[Tryz.ntmps35,List.length_cons,List.length_nil,Nat.reduceAdd,Nat.reduceSub,List.replicate,List.cons_append,List.nil_append])
 (repeat(any_goals(first|((with_reducible refine Q0p ?_ ?_ ?_);rfl;rfl;intro K hK;((apply Q0k (f);rfl;rfl;rfl;rfl;exact Tryz.func36);kernel_rfl;rfl;(focus((simp only[go_sem]);(try rfl);done));(first|rfl));(simp only[go_sem];refine hK _ ?_;clear hK K))|((with_reducible refine Q0d ?_ ?_);rfl;intro K hK;simp only[go_sem];((repeat(refine ndI (by first|assumption) ?_));refine hK _ ?_;clear hK K))|(with_reducible first|(refine Q0c ?_;refine hR _ ?_;clear hR R)|((first|refine Q0e ?_);intro Ψ hΨ hΨ')|(refine Q0b ?_;intro R hR)|(refine hΨ _ ?_;clear hΨ hΨ' Ψ)|refine Q0l ?_))))
 all_goals(refine⟨by simp,⟨_,?_,AV.le_refl _⟩,Q0i (by simp[leH,hget])⟩;simp only[Tryz.results35,resL,ldA,Q0z,go_sem])
theorem indexR_fn(ex:Bool)(l:List Rp)(hl:l.length≤1000)(ok:∀w∈l,w.ok):Fn Tryz.prog 54 [rsl ex l,.fn 35 []] [] (vi .i64 (ixB (fun r=>decide (r.h<r.c)) l)) []:=by
 obtain⟨tr,htr⟩:∃r:Int,ixB (fun r:Rp=>decide (r.h<r.c)) l=r:=⟨_,rfl⟩
 rw[htr]
 (refine Q1c Tryz.func54 rfl (by rfl) ?_;simp only[Tryz.ntmps54,List.length_cons,List.length_nil,Nat.reduceAdd,Nat.reduceSub,List.replicate,List.cons_append,List.nil_append])
 (repeat(any_goals(first|((with_reducible refine Q0d ?_ ?_);rfl;intro K hK;simp only[go_sem];((repeat(refine ndI (by first|assumption) ?_));refine hK _ ?_;clear hK K))|(with_reducible first|(refine Q0c ?_;refine hR _ ?_;clear hR R)|((first|refine Q0e ?_|refine Q0g ?_);intro Ψ hΨ hΨ')|(refine Q0b ?_;intro R hR)|(refine hΨ _ ?_;clear hΨ hΨ' Ψ)))))
 refine Q2n (α:={i:Nat // i≤l.length∧∀j,j<i→∀n,l[j]? = some n→decide (n.h<n.c)=false}) (fun p=>⟨[rsl ex l,.fn 35 [],.any,.any,.any,.any,rsl ex l,vi .i64 l.length,vi .i64 p.1,.any,.any,.any,.any,.any,.any,.any,.any,.any,.any],[]⟩) (fun p=>l.length-p.1) ⟨0,Nat.zero_le _,fun j hj=>by omega⟩ (St.le_of (by simp[leT]) (by simp[leH,hget])) ?_
 rintro ⟨i,hi,hno⟩ Ψ hΨ hΨ'
 dsimp only at hi hΨ ⊢
 rcases Nat.lt_or_ge i l.length with hlt|hge
 · obtain⟨y,hy⟩:∃y,l[i]? = some y:=⟨l[i],List.getElem?_eq_getElem hlt⟩
   have k1:(decide ((i:Int)<(l.length:Int)))=true:=by simpa using hlt
   have k2:=X5t hy
   have k7:(i:Int)+1=((i+1:Nat):Int):=by omega
   have pl:=dear_fn y (ok y (List.mem_of_getElem? hy))
   cases hm:decide (y.h<y.c)
   · rw[hm] at pl
     (have W:=ndI k1 (ndI k2 (ndI k7 @wrI));(repeat(any_goals(first|((with_reducible refine Q0p ?_ ?_ ?_);rfl;rfl;intro K hK;((apply Q0k (pl);rfl;rfl;rfl;rfl;exact Tryz.func35);kernel_rfl;rfl;(focus((simp(disch:=omega) only[go_sem,W]);(try rfl);done));(first|rfl));(simp(disch:=omega) only[go_sem,W];refine hK _ ?_;clear hK K))|((with_reducible refine Q0d ?_ ?_);rfl;intro K hK;simp(disch:=omega) only[go_sem,W];((repeat(refine ndI (by first|assumption|omega|rfl) ?_));refine hK _ ?_;clear hK K))|(with_reducible first|(refine Q0c ?_;refine hR _ ?_;clear hR R)|((first|refine Q0e ?_|refine Q0g ?_);intro Ψ hΨ hΨ')|(refine Q0b ?_;intro R hR)|(refine hΨ _ ?_;clear hΨ hΨ' Ψ)|refine Q0h ?_)|((with_reducible refine hΨ' _ _ ?_ ?_);(focus(simp;done));clear hΨ hΨ' Ψ)|((with_reducible apply Q0f);rfl;rfl;all_goals(intro hc;first|(cases hc;done)|(try simp only at hc)))))))
     refine hΨ _ ⟨i+1,hlt,fun j hj n hn=>?_⟩ (by simp only;omega) (St.le_of (by simp[leT]) (by simp[leH,hget]))
     rcases Nat.lt_or_ge j i with h'|h'
     · exact hno j h' n hn
     · obtain rfl:j=i:=by omega
       rw[hy] at hn;cases hn;exact hm
   · rw[hm] at pl
     have hp:=ixB_at (p:=fun r:Rp=>decide (r.h<r.c)) hno hy hm
     rw[hp] at htr
     (have W:=ndI k1 (ndI k2 (ndI k7 @wrI));(repeat(any_goals(first|((with_reducible refine Q0p ?_ ?_ ?_);rfl;rfl;intro K hK;((apply Q0k (pl);rfl;rfl;rfl;rfl;exact Tryz.func35);kernel_rfl;rfl;(focus((simp(disch:=omega) only[go_sem,W]);(try rfl);done));(first|rfl));(simp(disch:=omega) only[go_sem,W];refine hK _ ?_;clear hK K))|((with_reducible refine Q0d ?_ ?_);rfl;intro K hK;simp(disch:=omega) only[go_sem,W];((repeat(refine ndI (by first|assumption|omega|rfl) ?_));refine hK _ ?_;clear hK K))|(with_reducible first|(refine Q0c ?_;refine hR _ ?_;clear hR R)|((first|refine Q0e ?_|refine Q0g ?_);intro Ψ hΨ hΨ')|(refine Q0b ?_;intro R hR)|(refine hΨ _ ?_;clear hΨ hΨ' Ψ)|refine Q0h ?_|refine Q0l ?_)|((with_reducible refine hΨ' _ _ ?_ ?_);(focus(simp;done));clear hΨ hΨ' Ψ)|((with_reducible apply Q0f);rfl;rfl;all_goals(intro hc;first|(cases hc;done)|(try simp only at hc)))))))
     all_goals(refine⟨by simp,⟨_,?_,AV.le_refl _⟩,Q0i (by simp[leH,hget])⟩;simp only[Tryz.results54,resL,ldA,Q0z,go_sem])
     all_goals rw[htr]
 · have k1:(decide ((i:Int)<(l.length:Int)))=false:=by simpa using hge
   have hp:=X4x (p:=fun r:Rp=>decide (r.h<r.c)) (l:=l) fun j hj=>hno j (by omega)
   rw[hp] at htr
   (repeat(any_goals(first|((with_reducible refine Q0d ?_ ?_);rfl;intro K hK;simp only[go_sem,k1];((repeat(refine ndI (by first|assumption) ?_));refine hK _ ?_;clear hK K))|(with_reducible first|(refine Q0c ?_;refine hR _ ?_;clear hR R)|((first|refine Q0e ?_);intro Ψ hΨ hΨ')|(refine Q0b ?_;intro R hR)|(refine hΨ _ ?_;clear hΨ hΨ' Ψ)|refine Q0l ?_|refine Q0v ?_)|((with_reducible refine hΨ' _ _ ?_ ?_);(focus(simp;done));clear hΨ hΨ' Ψ)|((with_reducible apply Q0f);rfl;rfl;all_goals(intro hc;first|(cases hc;done)|(try simp only at hc))))))
   all_goals(refine⟨by simp,⟨_,?_,AV.le_refl _⟩,Q0i (by simp[leH,hget])⟩;simp only[Tryz.results54,resL,ldA,Q0z,go_sem])
   all_goals rw[←htr]
theorem X3b(ex:Bool)(l:List Rp)(hl:l.length≤1000)(ok:∀w∈l,w.ok):Fn Tryz.prog 34 [rsl ex l,.fn 35 []] [] (vb (l.any fun r=>decide (r.h<r.c))) []:=by
 have f:=indexR_fn ex l hl ok
 have e:=ixB_any (fun r:Rp=>decide (r.h<r.c)) l
 (refine Q1c Tryz.func34 rfl (by rfl) ?_;simp only[Tryz.ntmps34,List.length_cons,List.length_nil,Nat.reduceAdd,Nat.reduceSub,List.replicate,List.cons_append,List.nil_append])
 (repeat(any_goals(first|((with_reducible refine Q0p ?_ ?_ ?_);rfl;rfl;intro K hK;((apply Q0k (f);rfl;rfl;rfl;rfl;exact Tryz.func54);kernel_rfl;rfl;(focus((simp only[go_sem,e]);(try rfl);done));(first|rfl));(simp only[go_sem,e];refine hK _ ?_;clear hK K))|((with_reducible refine Q0d ?_ ?_);rfl;intro K hK;simp only[go_sem,e];((repeat(refine ndI (by first|assumption) ?_));refine hK _ ?_;clear hK K))|(with_reducible first|(refine Q0c ?_;refine hR _ ?_;clear hR R)|((first|refine Q0e ?_);intro Ψ hΨ hΨ')|(refine Q0b ?_;intro R hR)|(refine hΨ _ ?_;clear hΨ hΨ' Ψ)|refine Q0l ?_))))
 all_goals(refine⟨by simp,⟨_,?_,AV.le_refl _⟩,Q0i (by simp[leH,hget])⟩;simp only[Tryz.results34,resL,ldA,Q0z,go_sem])
theorem brk3_fn(t:Tn)(ht:t.ok):Fn Tryz.prog 33 [.ep t.pv] [] (vb (brkC t)) []:=by
 have f:=X3b false t.r (Nat.le_trans ht.r.1 (by decide)) ht.r.2
 unfold brkC
 generalize (t.r.any fun r=>decide (r.h<r.c))=q at f ⊢
 unfold Tn.pv
 (refine Q1c Tryz.func33 rfl (by rfl) ?_;simp only[Tryz.ntmps33,List.length_cons,List.length_nil,Nat.reduceAdd,Nat.reduceSub,List.replicate,List.cons_append,List.nil_append])
 (repeat(any_goals(first|((with_reducible refine Q0p ?_ ?_ ?_);rfl;rfl;intro K hK;((apply Q0k (f);rfl;rfl;rfl;rfl;exact Tryz.func34);kernel_rfl;rfl;(focus((simp only[go_sem]);(try rfl);done));(first|rfl));(simp only[go_sem];refine hK _ ?_;clear hK K))|((with_reducible refine Q0d ?_ ?_);rfl;intro K hK;simp only[go_sem];((repeat(refine ndI (by first|assumption) ?_));refine hK _ ?_;clear hK K))|(with_reducible first|(refine Q0c ?_;refine hR _ ?_;clear hR R)|((first|refine Q0e ?_);intro Ψ hΨ hΨ')|(refine Q0b ?_;intro R hR)|(refine hΨ _ ?_;clear hΨ hΨ' Ψ)|refine Q0l ?_))))
 all_goals(refine⟨by simp,⟨_,?_,AV.le_refl _⟩,Q0i (by simp[leH,hget])⟩;simp only[Tryz.results33,resL,ldA,Q0z,go_sem])
end Go.Proofs.YtbmcdemnnbndeaaGreat
namespace Go.Proofs.YtbmcdemnnbndeaaGreat
open Go.RowKit
open Nat (reduceBEq)
set_option maxRecDepth 20000
set_option maxHeartbeats 4000000
theorem balN_lt{w:Wl}(hw:w.ok){a:Int}(ha:U a):balN w a<WW:=(OfS_ok hw.kl ha).1.2.1
theorem frz_ifv(d:Nat)(p:List PV)(b:Bool)(v:AV):AV.frz d p (ifv b v)=ifv b (AV.frz d p v):=by cases b<;>rfl
theorem Q1v(v:AV):ifv false v = .any:=rfl
theorem Q6n(d:Nat)(b:Bool)(v:AV):AV.refs d (ifv b v)=(b&&AV.refs d v):=by cases b<;>rfl
def hh(a b c d:Bool)(X W:List AV):List (Nat×List AV):=(if a && !b then[(7,X)] else[])++(if c then[(2,if d then W else[vi .u64 0,vi .u64 0,vi .u64 0,vi .u64 0])] else[])
abbrev JF(t:Tn)(X:List AV)(cW:List PV)(s n1:Nat)(q:Bool)(L:Nat→Bool):St:=⟨[.ep [acV t.w.S,hdV t.w.L,noV t.w.N,acV t.v.S,hdV t.v.L,noV t.v.N,rpV t.r,.v (.int .u64 t.f),.v (.int .u64 (l0 t.m)),.v (.int .u64 (l1 t.m)),.v (.int .u64 (l2 t.m)),.v (.int .u64 (l3 t.m)),.v (.int .u64 (l0 t.b)),.v (.int .u64 (l1 t.b)),.v (.int .u64 (l2 t.b)),.v (.int .u64 (l3 t.b))],vb false,ifv (L 14) (.ptr 2 0),ifv (L 16) (vb q),ifv (L 11) (.tup [wN s,vb q]),ifv (L 0) (.ep [rpV t.r,.v (.int .u64 t.f),.v (.int .u64 (l0 t.m)),.v (.int .u64 (l1 t.m)),.v (.int .u64 (l2 t.m)),.v (.int .u64 (l3 t.m)),.v (.int .u64 (l0 t.b)),.v (.int .u64 (l1 t.b)),.v (.int .u64 (l2 t.b)),.v (.int .u64 (l3 t.b))]),ifv (L 1) (.c (rpV t.r)),ifv (L 2 && !L 9) (.row 7 27 4 t.r.length),ifv (L 3) (.ep [acV t.w.S,hdV t.w.L,noV t.w.N,acV t.v.S,hdV t.v.L,noV t.v.N,rpV t.r,.v (.int .u64 t.f),.v (.int .u64 (l0 t.m)),.v (.int .u64 (l1 t.m)),.v (.int .u64 (l2 t.m)),.v (.int .u64 (l3 t.m)),.v (.int .u64 (l0 t.b)),.v (.int .u64 (l1 t.b)),.v (.int .u64 (l2 t.b)),.v (.int .u64 (l3 t.b))]),ifv (L 4) (.agg [.c (acV t.w.S),.c (hdV t.w.L),.c (noV t.w.N)]),ifv (L 5) (.ep [.v (.int .u64 t.f),.v (.int .u64 (l0 t.m)),.v (.int .u64 (l1 t.m)),.v (.int .u64 (l2 t.m)),.v (.int .u64 (l3 t.m)),.v (.int .u64 (l0 t.b)),.v (.int .u64 (l1 t.b)),.v (.int .u64 (l2 t.b)),.v (.int .u64 (l3 t.b))]),ifv (L 6) (vi .u64 t.f),ifv (L 7) (wN n1),ifv (L 8) (.c (.sl true 4 1 [.v (.int .u64 (l0 n1)),.v (.int .u64 (l1 n1)),.v (.int .u64 (l2 n1)),.v (.int .u64 (l3 n1))])),ifv (L 9) (.c (.sl false 4 (t.r.length+1) cW)),ifv (L 10) (.tup [wN s,vb q]),ifv (L 12) (wN s),ifv (L 13) (vb q),.any,.any,.any,.any,.any,.any,.any,.any,.any,.any,.any,.any,.any,.any,.any,.any],hh (L 2) (L 9) (L 14) (L 15) X [vi .u64 (l0 s),vi .u64 (l1 s),vi .u64 (l2 s),vi .u64 (l3 s)]⟩
theorem brk4_fn(t:Tn)(ht:t.ok):Fn Tryz.prog 37 [.ep t.pv] [] (vb (brkF t)) []:=by
 have f1:=X2z false t.r ht.r.1
 have f2:=X5n t.w ht.w t.f
 have f3:=X5n t.v ht.v t.f
 have cl:∀x∈csL t.r++[balN t.w t.f],x<WW:=fun x hx=>by
  rcases List.mem_append.1 hx with h|h
  · exact csL_lt ht.r.2 x h
  · rw[List.mem_singleton.1 h];exact balN_lt ht.w ht.f
 have ll:(csL t.r++[balN t.w t.f]).length=t.r.length+1:=by unfold csL;simp
 have sm:=X1l false (csL t.r++[balN t.w t.f]) (by rw[ll];have:=ht.r.1;omega) cl
 have cm:=X5j (balN t.v t.f) ((csL t.r++[balN t.w t.f]).sum%WW) (balN_lt ht.v ht.f) (Nat.mod_lt _ (by decide))
 have e1:(rcW (csL t.r)).length=t.r.length*4:=by rw[Q8i];unfold csL;rw[List.length_map]
 have e2:rcW (csL t.r++[balN t.w t.f])=rcW (csL t.r)++(wpv (balN t.w t.f)).map .c:=by unfold rcW;rw[List.flatMap_append];simp[List.flatMap_cons]
 have e3:∀r,AV.refsL r (rcW (csL t.r))=false:=fun r=>Q0m r _
 have e5:rcW (csL t.r)++[vi .u64 (l0 (balN t.w t.f)),vi .u64 (l1 (balN t.w t.f)),vi .u64 (l2 (balN t.w t.f)),vi .u64 (l3 (balN t.w t.f))]=((csL t.r++[balN t.w t.f]).flatMap wpv).map AV.c:=e2.symm
 have e8:((csL t.r++[balN t.w t.f]).flatMap wpv).length=(t.r.length+1)*4:=by rw[Q1e Q5g,ll]
 unfold wsl at sm
 rw[ll] at sm
 have e6:decide ((if balN t.v t.f<(csL t.r++[balN t.w t.f]).sum%WW then(-1:Int) else if (csL t.r++[balN t.w t.f]).sum%WW<balN t.v t.f then 1 else 0)<0)=decide (balN t.v t.f<(csL t.r++[balN t.w t.f]).sum%WW):=by
  refine decide_eq_decide.2 ?_
  repeat' split
  all_goals omega
 have h900:=ht.r.1
 have e7:brkF t=(!decide (t.f=0)&&(decide (WW≤(csL t.r++[balN t.w t.f]).sum)||decide (balN t.v t.f<(csL t.r++[balN t.w t.f]).sum%WW))):=rfl
 rw[←e6] at e7
 rw[e7]
 clear e7 e6 cl ll e2
 generalize (if balN t.v t.f<(csL t.r++[balN t.w t.f]).sum%WW then(-1:Int) else if (csL t.r++[balN t.w t.f]).sum%WW<balN t.v t.f then 1 else 0)=z at cm ⊢
 generalize decide (WW≤(csL t.r++[balN t.w t.f]).sum)=q at sm ⊢
 generalize (csL t.r++[balN t.w t.f]).sum%WW=s at sm cm
 generalize (csL t.r++[balN t.w t.f]).flatMap wpv=cW at sm e5 e8
 unfold balN at cm e5
 generalize (OfS t.v.S t.f).b=n2 at f3 cm
 generalize (OfS t.w.S t.f).b=n1 at f2 e5
 have e9:∀r,AV.renL r (rcW (csL t.r))=rcW (csL t.r):=fun r=>Q0q r _
 have e10:∀r,AV.inNL r (rcW (csL t.r))=true:=fun r=>Q1a r _
 generalize rcW (csL t.r)=X at f1 e1 e3 e5 e9 e10
 unfold Tn.pv
 refine Fn.known fun E0=>?_
 (refine X5e Tryz.func37 rfl (by rfl) ?_;simp only[Tryz.ntmps37,List.length_cons,List.length_nil,Nat.reduceAdd,Nat.reduceSub,List.replicate,List.cons_append,List.nil_append])
 (repeat(any_goals(first|((with_reducible refine Q0d ?_ ?_);rfl;intro K hK;simp only[go_sem];((repeat(refine ndI (by first|assumption) ?_));refine hK _ ?_;clear hK K))|((with_reducible first|refine AWE.seqI ?_);intro Ψ hΨ hΨ')|(with_reducible refine AWE.ofR ?_)|(with_reducible first|(refine Q0c ?_;refine hR _ ?_;clear hR R)|(refine Q0b ?_;intro R hR)|(refine hΨ _ ?_;clear hΨ hΨ' Ψ)))))
 refine AWE.drawJ (by kernel_rfl) (by kernel_rfl) (by kernel_rfl) (JF t X cW s n1 q) (St.to.of_le (St.le_of (by simp[leT,ifv]) (by simp[leH,hget,hh]))) ?_ ?_ ?_
 · intro L i x hx hu hcl hpre hn R hR
   have hi:i=0∨i=1∨i=2∨i=3∨i=4∨i=5∨i=6∨i=7∨i=8∨i=9∨i=10∨i=11∨i=12∨i=13∨i=14∨i=15∨i=16:=by
    have:=(List.getElem?_eq_some_iff.1 hx).1
    simp only[List.length_cons,List.length_nil] at this
    omega
   rcases hi with rfl|rfl|rfl|rfl|rfl|rfl|rfl|rfl|rfl|rfl|rfl|rfl|rfl|rfl|rfl|rfl|rfl
   all_goals simp only[List.getElem?_cons_succ,List.getElem?_cons_zero,Option.some.injEq] at hx
   all_goals subst hx
   all_goals simp only[JF,Nat.reduceEqDiff,if_false,if_true,hu] at hR ⊢
   · (try simp only[Q2h,Q1v,Bool.and_true,Bool.true_and,Bool.not_false,Bool.not_true,Bool.false_and,Bool.and_false] at hR ⊢)
     generalize hh (L 2) (L 9) (L 14) (L 15) X [vi .u64 (l0 s),vi .u64 (l1 s),vi .u64 (l2 s),vi .u64 (l3 s)]=H at hR ⊢
     (repeat(any_goals(first|((with_reducible refine Q0d ?_ ?_);rfl;intro K hK;simp only[go_sem];((repeat(refine ndI (by first|assumption) ?_));refine hK _ ?_;clear hK K))|(with_reducible first|(refine Q0c ?_;refine hR _ ?_;clear hR R)))))
     exact St.to.of_le ⟨Q2b (by simp[leT,ifv]),Q3h (by simp[leT,ifv]),fun _ _ h=>h⟩
   · have g0:L 0=true:=hpre ⟨0,.data⟩ (by simp) rfl
     (try simp only[g0,Q2h,Q1v,Bool.and_true,Bool.true_and,Bool.not_false,Bool.not_true,Bool.false_and,Bool.and_false] at hR ⊢)
     generalize hh (L 2) (L 9) (L 14) (L 15) X [vi .u64 (l0 s),vi .u64 (l1 s),vi .u64 (l2 s),vi .u64 (l3 s)]=H at hR ⊢
     (repeat(any_goals(first|((with_reducible refine Q0d ?_ ?_);rfl;intro K hK;simp only[go_sem];((repeat(refine ndI (by first|assumption) ?_));refine hK _ ?_;clear hK K))|(with_reducible first|(refine Q0c ?_;refine hR _ ?_;clear hR R)))))
     exact St.to.of_le ⟨Q2b (by simp[leT,ifv,g0]),Q3h (by simp[leT,ifv,g0]),fun _ _ h=>h⟩
   · have g1:L 1=true:=hpre ⟨1,.data⟩ (by simp) rfl
     cases h7:L 9<;>cases h8:L 14<;>cases h9:L 15
     all_goals(try simp only[h7,h8,h9,hu,hh,List.nil_append,List.cons_append,List.append_nil,if_true,if_false,Bool.false_eq_true,g1,Q2h,Q1v,Bool.and_true,Bool.true_and,Bool.not_false,Bool.not_true,Bool.false_and,Bool.and_false] at hR ⊢)
     all_goals(have W:=ndI e9 (ndI e10 e3);(repeat(any_goals(first|((with_reducible refine Q0p ?_ ?_ ?_);rfl;rfl;intro K hK;(apply Q1b (f1) (fun r=>7);rfl;rfl;rfl;rfl;exact Tryz.func18;kernel_rfl;rfl;rfl;(intro r hr q hq h;simp only[List.map_cons,List.map_nil,List.cons_append,List.nil_append,List.mem_cons,List.not_mem_nil,or_false] at hr hq;(try dsimp only at h);first|omega);(simp only[Q1f,Q1y,AV.ren,AV.renL,Q0q,List.mem_cons,List.not_mem_nil,forall_eq_or_imp,forall_eq,Q1t,List.contains_cons,List.contains_nil,AV.refsL,AV.refs,Q0m,AV.inN,AV.inNL,inH,Q1a,go_sem,W,Q6n,Bool.and_false]));(simp only[Q0x,Q2c,renH,AV.ren,AV.renL,Q0q,go_sem,W,Q6n,Bool.and_false];refine hK _ ?_;clear hK K))|(with_reducible first|(refine Q0c ?_;refine hR _ ?_;clear hR R))))))
     all_goals exact St.to.of_le (St.le_of (by simp[leT,ifv,h7,h8,h9]) (by simp[leH,hget,hh,h7,h8,h9]))
   · (try simp only[Q2h,Q1v,Bool.and_true,Bool.true_and,Bool.not_false,Bool.not_true,Bool.false_and,Bool.and_false] at hR ⊢)
     generalize hh (L 2) (L 9) (L 14) (L 15) X [vi .u64 (l0 s),vi .u64 (l1 s),vi .u64 (l2 s),vi .u64 (l3 s)]=H at hR ⊢
     (repeat(any_goals(first|((with_reducible refine Q0d ?_ ?_);rfl;intro K hK;simp only[go_sem];((repeat(refine ndI (by first|assumption) ?_));refine hK _ ?_;clear hK K))|(with_reducible first|(refine Q0c ?_;refine hR _ ?_;clear hR R)))))
     exact St.to.of_le ⟨Q2b (by simp[leT,ifv]),Q3h (by simp[leT,ifv]),fun _ _ h=>h⟩
   · have g3:L 3=true:=hpre ⟨3,.data⟩ (by simp) rfl
     (try simp only[g3,Q2h,Q1v,Bool.and_true,Bool.true_and,Bool.not_false,Bool.not_true,Bool.false_and,Bool.and_false] at hR ⊢)
     generalize hh (L 2) (L 9) (L 14) (L 15) X [vi .u64 (l0 s),vi .u64 (l1 s),vi .u64 (l2 s),vi .u64 (l3 s)]=H at hR ⊢
     (repeat(any_goals(first|((with_reducible refine Q0d ?_ ?_);rfl;intro K hK;simp only[go_sem];((repeat(refine ndI (by first|assumption) ?_));refine hK _ ?_;clear hK K))|(with_reducible first|(refine Q0c ?_;refine hR _ ?_;clear hR R)))))
     exact St.to.of_le ⟨Q2b (by simp[leT,ifv,g3]),Q3h (by simp[leT,ifv,g3]),fun _ _ h=>h⟩
   · (try simp only[Q2h,Q1v,Bool.and_true,Bool.true_and,Bool.not_false,Bool.not_true,Bool.false_and,Bool.and_false] at hR ⊢)
     generalize hh (L 2) (L 9) (L 14) (L 15) X [vi .u64 (l0 s),vi .u64 (l1 s),vi .u64 (l2 s),vi .u64 (l3 s)]=H at hR ⊢
     (repeat(any_goals(first|((with_reducible refine Q0d ?_ ?_);rfl;intro K hK;simp only[go_sem];((repeat(refine ndI (by first|assumption) ?_));refine hK _ ?_;clear hK K))|(with_reducible first|(refine Q0c ?_;refine hR _ ?_;clear hR R)))))
     exact St.to.of_le ⟨Q2b (by simp[leT,ifv]),Q3h (by simp[leT,ifv]),fun _ _ h=>h⟩
   · have g5:L 5=true:=hpre ⟨5,.data⟩ (by simp) rfl
     (try simp only[g5,Q2h,Q1v,Bool.and_true,Bool.true_and,Bool.not_false,Bool.not_true,Bool.false_and,Bool.and_false] at hR ⊢)
     generalize hh (L 2) (L 9) (L 14) (L 15) X [vi .u64 (l0 s),vi .u64 (l1 s),vi .u64 (l2 s),vi .u64 (l3 s)]=H at hR ⊢
     (repeat(any_goals(first|((with_reducible refine Q0d ?_ ?_);rfl;intro K hK;simp only[go_sem];((repeat(refine ndI (by first|assumption) ?_));refine hK _ ?_;clear hK K))|(with_reducible first|(refine Q0c ?_;refine hR _ ?_;clear hR R)))))
     exact St.to.of_le ⟨Q2b (by simp[leT,ifv,g5]),Q3h (by simp[leT,ifv,g5]),fun _ _ h=>h⟩
   · have g4:L 4=true:=hpre ⟨4,.data⟩ (by simp) rfl
     have g6:L 6=true:=hpre ⟨6,.data⟩ (by simp) rfl
     (try simp only[g4,g6,Q2h,Q1v,Bool.and_true,Bool.true_and,Bool.not_false,Bool.not_true,Bool.false_and,Bool.and_false] at hR ⊢)
     generalize hh (L 2) (L 9) (L 14) (L 15) X [vi .u64 (l0 s),vi .u64 (l1 s),vi .u64 (l2 s),vi .u64 (l3 s)]=H at hR ⊢
     (repeat(any_goals(first|((with_reducible refine Q0p ?_ ?_ ?_);rfl;rfl;intro K hK;((apply Q0k (f2);rfl;rfl;rfl;rfl;exact Tryz.func38);kernel_rfl;rfl;(focus((simp only[go_sem]);(try rfl);done));(first|rfl));(simp only[go_sem];refine hK _ ?_;clear hK K))|(with_reducible first|(refine Q0c ?_;refine hR _ ?_;clear hR R)))))
     exact St.to.of_le ⟨Q2b (by simp[leT,ifv,g4,g6]),Q3h (by simp[leT,ifv,g4,g6]),fun _ _ h=>h⟩
   · have g7:L 7=true:=hpre ⟨7,.data⟩ (by simp) rfl
     (try simp only[g7,Q2h,Q1v,Bool.and_true,Bool.true_and,Bool.not_false,Bool.not_true,Bool.false_and,Bool.and_false] at hR ⊢)
     generalize hh (L 2) (L 9) (L 14) (L 15) X [vi .u64 (l0 s),vi .u64 (l1 s),vi .u64 (l2 s),vi .u64 (l3 s)]=H at hR ⊢
     (repeat(any_goals(first|((with_reducible refine Q3p ?_ ?_);rfl;intro K hK;apply Q1s;rfl;rfl;(focus(simp only[go_sem];try rfl));(focus(simp only[go_sem];try rfl));rfl;(first|omega);(first|omega);(first|omega);(simp only[go_sem];rfl);rfl;(focus((simp only[unC,Option.map_some]);(try rfl)));(simp only[go_sem];refine hK _ ?_;clear hK K))|(with_reducible first|(refine Q0c ?_;refine hR _ ?_;clear hR R)))))
     exact St.to.of_le ⟨Q2b (by simp[leT,ifv,g7]),Q3h (by simp[leT,ifv,g7]),fun _ _ h=>h⟩
   · have g2:L 2=true:=hpre ⟨2,.data⟩ (by simp) rfl
     have g8:L 8=true:=hpre ⟨8,.data⟩ (by simp) rfl
     cases h7:L 14<;>cases h8:L 15
     all_goals(try simp only[h7,h8,hu,hh,List.nil_append,List.cons_append,List.append_nil,if_true,if_false,Bool.false_eq_true,g2,g8,Q2h,Q1v,Bool.and_true,Bool.true_and,Bool.not_false,Bool.not_true,Bool.false_and,Bool.and_false] at hR ⊢)
     all_goals(have W:=ndI e1 (ndI e3 @Q0m);(repeat(any_goals(first|((with_reducible refine Q0d ?_ ?_);rfl;intro K hK;simp(disch:=omega) only[go_sem,W,Q6n,Bool.and_false];((repeat(refine ndI (by first|assumption|omega|rfl) ?_));refine hK _ ?_;clear hK K))|(with_reducible first|(refine Q0c ?_;refine hR _ ?_;clear hR R))))))
     all_goals exact St.to.trans (St.to.frz 14 (pcs:=cW) (by simp[hget,e5])) (St.to.of_le (St.le_of (by simp[leT,St.frz,frz_ifv,AV.frz,AV.frzL,e8,Q2h,Q1v,h7,h8]) (by simp[leH,hget,hh,St.frz,frzH,AV.frzL,AV.frz,h7,h8])))
   · have g9:L 9=true:=hpre ⟨9,.data⟩ (by simp) rfl
     (try simp only[g9,Q2h,Q1v,Bool.and_true,Bool.true_and,Bool.not_false,Bool.not_true,Bool.false_and,Bool.and_false] at hR ⊢)
     generalize hh (L 2) (L 9) (L 14) (L 15) X [vi .u64 (l0 s),vi .u64 (l1 s),vi .u64 (l2 s),vi .u64 (l3 s)]=H at hR ⊢
     (repeat(any_goals(first|((with_reducible refine Q0p ?_ ?_ ?_);rfl;rfl;intro K hK;((apply Q0k (sm);rfl;rfl;rfl;rfl;exact Tryz.func17);kernel_rfl;rfl;(focus((simp only[go_sem]);(try rfl);done));(first|rfl));(simp only[go_sem];refine hK _ ?_;clear hK K))|(with_reducible first|(refine Q0c ?_;refine hR _ ?_;clear hR R)))))
     exact St.to.of_le ⟨Q2b (by simp[leT,ifv,g9]),Q3h (by simp[leT,ifv,g9]),fun _ _ h=>h⟩
   · have g10:L 10=true:=hpre ⟨10,.data⟩ (by simp) rfl
     (try simp only[g10,Q2h,Q1v,Bool.and_true,Bool.true_and,Bool.not_false,Bool.not_true,Bool.false_and,Bool.and_false] at hR ⊢)
     generalize hh (L 2) (L 9) (L 14) (L 15) X [vi .u64 (l0 s),vi .u64 (l1 s),vi .u64 (l2 s),vi .u64 (l3 s)]=H at hR ⊢
     (repeat(any_goals(first|((with_reducible refine Q0d ?_ ?_);rfl;intro K hK;simp only[go_sem];((repeat(refine ndI (by first|assumption) ?_));refine hK _ ?_;clear hK K))|(with_reducible first|(refine Q0c ?_;refine hR _ ?_;clear hR R)))))
     exact St.to.of_le ⟨Q2b (by simp[leT,ifv,g10]),Q3h (by simp[leT,ifv,g10]),fun _ _ h=>h⟩
   · have g11:L 11=true:=hpre ⟨11,.data⟩ (by simp) rfl
     (try simp only[g11,Q2h,Q1v,Bool.and_true,Bool.true_and,Bool.not_false,Bool.not_true,Bool.false_and,Bool.and_false] at hR ⊢)
     generalize hh (L 2) (L 9) (L 14) (L 15) X [vi .u64 (l0 s),vi .u64 (l1 s),vi .u64 (l2 s),vi .u64 (l3 s)]=H at hR ⊢
     (repeat(any_goals(first|((with_reducible refine Q0d ?_ ?_);rfl;intro K hK;simp only[go_sem];((repeat(refine ndI (by first|assumption) ?_));refine hK _ ?_;clear hK K))|(with_reducible first|(refine Q0c ?_;refine hR _ ?_;clear hR R)))))
     exact St.to.of_le ⟨Q2b (by simp[leT,ifv,g11]),Q3h (by simp[leT,ifv,g11]),fun _ _ h=>h⟩
   · have g11:L 11=true:=hpre ⟨11,.data⟩ (by simp) rfl
     (try simp only[g11,Q2h,Q1v,Bool.and_true,Bool.true_and,Bool.not_false,Bool.not_true,Bool.false_and,Bool.and_false] at hR ⊢)
     generalize hh (L 2) (L 9) (L 14) (L 15) X [vi .u64 (l0 s),vi .u64 (l1 s),vi .u64 (l2 s),vi .u64 (l3 s)]=H at hR ⊢
     (repeat(any_goals(first|((with_reducible refine Q0d ?_ ?_);rfl;intro K hK;simp only[go_sem];((repeat(refine ndI (by first|assumption) ?_));refine hK _ ?_;clear hK K))|(with_reducible first|(refine Q0c ?_;refine hR _ ?_;clear hR R)))))
     exact St.to.of_le ⟨Q2b (by simp[leT,ifv,g11]),Q3h (by simp[leT,ifv,g11]),fun _ _ h=>h⟩
   · have h8:L 15=false:=by
      cases h15:L 15 with
      |false=>rfl
      |true=>have:=hcl 15 _ rfl h15 ⟨14,.data⟩ (by simp) rfl;rw[hu] at this;cases this
     cases h7:(L 2 && !L 9)
     all_goals(try simp only[h7,h8,hu,hh,List.nil_append,List.cons_append,List.append_nil,if_true,if_false,Bool.false_eq_true,Q2h,Q1v,Bool.and_true,Bool.true_and,Bool.not_false,Bool.not_true,Bool.false_and,Bool.and_false] at hR ⊢)
     all_goals(repeat(any_goals(first|((with_reducible refine Q0d ?_ ?_);rfl;intro K hK;simp only[go_sem,Q6n,e3,Bool.and_false];((repeat(refine ndI (by first|assumption) ?_));refine hK _ ?_;clear hK K))|(with_reducible first|(refine Q0c ?_;refine hR _ ?_;clear hR R)))))
     all_goals exact St.to.of_le (St.le_of (by simp[leT,ifv,h7,h8]) (by simp[leH,hget,hh,h7,h8]))
   · have g14:L 14=true:=hpre ⟨14,.data⟩ (by simp) rfl
     have g12:L 12=true:=hpre ⟨12,.data⟩ (by simp) rfl
     have g2:L 2=true:=hpre ⟨2,.phase⟩ (by simp) rfl
     have g9:L 9=true:=hpre ⟨9,.phase⟩ (by simp) rfl
     (try simp only[hu,hh,List.nil_append,List.cons_append,List.append_nil,if_true,if_false,Bool.false_eq_true,g14,g12,g2,g9,Q2h,Q1v,Bool.and_true,Bool.true_and,Bool.not_false,Bool.not_true,Bool.false_and,Bool.and_false] at hR ⊢)
     (repeat(any_goals(first|((with_reducible refine Q0d ?_ ?_);rfl;intro K hK;simp only[go_sem,Q6n,e3,Bool.and_false];((repeat(refine ndI (by first|assumption) ?_));refine hK _ ?_;clear hK K))|(with_reducible first|(refine Q0c ?_;refine hR _ ?_;clear hR R)))))
     exact St.to.of_le (St.le_of (by simp[leT,ifv]) (by simp[leH,hget,hh]))
   · have g13:L 13=true:=hpre ⟨13,.data⟩ (by simp) rfl
     have g15:L 15=true:=hpre ⟨15,.chain⟩ (by simp) rfl
     (try simp only[g13,g15,Q2h,Q1v,Bool.and_true,Bool.true_and,Bool.not_false,Bool.not_true,Bool.false_and,Bool.and_false] at hR ⊢)
     generalize hh (L 2) (L 9) (L 14) (L 15) X [vi .u64 (l0 s),vi .u64 (l1 s),vi .u64 (l2 s),vi .u64 (l3 s)]=H at hR ⊢
     (repeat(any_goals(first|((with_reducible refine Q0d ?_ ?_);rfl;intro K hK;simp only[go_sem];((repeat(refine ndI (by first|assumption) ?_));refine hK _ ?_;clear hK K))|(with_reducible first|(refine Q0c ?_;refine hR _ ?_;clear hR R)))))
     exact St.to.of_le ⟨Q2b (by simp[leT,ifv,g13,g15]),Q3h (by simp[leT,ifv,g13,g15]),fun _ _ h=>h⟩
 · intro L i x hx hu hcl hpre hn
   have hi:i=0∨i=1∨i=2∨i=3∨i=4∨i=5∨i=6∨i=7∨i=8∨i=9∨i=10∨i=11∨i=12∨i=13∨i=14∨i=15∨i=16:=by
    have:=(List.getElem?_eq_some_iff.1 hx).1
    simp only[List.length_cons,List.length_nil] at this
    omega
   rcases hi with rfl|rfl|rfl|rfl|rfl|rfl|rfl|rfl|rfl|rfl|rfl|rfl|rfl|rfl|rfl|rfl|rfl
   all_goals simp only[List.getElem?_cons_succ,List.getElem?_cons_zero,Option.some.injEq] at hx
   all_goals subst hx
   all_goals cases hn
 · intro L hL
   have e22:=hL 2 (by simp)
   have e29:=hL 9 (by simp)
   have e33:=hL 13 (by simp)
   have e34:=hL 14 (by simp)
   have e35:=hL 15 (by simp)
   have e36:=hL 16 (by simp)
   simp only[JF,hh,e22,e29,e33,e34,e35,e36,Q2h,Q1v,if_true,Bool.not_true,Bool.and_false,Bool.false_eq_true,if_false,List.nil_append]
   refine hΨ _ ?_
   clear hΨ hΨ'
   refine AWE.to (St.to.of_le (τ:=⟨[.ep [acV t.w.S,hdV t.w.L,noV t.w.N,acV t.v.S,hdV t.v.L,noV t.v.N,rpV t.r,.v (.int .u64 t.f),.v (.int .u64 (l0 t.m)),.v (.int .u64 (l1 t.m)),.v (.int .u64 (l2 t.m)),.v (.int .u64 (l3 t.m)),.v (.int .u64 (l0 t.b)),.v (.int .u64 (l1 t.b)),.v (.int .u64 (l2 t.b)),.v (.int .u64 (l3 t.b))],vb false,.ptr 2 0,vb q,.any,.any,.any,.any,.any,.any,.any,.any,.any,.any,.any,.any,.any,.any,.any,.any,.any,.any,.any,.any,.any,.any,.any,.any,.any,.any,.any,.any,.any,.any],[(2,[vi .u64 (l0 s),vi .u64 (l1 s),vi .u64 (l2 s),vi .u64 (l3 s)])]⟩) (St.le_of (by simp[leT]) (by simp[leH,hget]))) ?_
   by_cases h0:t.f=0
   · have k0:(t.f != 0)=false:=by simpa using h0
     (repeat(any_goals(first|((with_reducible first|refine AWE.seqI ?_);intro Ψ hΨ hΨ')|(with_reducible first|refine AWE.ofRet ?_)|(with_reducible refine AWE.ofRD ?_)|(with_reducible first|(refine hΨ _ ?_;clear hΨ hΨ' Ψ))|((with_reducible refine Q0w ?_ ?_);kernel_rfl;(with_reducible refine hR _ ?_);clear hR R)|((first|((with_reducible apply Q1w);rfl;rfl;rfl;rfl)|((with_reducible apply Q3c);rfl;rfl;rfl)|((first|((with_reducible apply Q0u);rfl;rfl));(simp only[rdE,rdOf,go_sem,k0];rfl);(intro τ hA hQ hN;((try simp only[Q1g,Op.operands,Call.operands,go_sem,k0,go_sem,List.mem_cons,List.not_mem_nil,forall_eq_or_imp,forall_eq,List.append_toArray,Option.toArray] at hA);(try simp only[go_sem,k0,List.mem_cons,List.not_mem_nil,forall_eq_or_imp,forall_eq] at hQ hN);(first|(revert hA;intro hA));(first|(revert hQ;intro hQ));(first|(revert hN;intro hN));simp only[go_sem,k0,go_sem,hA,hQ,hN];(repeat(refine ndI (by first|assumption) ?_));(first|apply Q1d)))));(simp only[St.eff,setO,Q0x,go_sem,k0]))|((with_reducible refine Q0r ?_ ?_ ?_ ?_);kernel_rfl;kernel_rfl;(first|kernel_rfl);intro R hR))))
     all_goals(refine⟨by simp,⟨_,?_,AV.le_refl _⟩,Q0i (by simp[leH,hget])⟩;simp only[Tryz.results37,resL,ldA,Q0z,go_sem])
     all_goals simp[h0]
   · have k0:(t.f != 0)=true:=by simpa using h0
     cases q with
     |true=>
      (repeat(any_goals(first|((with_reducible first|refine AWE.seqI ?_);intro Ψ hΨ hΨ')|(with_reducible first|refine AWE.ofRet ?_)|(with_reducible refine AWE.ofRD ?_)|(with_reducible first|(refine hΨ _ ?_;clear hΨ hΨ' Ψ))|((with_reducible refine Q0w ?_ ?_);kernel_rfl;(with_reducible refine hR _ ?_);clear hR R)|((first|((with_reducible apply Q1w);rfl;rfl;rfl;rfl)|((first|((with_reducible apply Q0u);rfl;rfl)|((with_reducible apply Q1l);rfl;rfl;rfl;rfl;rfl));(simp only[rdE,rdOf,go_sem,k0];rfl);(intro τ hA hQ hN;((try simp only[Q1g,Op.operands,Call.operands,go_sem,k0,go_sem,List.mem_cons,List.not_mem_nil,forall_eq_or_imp,forall_eq,List.append_toArray,Option.toArray] at hA);(try simp only[go_sem,k0,List.mem_cons,List.not_mem_nil,forall_eq_or_imp,forall_eq] at hQ hN);(first|(revert hA;intro hA));(first|(revert hQ;intro hQ));(first|(revert hN;intro hN));simp only[go_sem,k0,go_sem,hA,hQ,hN];(repeat(refine ndI (by first|assumption) ?_));(first|apply Q1d)))));(simp only[St.eff,setO,Q0x,go_sem,k0]))|((with_reducible refine Q0r ?_ ?_ ?_ ?_);kernel_rfl;kernel_rfl;(first|kernel_rfl);intro R hR))))
      all_goals(refine⟨by simp,⟨_,?_,AV.le_refl _⟩,Q0i (by simp[leH,hget])⟩;simp only[Tryz.results37,resL,ldA,Q0z,go_sem])
      all_goals simp[h0]
     |false=>
      (repeat(any_goals(first|((with_reducible first|refine AWE.seqI ?_);intro Ψ hΨ hΨ')|(with_reducible first|refine AWE.ofRet ?_)|(with_reducible refine AWE.ofRD ?_)|(with_reducible first|(refine hΨ _ ?_;clear hΨ hΨ' Ψ))|((with_reducible refine Q0w ?_ ?_);kernel_rfl;(with_reducible refine hR _ ?_);clear hR R)|((first|((first|((with_reducible apply Q1k);rfl;rfl;rfl;rfl;rfl));((first|(apply Q0s (f3);rfl;rfl;rfl;rfl;exact Tryz.func38)|(apply Q0s (cm);rfl;rfl;rfl;rfl;exact Tryz.func36));kernel_rfl;rfl;(focus((simp only[go_sem,k0]);(try rfl);done));(first|rfl)))|((first|((with_reducible apply Q0u);rfl;rfl)|((with_reducible apply Q1l);rfl;rfl;rfl;rfl;rfl));(simp only[rdE,rdOf,go_sem,k0];rfl);(intro τ hA hQ hN;((try simp only[Q1g,Op.operands,Call.operands,go_sem,k0,go_sem,List.mem_cons,List.not_mem_nil,forall_eq_or_imp,forall_eq,List.append_toArray,Option.toArray] at hA);(try simp only[go_sem,k0,List.mem_cons,List.not_mem_nil,forall_eq_or_imp,forall_eq] at hQ hN);(first|(revert hA;intro hA));(first|(revert hQ;intro hQ));(first|(revert hN;intro hN));simp only[go_sem,k0,go_sem,hA,hQ,hN];(repeat(refine ndI (by first|assumption) ?_));(first|apply Q1d)))));(simp only[St.eff,setO,Q0x,go_sem,k0]))|((with_reducible refine Q0r ?_ ?_ ?_ ?_);kernel_rfl;kernel_rfl;(first|kernel_rfl);intro R hR))))
      all_goals(refine⟨by simp,⟨_,?_,AV.le_refl _⟩,Q0i (by simp[leH,hget])⟩;simp only[Tryz.results37,resL,ldA,Q0z,go_sem])
      all_goals simp[h0]
end Go.Proofs.YtbmcdemnnbndeaaGreat
namespace Go.Proofs.YtbmcdemnnbndeaaGreat
open Go.RowKit
open Nat (reduceBEq)
set_option maxRecDepth 20000
set_option maxHeartbeats 4000000
def funcT(P:Program)(t:Nat):Bool:=match P.underlying t with|some (.func _ _ _)=>true|_=>false
section
variable {P:Program} {o:Oper} {σ : St} {K:St→Prop}
theorem X5f{t:Nat}(ht:funcT P t=true)(f:Go.Fn)(us vs:Array Value)(w:World):(Op.equal t (.func f us vs) .nilFunc).run P w = .ok false w∧(Op.equal t .nilFunc .nilFunc).run P w = .ok true w:=by
 obtain⟨a,b,c,hu⟩:∃a b c,P.underlying t=some (.func a b c):=by
  unfold funcT at ht
  cases hu:P.underlying t with
  |none=>simp[hu] at ht
  |some d=>cases d<;>simp[hu] at ht;exact⟨_,_,_,rfl⟩
 unfold Op.equal
 rw[show Op.maxDepth=9999+1 from rfl]
 unfold Op.equalIn
 rw[Sem.run_bind,run_underlying hu,Result.andThen_ok,Sem.run_bind,run_underlying hu,Result.andThen_ok]
 exact⟨rfl,rfl⟩
theorem opA_fnne{t t':TypeId}{x:Operand}{f:FuncId}{caps:List AV}(ho:o.op = .binOp .neq t x (.const .nilFunc) t')(hx:Q0j x=true)(ht:funcT P t=true)(h1:σ.ev x = .fn f caps)(hK:K (σ.put o.dst (vb true))):OpA P o σ K:=
 Q1o _ hK fun E ι a w h=>by
  have hxv:=h.ev x hx
  rw[h1] at hxv
  generalize he:a.eval x=v at hxv
  cases hxv with
  |fn f us cs hl hr=>
   refine⟨_,?_,Q2g _ rfl⟩
   have e2:a.eval (.const .nilFunc) = .nilFunc:=rfl
   have hg:(eqGuard .neq t x (.const .nilFunc) (.func (.func f) #[] us.toArray) .nilFunc).run P w = .ok () w:=Q3s rfl (by simp) t _ _ w
   have g2':binOp .neq t (.func (.func f) #[] us.toArray) .nilFunc=(do pure (.bool (!(←Op.equal t (.func (.func f) #[] us.toArray) .nilFunc)))):=rfl
   simp only[execOp,ho,he,e2,Sem.run_bind,hg,Result.andThen_ok,g2',(X5f ht _ _ _ w).1,Sem.run_pure,Bool.not_false]
theorem opA_fnni{t t':TypeId}{x:Operand}(ho:o.op = .binOp .neq t x (.const .nilFunc) t')(hx:Q0j x=true)(ht:funcT P t=true)(h1:σ.ev x = .c (.v .nilFunc))(hK:K (σ.put o.dst (vb false))):OpA P o σ K:=
 Q1o _ hK fun E ι a w h=>by
  have hxv:=h.ev x hx
  rw[h1] at hxv
  obtain⟨he,_⟩:=hxv.v_inv
  refine⟨_,?_,Q2g _ rfl⟩
  have e2:a.eval (.const .nilFunc) = .nilFunc:=rfl
  have hg:(eqGuard .neq t x (.const .nilFunc) .nilFunc .nilFunc).run P w = .ok () w:=Q3s rfl (by simp) t _ _ w
  have g2':binOp .neq t .nilFunc .nilFunc=(do pure (.bool (!(←Op.equal t .nilFunc .nilFunc)))):=rfl
  simp only[execOp,ho,he,e2,Sem.run_bind,hg,Result.andThen_ok,g2',(X5f ht (.func 0) #[] #[] w).2,Sem.run_pure,Bool.not_true]
end
def brk(t:Tn):Int:=if brkE t then 1 else if brkS t then 2 else if brkC t then 3 else if brkF t then 4 else 0
def jdN(t:Tn):Int:=if Q1u t.w&&Q1u t.v then brk t else 0
def jdE(t:Tn):Int:=if Q1u t.w&&Q1u t.v then 0 else 200
theorem judge_fn(t:Tn)(ht:t.ok):Fn Tryz.prog 13 [tnA t] [] (.tup [vi .i64 (jdN t),vi .i64 (jdE t)]) []:=by
 have m2:=may2_fn true t.w t.v ht.w ht.v
 have b1:=brk1_fn t ht
 have b2:=brk2_fn t ht
 have b3:=brk3_fn t ht
 have b4:=brk4_fn t ht
 unfold jdN jdE brk
 generalize (Q1u t.w&&Q1u t.v)=q at m2 ⊢
 generalize brkE t=q1 at b1 ⊢
 generalize brkS t=q2 at b2 ⊢
 generalize brkC t=q3 at b3 ⊢
 generalize brkF t=q4 at b4 ⊢
 cases q with
 |false=>
  simp only[Bool.false_eq_true,if_false]
  (refine Q1c Tryz.func13 rfl (by rfl) ?_;simp only[Tryz.ntmps13,List.length_cons,List.length_nil,Nat.reduceAdd,Nat.reduceSub,List.replicate,List.cons_append,List.nil_append])
  (repeat(any_goals(first|((with_reducible refine Q3p ?_ ?_);rfl;intro K hK;apply Q1s;rfl;rfl;(focus(simp only[go_sem];try rfl));(focus(simp only[go_sem];try rfl));rfl;(first|omega);(first|omega);(first|omega);(simp only[go_sem];rfl);rfl;(focus((simp only[unC,Option.map_some]);(try rfl)));(simp only[go_sem];refine hK _ ?_;clear hK K))|((with_reducible refine Q0p ?_ ?_ ?_);rfl;rfl;intro K hK;((apply Q0k (m2);rfl;rfl;rfl;rfl;exact Tryz.func28);kernel_rfl;rfl;(focus((simp only[go_sem]);(try rfl);done));(first|rfl));(simp only[go_sem];refine hK _ ?_;clear hK K))|((with_reducible refine Q0d ?_ ?_);rfl;intro K hK;simp only[go_sem];((repeat(refine ndI (by first|assumption) ?_));refine hK _ ?_;clear hK K))|(with_reducible first|(refine Q0c ?_;refine hR _ ?_;clear hR R)|((first|refine Q0e ?_);intro Ψ hΨ hΨ')|(refine Q0b ?_;intro R hR)|(refine hΨ _ ?_;clear hΨ hΨ' Ψ)|refine Q0l ?_)|((with_reducible refine hΨ' _ _ ?_ ?_);(focus(simp;done));clear hΨ hΨ' Ψ)|((with_reducible apply Q0f);rfl;rfl;all_goals(intro hc;first|(cases hc;done)|(try simp only at hc))))))
  all_goals(refine⟨by simp,⟨_,?_,AV.le_refl _⟩,Q0i (by simp[leH,hget])⟩;simp only[Tryz.results13,resL,ldA,Q0z,go_sem])
 |true=>
  simp only[if_true]
  (refine Q1c Tryz.func13 rfl (by rfl) ?_;simp only[Tryz.ntmps13,List.length_cons,List.length_nil,Nat.reduceAdd,Nat.reduceSub,List.replicate,List.cons_append,List.nil_append])
  (repeat(any_goals(first|((with_reducible refine Q3p ?_ ?_);rfl;intro K hK;apply Q1s;rfl;rfl;(focus(simp only[go_sem];try rfl));(focus(simp only[go_sem];try rfl));rfl;(first|omega);(first|omega);(first|omega);(simp only[go_sem];rfl);rfl;(focus((simp only[unC,Option.map_some]);(try rfl)));(simp only[go_sem];refine hK _ ?_;clear hK K))|((with_reducible refine Q0p ?_ ?_ ?_);rfl;rfl;intro K hK;((apply Q0k (m2);rfl;rfl;rfl;rfl;exact Tryz.func28);kernel_rfl;rfl;(focus((simp only[go_sem]);(try rfl);done));(first|rfl));(simp only[go_sem];refine hK _ ?_;clear hK K))|((with_reducible refine Q0d ?_ ?_);rfl;intro K hK;simp only[go_sem];((repeat(refine ndI (by first|assumption|rfl) ?_));refine hK _ ?_;clear hK K))|(with_reducible first|(refine Q0c ?_;refine hR _ ?_;clear hR R)|((first|refine Q0e ?_|refine Q0g ?_);intro Ψ hΨ hΨ')|(refine Q0b ?_;intro R hR)|(refine hΨ _ ?_;clear hΨ hΨ' Ψ)|refine Q0h ?_)|((with_reducible apply Q0f);rfl;rfl;all_goals(intro hc;first|(cases hc;done)|(try simp only at hc))))))
  refine Q4h 6 ?_
  refine Q5c ?_
  intro Ψ hΨ hΨ'
  refine Q0e ?_
  intro Ψ hΨ hΨ'
  refine Q0b ?_
  intro R hR
  refine evL_to rfl (St.to.frz 1 (pcs:=t.pv) (by simp[hget,Tn.pv])) ?_
  have hpl:t.pv.length=16:=rfl
  generalize t.pv=pv at *
  simp only[hpl,St.frz,AV.frzL,AV.frz,frzH,if_true,eq_self,↓reduceIte,Nat.reduceEqDiff,List.length_cons,List.length_nil,List.drop_zero,Nat.reduceAdd,Nat.reduceLT]
  have w1:IntKind.i64.wrap (0+1)=1:=rfl
  have w2:IntKind.i64.wrap (1+1)=2:=rfl
  have w3:IntKind.i64.wrap (2+1)=3:=rfl
  have w4:IntKind.i64.wrap (3+1)=4:=rfl
  have w5:IntKind.i64.wrap (4+1)=5:=rfl
  (have W:=ndI w1 (ndI w2 (ndI w3 (ndI w4 w5)));(repeat(any_goals(first|((with_reducible refine Q3p ?_ ?_);rfl;intro K hK;(first|(apply opA_fnne;rfl;rfl;kernel_rfl;rfl)|(apply opA_fnni;rfl;rfl;kernel_rfl;rfl));(simp only[go_sem,W];refine hK _ ?_;clear hK K))|((with_reducible refine Q0d ?_ ?_);rfl;intro K hK;simp only[go_sem,W];((repeat(refine ndI (by first|assumption|omega) ?_));refine hK _ ?_;clear hK K))|(with_reducible first|(refine Q0c ?_;refine hR _ ?_;clear hR R)|((first|refine Q0e ?_|refine Q0g ?_);intro Ψ hΨ hΨ')|(refine Q0b ?_;intro R hR)|(refine hΨ _ ?_;clear hΨ hΨ' Ψ)|refine Q0h ?_|refine Q0l ?_|refine Q0v ?_)|((with_reducible refine hΨ' _ _ ?_ ?_);(focus(simp;done));clear hΨ hΨ' Ψ)|((with_reducible apply Q1i);rfl;rfl;rfl;all_goals(intro hb;first|(cases hb;done)|((try simp only[Bool.not_true,Bool.not_false] at hb);(first|((with_reducible intro K hK);(first|((first|(apply Q0k (b1);rfl;rfl;rfl;rfl;exact Tryz.func29)|(apply Q0k (b2);rfl;rfl;rfl;rfl;exact Tryz.func32)|(apply Q0k (b3);rfl;rfl;rfl;rfl;exact Tryz.func33)|(apply Q0k (b4);rfl;rfl;rfl;rfl;exact Tryz.func37));kernel_rfl;rfl;(focus((simp only[go_sem,W]);(try rfl);done));(first|rfl))|skip);simp only[go_sem,W];((repeat(refine ndI (by first|assumption) ?_));refine hK _ ?_;clear hK K))|((fail_if_success (with_reducible intro _));simp only[go_sem,W])))))|((with_reducible apply Q0f);rfl;rfl;all_goals(intro hc;first|(cases hc;done)|(try simp only at hc)))|((with_reducible refine Q5c ?_);intro Ψ hΨ hΨ')))))
  all_goals(refine⟨by simp,⟨_,?_,AV.le_refl _⟩,Q0i (by simp[leH,hget])⟩;simp only[Tryz.results13,resL,ldA,Q0z,go_sem])
  all_goals clear b1 b2 b3 b4 m2
  all_goals(cases q1<;>cases q2<;>cases q3<;>cases q4<;>first|rfl|contradiction)
end Go.Proofs.YtbmcdemnnbndeaaGreat
namespace Go.Proofs.YtbmcdemnnbndeaaGreat
open Go.RowKit
open Nat (reduceBEq)
set_option maxRecDepth 20000
set_option maxHeartbeats 4000000
def exN(w:Wl):Nat:=if Q1u w&&decide (Q2z w≤hasN w) then hasN w-Q2z w else 0
def exB(w:Wl):Bool:=Q1u w&&decide (Q2z w≤hasN w)
theorem excess_fn(w:Wl)(hw:w.ok):Fn Tryz.prog 11 [wlA w] [] (.tup [wN (exN w),vb (exB w)]) []:=by
 have f1:=has_fn w hw
 have f2:=X3n w hw
 have f3:=Q8v false w hw
 have s:=sub_fn (hasN w) (Q2z w) (Q7g hw) (Q6q w)
 have e:¬hasN w<Q2z w→(hasN w+WW-Q2z w)%WW=hasN w-Q2z w:=fun h=>by
  have h1:=Q7g hw
  rw[show hasN w+WW-Q2z w=(hasN w-Q2z w)+WW by omega,Nat.add_mod_right,Nat.mod_eq_of_lt (by omega)]
 unfold exN exB
 by_cases h:hasN w<Q2z w
 · rw[decide_eq_true h] at s
   rw[decide_eq_false (show ¬Q2z w≤hasN w by omega),Bool.and_false]
   simp only[Bool.false_eq_true,if_false]
   generalize (hasN w+WW-Q2z w)%WW=m at s
   generalize hasN w=n1 at *
   generalize Q2z w=n2 at *
   (refine Q1c Tryz.func11 rfl (by rfl) ?_;simp only[Tryz.ntmps11,List.length_cons,List.length_nil,Nat.reduceAdd,Nat.reduceSub,List.replicate,List.cons_append,List.nil_append])
   (repeat(any_goals(first|((with_reducible refine Q0d ?_ ?_);rfl;intro K hK;simp only[go_sem];((repeat(refine ndI (by first|assumption) ?_));refine hK _ ?_;clear hK K))|(with_reducible first|(refine Q0c ?_;refine hR _ ?_;clear hR R)|((first|refine Q0e ?_);intro Ψ hΨ hΨ')|(refine Q0b ?_;intro R hR)|(refine hΨ _ ?_;clear hΨ hΨ' Ψ)|refine Q0l ?_)|((with_reducible refine hΨ' _ _ ?_ ?_);(focus(simp;done));clear hΨ hΨ' Ψ)|((with_reducible apply Q1i);rfl;rfl;rfl;all_goals(intro hb;first|(cases hb;done)|((try simp only[Bool.not_true,Bool.not_false] at hb);(first|((fail_if_success (with_reducible intro _));simp only[go_sem])))))|((with_reducible apply Q0f);rfl;rfl;all_goals(intro hc;first|(cases hc;done)|(try simp only at hc)))|((with_reducible refine Q0w ?_ ?_);kernel_rfl;(with_reducible refine hR _ ?_);clear hR R)|((first|((with_reducible apply Q1m);rfl;rfl;((first|(apply Q0s (f1);rfl;rfl;rfl;rfl;exact Tryz.func26)|(apply Q0s (f2);rfl;rfl;rfl;rfl;exact Tryz.func27)|(apply Q0s (s);rfl;rfl;rfl;rfl;exact Tryz.func25));kernel_rfl;rfl;(focus((simp only[go_sem]);(try rfl);done));(first|rfl)))|((with_reducible apply Q0u);rfl;rfl;(simp only[rdE,rdOf,go_sem];rfl);(intro τ hA hQ hN;((try simp only[Q1g,Op.operands,Call.operands,go_sem,List.mem_cons,List.not_mem_nil,forall_eq_or_imp,forall_eq,List.append_toArray,Option.toArray] at hA);(try simp only[go_sem,List.mem_cons,List.not_mem_nil,forall_eq_or_imp,forall_eq] at hQ hN);(first|(revert hA;intro hA));(first|(revert hQ;intro hQ));(first|(revert hN;intro hN));simp only[go_sem,hA,hQ,hN];(repeat(refine ndI (by first|assumption) ?_));(first|apply Q1d|apply Q2o))))|((first|((with_reducible apply X0w);rfl;rfl;rfl));(intro τ hA hQ hN;((try simp only[Q1g,Op.operands,Call.operands,go_sem,List.mem_cons,List.not_mem_nil,forall_eq_or_imp,forall_eq,List.append_toArray,Option.toArray] at hA);(try simp only[go_sem,List.mem_cons,List.not_mem_nil,forall_eq_or_imp,forall_eq] at hQ);(first|(revert hA;intro hA));(first|(revert hQ;intro hQ));simp only[go_sem,hA,hQ,hN];(repeat(refine ndI (by first|assumption) ?_));exact X5g _ _ _ _))));(simp only[St.eff,setO,Q0x,go_sem]))|((with_reducible refine Q0r ?_ ?_ ?_ ?_);kernel_rfl;kernel_rfl;(first|kernel_rfl);intro R hR))))
   all_goals(refine⟨by simp,⟨_,?_,AV.le_refl _⟩,Q0i (by simp[leH,hget])⟩;simp only[Tryz.results11,resL,ldA,Q0z,go_sem])
   all_goals rfl
 · rw[decide_eq_false h,e h] at s
   rw[decide_eq_true (show Q2z w≤hasN w by omega),Bool.and_true]
   generalize hasN w-Q2z w=m at s ⊢
   generalize hasN w=n1 at *
   generalize Q2z w=n2 at *
   generalize Q1u w=q at *
   cases q
   all_goals simp only[Bool.false_eq_true,if_false,if_true]
   all_goals(refine Q1c Tryz.func11 rfl (by rfl) ?_;simp only[Tryz.ntmps11,List.length_cons,List.length_nil,Nat.reduceAdd,Nat.reduceSub,List.replicate,List.cons_append,List.nil_append])
   all_goals(repeat(any_goals(first|((with_reducible refine Q0d ?_ ?_);rfl;intro K hK;simp only[go_sem];((repeat(refine ndI (by first|assumption) ?_));refine hK _ ?_;clear hK K))|(with_reducible first|(refine Q0c ?_;refine hR _ ?_;clear hR R)|((first|refine Q0e ?_);intro Ψ hΨ hΨ')|(refine Q0b ?_;intro R hR)|(refine hΨ _ ?_;clear hΨ hΨ' Ψ)|refine Q0h ?_|refine Q0l ?_)|((with_reducible refine hΨ' _ _ ?_ ?_);(focus(simp;done));clear hΨ hΨ' Ψ)|((with_reducible apply Q1i);rfl;rfl;rfl;all_goals(intro hb;first|(cases hb;done)|((try simp only[Bool.not_true,Bool.not_false] at hb);(first|((with_reducible intro K hK);(first|((apply Q5o (f3);rfl;rfl;rfl;rfl;exact Tryz.func28);kernel_rfl;rfl;(focus((simp only[AV.viewL,AV.view,Q4a,unC,Option.map_some,go_sem]);(try rfl)));rfl)|skip);simp only[go_sem];((repeat(refine ndI (by first|assumption) ?_));refine hK _ ?_;clear hK K))))))|((with_reducible apply Q0f);rfl;rfl;all_goals(intro hc;first|(cases hc;done)|(try simp only at hc)))|((with_reducible refine Q0w ?_ ?_);kernel_rfl;(with_reducible refine hR _ ?_);clear hR R)|((first|((with_reducible apply Q1m);rfl;rfl;((first|(apply Q0s (f1);rfl;rfl;rfl;rfl;exact Tryz.func26)|(apply Q0s (f2);rfl;rfl;rfl;rfl;exact Tryz.func27)|(apply Q0s (s);rfl;rfl;rfl;rfl;exact Tryz.func25));kernel_rfl;rfl;(focus((simp only[go_sem]);(try rfl);done));(first|rfl)))|((with_reducible apply Q0u);rfl;rfl;(simp only[rdE,rdOf,go_sem];rfl);(intro τ hA hQ hN;((try simp only[Q1g,Op.operands,Call.operands,go_sem,List.mem_cons,List.not_mem_nil,forall_eq_or_imp,forall_eq,List.append_toArray,Option.toArray] at hA);(try simp only[go_sem,List.mem_cons,List.not_mem_nil,forall_eq_or_imp,forall_eq] at hQ hN);(first|(revert hA;intro hA));(first|(revert hQ;intro hQ));(first|(revert hN;intro hN));simp only[go_sem,hA,hQ,hN];(repeat(refine ndI (by first|assumption) ?_));(first|apply Q1d|apply Q2o))))|((first|((with_reducible apply X0w);rfl;rfl;rfl));(intro τ hA hQ hN;((try simp only[Q1g,Op.operands,Call.operands,go_sem,List.mem_cons,List.not_mem_nil,forall_eq_or_imp,forall_eq,List.append_toArray,Option.toArray] at hA);(try simp only[go_sem,List.mem_cons,List.not_mem_nil,forall_eq_or_imp,forall_eq] at hQ);(first|(revert hA;intro hA));(first|(revert hQ;intro hQ));simp only[go_sem,hA,hQ,hN];(repeat(refine ndI (by first|assumption) ?_));exact X5g _ _ _ _))));(simp only[St.eff,setO,Q0x,go_sem]))|((with_reducible refine Q0r ?_ ?_ ?_ ?_);kernel_rfl;kernel_rfl;(first|kernel_rfl);intro R hR))))
   all_goals(refine⟨by simp,⟨_,?_,AV.le_refl _⟩,Q0i (by simp[leH,hget])⟩;simp only[Tryz.results11,resL,ldA,Q0z,go_sem])
   all_goals rfl
theorem findP_lt{l:List lg.Hd}(ok:∀h∈l,h.ok)(a:Int):(lg.findP l a).p<WW∧(lg.findP l a).s<WW:=by
 unfold lg.findP
 split
 · exact⟨by decide,by decide⟩
 · split
   · unfold lg.findH
     split
     · rename_i y hy
       split
       · have:=ok y (List.mem_of_getElem? hy)
         exact⟨this.2.1,this.2.2.1⟩
       · exact⟨(by decide:0<WW),(by decide:0<WW)⟩
     · exact⟨(by decide:0<WW),(by decide:0<WW)⟩
   · exact⟨by decide,by decide⟩
theorem wealth_fn(w:Wl)(hw:w.ok)(a:Int)(ua:U a):Fn Tryz.prog 14 [wlA w,vi .u64 a] [] (wN (X3f w a)) []:=by
 have f1:=Q8v false w hw
 have f2:=X5n w hw a
 have f3:=lg.findF_fn false w.L (Nat.le_trans hw.l.1 (by decide)) hw.l.2 a
 have lt:=findP_lt hw.l.2 a
 have sm:=X1l false [(OfS w.S a).b,(lg.findP w.L a).p,(lg.findP w.L a).s] (by simp) (fun x hx=>by
  simp only[List.mem_cons,List.not_mem_nil,or_false] at hx
  rcases hx with rfl|rfl|rfl
  · exact of_lt hw a ua
  · exact lt.1
  · exact lt.2)
 unfold X3f
 by_cases h0:a=0
 · have k0:(a==0)=true:=by simpa using h0
   rw[if_pos h0]
   (refine Q1c Tryz.func14 rfl (by rfl) ?_;simp only[Tryz.ntmps14,List.length_cons,List.length_nil,Nat.reduceAdd,Nat.reduceSub,List.replicate,List.cons_append,List.nil_append])
   (repeat(any_goals(first|((with_reducible refine Q0d ?_ ?_);rfl;intro K hK;simp only[go_sem,k0];((repeat(refine ndI (by first|assumption) ?_));refine hK _ ?_;clear hK K))|(with_reducible first|(refine Q0c ?_;refine hR _ ?_;clear hR R)|((first|refine Q0e ?_);intro Ψ hΨ hΨ')|(refine Q0b ?_;intro R hR)|(refine hΨ _ ?_;clear hΨ hΨ' Ψ)|refine Q0l ?_)|((with_reducible refine hΨ' _ _ ?_ ?_);(focus(simp;done));clear hΨ hΨ' Ψ)|((with_reducible apply Q1i);rfl;rfl;rfl;all_goals(intro hb;first|(cases hb;done)|((try simp only[Bool.not_true,Bool.not_false] at hb);(first|((fail_if_success (with_reducible intro _));simp only[go_sem,k0])))))|((with_reducible apply Q0f);rfl;rfl;all_goals(intro hc;first|(cases hc;done)|(try simp only at hc))))))
   all_goals(refine⟨by simp,⟨_,?_,AV.le_refl _⟩,Q0i (by simp[leH,hget])⟩;simp only[Tryz.results14,resL,ldA,Q0z,go_sem])
   all_goals rfl
 have k0:(a==0)=false:=by simpa using h0
 rw[if_neg h0]
 generalize Q1u w=q at *
 cases q with
 |false=>
  simp only[Bool.false_eq_true,if_false]
  (refine Q1c Tryz.func14 rfl (by rfl) ?_;simp only[Tryz.ntmps14,List.length_cons,List.length_nil,Nat.reduceAdd,Nat.reduceSub,List.replicate,List.cons_append,List.nil_append])
  (repeat(any_goals(first|((with_reducible refine Q0d ?_ ?_);rfl;intro K hK;simp only[go_sem,k0];((repeat(refine ndI (by first|assumption) ?_));refine hK _ ?_;clear hK K))|(with_reducible first|(refine Q0c ?_;refine hR _ ?_;clear hR R)|((first|refine Q0e ?_);intro Ψ hΨ hΨ')|(refine Q0b ?_;intro R hR)|(refine hΨ _ ?_;clear hΨ hΨ' Ψ)|refine Q0l ?_)|((with_reducible refine hΨ' _ _ ?_ ?_);(focus(simp;done));clear hΨ hΨ' Ψ)|((with_reducible apply Q1i);rfl;rfl;rfl;all_goals(intro hb;first|(cases hb;done)|((try simp only[Bool.not_true,Bool.not_false] at hb);(first|((with_reducible intro K hK);(first|((apply Q5o (f1);rfl;rfl;rfl;rfl;exact Tryz.func28);kernel_rfl;rfl;(focus((simp only[AV.viewL,AV.view,Q4a,unC,Option.map_some,go_sem,k0]);(try rfl)));rfl)|skip);simp only[go_sem,k0];((repeat(refine ndI (by first|assumption) ?_));refine hK _ ?_;clear hK K))))))|((with_reducible apply Q0f);rfl;rfl;all_goals(intro hc;first|(cases hc;done)|(try simp only at hc))))))
  all_goals(refine⟨by simp,⟨_,?_,AV.le_refl _⟩,Q0i (by simp[leH,hget])⟩;simp only[Tryz.results14,resL,ldA,Q0z,go_sem])
  all_goals rfl
 |true=>
  simp only[if_true]
  generalize [(OfS w.S a).b,(lg.findP w.L a).p,(lg.findP w.L a).s].sum%WW=m at sm ⊢
  generalize decide (WW≤[(OfS w.S a).b,(lg.findP w.L a).p,(lg.findP w.L a).s].sum)=qo at sm
  generalize (OfS w.S a).b=n1 at *
  generalize lg.findP w.L a=h at *
  obtain⟨ha,hp,hs,hd,hf⟩:=h
  dsimp only at *
  unfold wsl wpv at sm
  simp only[List.flatMap_cons,List.flatMap_nil,List.cons_append,List.nil_append,List.length_cons,List.length_nil,Nat.reduceAdd] at sm
  (refine Q1c Tryz.func14 rfl (by rfl) ?_;simp only[Tryz.ntmps14,List.length_cons,List.length_nil,Nat.reduceAdd,Nat.reduceSub,List.replicate,List.cons_append,List.nil_append])
  (repeat(any_goals(first|((with_reducible refine Q0p ?_ ?_ ?_);rfl;rfl;intro K hK;((apply Q0k (f3);rfl;rfl;rfl;rfl;exact Tryz.func39);kernel_rfl;rfl;(focus((simp only[go_sem,k0]);(try rfl);done));(first|rfl));(simp only[go_sem,k0];refine hK _ ?_;clear hK K))|((with_reducible refine Q0d ?_ ?_);rfl;intro K hK;simp only[go_sem,k0];((repeat(refine ndI (by first|assumption) ?_));refine hK _ ?_;clear hK K))|(with_reducible first|(refine Q0c ?_;refine hR _ ?_;clear hR R)|((first|refine Q0e ?_);intro Ψ hΨ hΨ')|(refine Q0b ?_;intro R hR)|(refine hΨ _ ?_;clear hΨ hΨ' Ψ)|refine Q0h ?_|refine Q0l ?_)|((with_reducible apply Q1i);rfl;rfl;rfl;all_goals(intro hb;first|(cases hb;done)|((try simp only[Bool.not_true,Bool.not_false] at hb);(first|((with_reducible intro K hK);(first|((apply Q5o (f1);rfl;rfl;rfl;rfl;exact Tryz.func28);kernel_rfl;rfl;(focus((simp only[AV.viewL,AV.view,Q4a,unC,Option.map_some,go_sem,k0]);(try rfl)));rfl)|skip);simp only[go_sem,k0];((repeat(refine ndI (by first|assumption) ?_));refine hK _ ?_;clear hK K))))))|((with_reducible apply Q0f);rfl;rfl;all_goals(intro hc;first|(cases hc;done)|(try simp only at hc)))|((with_reducible refine Q0w ?_ ?_);kernel_rfl;(with_reducible refine hR _ ?_);clear hR R)|((first|((with_reducible apply Q1m);rfl;rfl;(first|((apply Q0s (f2);rfl;rfl;rfl;rfl;exact Tryz.func38);kernel_rfl;rfl;(focus((simp only[go_sem,k0]);(try rfl);done));(first|rfl))|((apply X1y (sm);rfl;rfl;rfl;rfl;exact Tryz.func17);kernel_rfl;rfl;(focus((simp only[AV.viewL,AV.view,Q4a,unC,Option.map_some,go_sem,k0]);(try rfl)));rfl;(simp only[AV.rowsL,AV.rows,go_sem,k0];rfl))))|((with_reducible apply Q0u);rfl;rfl;(simp only[rdE,rdOf,go_sem,k0];rfl);(intro τ hA hQ hN;((try simp only[Q1g,Op.operands,Call.operands,go_sem,k0,go_sem,List.mem_cons,List.not_mem_nil,forall_eq_or_imp,forall_eq,List.append_toArray,Option.toArray] at hA);(try simp only[go_sem,k0,List.mem_cons,List.not_mem_nil,forall_eq_or_imp,forall_eq] at hQ hN);(first|(revert hA;intro hA));(first|(revert hQ;intro hQ));(first|(revert hN;intro hN));simp only[go_sem,k0,go_sem,hA,hQ,hN];(repeat(refine ndI (by first|assumption) ?_));(first|apply Q1d|apply Q2o))))|((first|((with_reducible apply X0w);rfl;rfl;rfl));(intro τ hA hQ hN;((try simp only[Q1g,Op.operands,Call.operands,go_sem,k0,go_sem,List.mem_cons,List.not_mem_nil,forall_eq_or_imp,forall_eq,List.append_toArray,Option.toArray] at hA);(try simp only[go_sem,k0,List.mem_cons,List.not_mem_nil,forall_eq_or_imp,forall_eq] at hQ);(first|(revert hA;intro hA));(first|(revert hQ;intro hQ));simp only[go_sem,k0,go_sem,hA,hQ,hN];(repeat(refine ndI (by first|assumption) ?_));exact X5g _ _ _ _))));(simp only[St.eff,setO,Q0x,go_sem,k0]))|((with_reducible refine Q0r ?_ ?_ ?_ ?_);kernel_rfl;kernel_rfl;(first|kernel_rfl);intro R hR))))
  all_goals(refine⟨by simp,⟨_,?_,AV.le_refl _⟩,Q0i (by simp[leH,hget])⟩;simp only[Tryz.results14,resL,ldA,Q0z,go_sem])
end Go.Proofs.YtbmcdemnnbndeaaGreat
namespace Go.Proofs.YtbmcdemnnbndeaaGreat
open Go.RowKit
open Nat (reduceBEq)
set_option maxRecDepth 20000
set_option maxHeartbeats 4000000
def smW(d:Nat):Wl:=⟨[⟨1,9,0,[],[]⟩,⟨20,100,0,[],[]⟩],[⟨20,d,0,0,0⟩],[]⟩
abbrev nilA:AV:=.c (.v (.slice none 0 0))
abbrev smB(d:Nat):List PV:=[.v (.int .u64 20),.v (.int .u64 d),.v (.int .u64 0),.v (.int .u64 0),.v (.int .u64 0),.v (.int .u64 0),.v (.int .u64 0),.v (.int .u64 0),.v (.int .u64 0),.v (.int .u64 0),.v (.int .u64 0)]
theorem small_row(d:Nat):Fn Tryz.prog 12 [vi .u64 d] [] (.agg [.row 7 76 8 2,.row 12 78 11 1,nilA])
 [(7,[vi .u64 1,vi .u64 9,vi .u64 0,vi .u64 0,vi .u64 0,vi .u64 0,nilA,nilA,vi .u64 20,vi .u64 100,vi .u64 0,vi .u64 0,vi .u64 0,vi .u64 0,nilA,nilA]),(12,(smB d).map .c)]:=by
 (refine Q1c Tryz.func12 rfl (by rfl) ?_;simp only[Tryz.ntmps12,List.length_cons,List.length_nil,Nat.reduceAdd,Nat.reduceSub,List.replicate,List.cons_append,List.nil_append])
 (repeat(any_goals(first|((with_reducible refine Q0d ?_ ?_);rfl;intro K hK;simp only[go_sem];((repeat(refine ndI (by first|assumption) ?_));refine hK _ ?_;clear hK K))|(with_reducible first|(refine Q0c ?_;refine hR _ ?_;clear hR R)|((first|refine Q0e ?_);intro Ψ hΨ hΨ')|(refine Q0b ?_;intro R hR)|(refine hΨ _ ?_;clear hΨ hΨ' Ψ)|refine Q0l ?_))))
 all_goals(refine⟨by simp,⟨_,?_,AV.le_refl _⟩,Q0i (by simp[leH,hget])⟩;simp only[Tryz.results12,resL,ldA,Q0z,go_sem])
theorem X4k(d:Nat)(hd:d<18446744073709551616):Fn Tryz.prog 12 [vi .u64 d] [] (wlA (smW d)) []:=by
 have k1:=(small_row d).to (St.to.cells 7 (ds:=((smW d).S.flatMap Ac.pv).map .c) rfl (by
  simp only[smW,List.flatMap_cons,List.flatMap_nil,Ac.pv,List.cons_append,List.nil_append,List.map_cons,List.map_nil,leL]
  exact⟨AV.le_refl _,AV.le_refl _,AV.le_refl _,AV.le_refl _,AV.le_refl _,AV.le_refl _,AV.le_nil _ _,AV.le_nil _ _,AV.le_refl _,AV.le_refl _,AV.le_refl _,AV.le_refl _,AV.le_refl _,AV.le_refl _,AV.le_nil _ _,AV.le_nil _ _,trivial⟩))
 have k2:=k1.frzN (d:=7) (pcs:=(smW d).S.flatMap Ac.pv) rfl
 have e:smB d=(smW d).L.flatMap lg.Hd.pv:=by
  have h0:l0 d=(d:Int):=by unfold l0;rw[Nat.mod_eq_of_lt hd]
  have h1:l1 d=0:=by unfold l1;rw[Nat.div_eq_of_lt hd];rfl
  have h2:l2 d=0:=by unfold l2;rw[Nat.div_eq_of_lt hd];rfl
  have h3:l3 d=0:=by unfold l3;rw[Nat.div_eq_of_lt hd];rfl
  simp[smW,lg.Hd.pv,h0,h1,h2,h3,Q3w,Q3v,Q3u,Q3t]
 have k3:=k2.frzN (d:=12) (pcs:=smB d) rfl
 refine k3.weaken ?_ (fun r cs h=>by cases h)
 simp only[AV.frz,AV.frzL,if_true,eq_self,↓reduceIte,Nat.reduceEqDiff]
 rw[e]
 exact AV.le_agg ⟨AV.le_refl _,AV.le_refl _,AV.le_nil _ _,trivial⟩
theorem X1o(d:Nat)(hd:d<WW):(smW d).ok:=by
 have hu:∀x:Int,0≤x→x≤18446744073709551615→U x:=fun x h1 h2=>⟨h1,h2⟩
 refine⟨⟨(by decide:2≤60),fun x hx=>?_⟩,⟨(by decide:1≤60),fun x hx=>?_⟩,⟨(by decide:0≤70),fun x hx=>by cases hx⟩⟩
 · simp only[smW,List.mem_cons,List.not_mem_nil,or_false] at hx
   rcases hx with rfl|rfl
   · exact⟨⟨hu 1 (by decide) (by decide),(by decide:9<WW),hu 0 (by decide) (by decide),⟨Nat.zero_le _,fun c h=>by cases h⟩,Nat.zero_le _,fun p h=>by cases h⟩,Nat.zero_le _,Nat.zero_le _⟩
   · exact⟨⟨hu 20 (by decide) (by decide),(by decide:100<WW),hu 0 (by decide) (by decide),⟨Nat.zero_le _,fun c h=>by cases h⟩,Nat.zero_le _,fun p h=>by cases h⟩,Nat.zero_le _,Nat.zero_le _⟩
 · simp only[smW,List.mem_cons,List.not_mem_nil,or_false] at hx
   subst hx
   exact⟨hu 20 (by decide) (by decide),hd,(by decide:0<WW),hu 0 (by decide) (by decide),hu 0 (by decide) (by decide)⟩
def smT(a b:Nat):Tn:=⟨smW a,smW b,[],0,0,0⟩
theorem smT_ok{a b:Nat}(ha:a<WW)(hb:b<WW):(smT a b).ok:=⟨X1o a ha,X1o b hb,⟨Nat.zero_le _,fun x h=>by cases h⟩,⟨Int.le_refl 0,by show(0:Int)≤_;decide⟩,(by decide:0<WW),(by decide:0<WW)⟩
abbrev i0:AV:=.c (.v (.int .u64 0))
theorem smJ(a b:Nat)(ha:a<WW)(hb:b<WW)(n:Int)(hn:jdN (smT a b)=n)(he:jdE (smT a b)=0):Fn Tryz.prog 13 [.agg [.c (acV (smW a).S),.c (hdV (smW a).L),.c (noV (smW a).N),.c (acV (smW b).S),.c (hdV (smW b).L),.c (noV (smW b).N),nilA,i0,i0,i0,i0,i0,i0,i0,i0,i0]] [] (.tup [vi .i64 n,vi .i64 0]) []:=by
 have h:=judge_fn (smT a b) (smT_ok ha hb)
 rw[hn,he] at h
 unfold tnA smT at h
 simp only[Q3w,Q3v,Q3u,Q3t] at h
 exact h.args ⟨AV.le_agg ⟨AV.le_refl _,AV.le_refl _,AV.le_refl _,AV.le_refl _,AV.le_refl _,AV.le_refl _,AV.le_nil _ _,AV.le_refl _,AV.le_refl _,AV.le_refl _,AV.le_refl _,AV.le_refl _,AV.le_refl _,AV.le_refl _,AV.le_refl _,AV.le_refl _,trivial⟩,trivial⟩
abbrev c4W(x:Int):AV:=.agg [vi .u64 x,vi .u64 0,vi .u64 0,vi .u64 0]
theorem wakesI_fn:Fn Tryz.prog 4 [] [] (vb true) []:=by
 have s7:=X4k 7 (by decide)
 have s8:=X4k 8 (by decide)
 have g1:Fn Tryz.prog 11 [wlA (smW 7)] [] (.tup [c4W 2,vb true]) []:=by
  have h:=excess_fn (smW 7) (X1o 7 (by decide))
  rw[show exN (smW 7)=2 by kernel_rfl,show exB (smW 7)=true by kernel_rfl] at h
  exact h
 have g2:=smJ 7 8 (by decide) (by decide) 1 (by kernel_rfl) (by kernel_rfl)
 have g3:=smJ 8 7 (by decide) (by decide) 0 (by kernel_rfl) (by kernel_rfl)
 have g4:Fn Tryz.prog 14 [wlA (smW 7),vi .u64 20] [] (c4W 107) []:=by
  have h:=wealth_fn (smW 7) (X1o 7 (by decide)) 20 ⟨by decide,by decide⟩
  rw[show X3f (smW 7) 20=107 by kernel_rfl] at h
  exact h
 have g5:Fn Tryz.prog 15 [wlA (smW 7)] [] (c4W 109) []:=by
  have h:=Q8c (smW 7) (X1o 7 (by decide))
  rw[show Q2a (smW 7)=109 by kernel_rfl] at h
  exact h
 generalize smW 7=a1 at *
 generalize smW 8=a2 at *
 (refine Q1c Tryz.func4 rfl (by rfl) ?_;simp only[Tryz.ntmps4,List.length_cons,List.length_nil,Nat.reduceAdd,Nat.reduceSub,List.replicate,List.cons_append,List.nil_append])
 (repeat(any_goals(first|((with_reducible refine Q0p ?_ ?_ ?_);rfl;rfl;intro K hK;(first|((apply Q0k (g1);rfl;rfl;rfl;rfl;exact Tryz.func11);kernel_rfl;rfl;(focus((simp only[go_sem]);(try rfl);done));(first|rfl))|((apply Q0k (s7);rfl;rfl;rfl;rfl;exact Tryz.func12);kernel_rfl;rfl;(focus((simp only[go_sem]);(try rfl);done));(first|rfl))|((apply Q0k (s8);rfl;rfl;rfl;rfl;exact Tryz.func12);kernel_rfl;rfl;(focus((simp only[go_sem]);(try rfl);done));(first|rfl))|((apply Q0k (g2);rfl;rfl;rfl;rfl;exact Tryz.func13);kernel_rfl;rfl;(focus((simp only[go_sem]);(try rfl);done));(first|rfl))|((apply Q0k (g3);rfl;rfl;rfl;rfl;exact Tryz.func13);kernel_rfl;rfl;(focus((simp only[go_sem]);(try rfl);done));(first|rfl)));(simp only[go_sem];refine hK _ ?_;clear hK K))|((with_reducible refine Q0d ?_ ?_);rfl;intro K hK;simp only[go_sem];((repeat(refine ndI (by first|assumption) ?_));refine hK _ ?_;clear hK K))|(with_reducible first|(refine Q0c ?_;refine hR _ ?_;clear hR R)|((first|refine Q0e ?_);intro Ψ hΨ hΨ')|(refine Q0b ?_;intro R hR)|(refine hΨ _ ?_;clear hΨ hΨ' Ψ)|refine Q0l ?_)|((with_reducible apply Q1i);rfl;rfl;rfl;all_goals(intro hb;first|(cases hb;done)|((try simp only[Bool.not_true,Bool.not_false] at hb);(first|((with_reducible intro K hK);(first|((first|(apply Q0k (g4);rfl;rfl;rfl;rfl;exact Tryz.func14)|(apply Q0k (g5);rfl;rfl;rfl;rfl;exact Tryz.func15));kernel_rfl;rfl;(focus((simp only[go_sem]);(try rfl);done));(first|rfl))|((apply Q0k (s7);rfl;rfl;rfl;rfl;exact Tryz.func12);kernel_rfl;rfl;(focus((simp only[go_sem]);(try rfl);done));(first|rfl))|skip);simp only[go_sem];((repeat(refine ndI (by first|assumption) ?_));refine hK _ ?_;clear hK K)))))))))
 all_goals(refine⟨by simp,⟨_,?_,AV.le_refl _⟩,Q0i (by simp[leH,hget])⟩;simp only[Tryz.results4,resL,ldA,Q0z,go_sem])
end Go.Proofs.YtbmcdemnnbndeaaGreat
namespace Go.Proofs.YtbmcdemnnbndeaaGreat
open Go.RowKit
open Nat (reduceBEq)
attribute [-go_sem] IntKind.bits
set_option maxRecDepth 20000
set_option maxHeartbeats 2000000
theorem X2i{V:Type}(k:Int)(v:V):∀m:List (Int×V),(mput m k v).map (·.1)=if k∈m.map (·.1) then m.map (·.1) else m.map (·.1)++[k]
 |[]=>by simp[mput]
 |p::m=>by
  have ih:=X2i k v m
  unfold mput
  by_cases h:k=p.1
  · rw[if_pos h,if_pos (by simp[h])]
    simp[h]
  · rw[if_neg h]
    simp only[List.map_cons,ih,List.mem_cons]
    by_cases h2:k∈m.map (·.1)
    · rw[if_pos h2,if_pos (.inr h2)]
    · rw[if_neg h2,if_neg (by rintro (e|e);exact h e;exact h2 e)]
      simp
theorem Q9w(l:List Rp):((Q5z l).map (·.1)).Nodup∧∀a,a∈(Q5z l).map (·.1)↔a∈l.map Rp.a:=by
 have key:∀(l:List Rp) (m:List (Int×Bl)),(m.map (·.1)).Nodup→((l.foldl (fun m r=>mput m r.a (Q5f r (mget bl0 m r.a))) m).map (·.1)).Nodup∧∀a,a∈(l.foldl (fun m r=>mput m r.a (Q5f r (mget bl0 m r.a))) m).map (·.1)↔a∈m.map (·.1)∨a∈l.map Rp.a:=by
  intro l
  induction l with
  |nil=>intro m h;exact⟨h,fun a=>by simp⟩
  |cons r l ih=>
   intro m h
   have h1:=X2i r.a (Q5f r (mget bl0 m r.a)) m
   have h2:((mput m r.a (Q5f r (mget bl0 m r.a))).map (·.1)).Nodup:=by
    rw[h1]
    split
    · exact h
    · rename_i hn
      refine List.nodup_append.2 ⟨h,by simp,fun x hx y hy e=>?_⟩
      simp at hy
      subst hy
      subst e
      exact hn hx
   have h3:∀a,a∈(mput m r.a (Q5f r (mget bl0 m r.a))).map (·.1)↔a∈m.map (·.1)∨a=r.a:=fun a=>by
    rw[h1]
    split
    · rename_i hy
      constructor
      · exact .inl
      · rintro (h|h)
        · exact h
        · rw[h];exact hy
    · rw[List.mem_append];simp
   obtain⟨g1,g2⟩:=ih _ h2
   refine⟨g1,fun a=>?_⟩
   rw[List.foldl_cons,g2 a,h3 a,List.map_cons,List.mem_cons,or_assoc]
 have:=key l [] .nil
 refine⟨this.1,fun a=>?_⟩
 rw[show a∈(Q5z l).map (·.1)↔_ from this.2 a]
 simp
theorem X2p{a:Int}:∀(l:List Rp) (b:Bl),a∉l.map Rp.a→l.foldl (Q3q a) b=b
 |[],b,_=>rfl
 |r::l,b,h=>by
  rw[List.map_cons,List.mem_cons,not_or] at h
  rw[List.foldl_cons,show Q3q a b r=b by unfold Q3q;rw[if_neg (fun e=>h.1 e.symm)]]
  exact X2p l b h.2
theorem Q9b(a:Int):∀(l:List Rp) (m:List (Int×Bl)),a∈l.map Rp.a→mget bl0 (l.foldl (fun m r=>mput m r.a (Q5f r (mget bl0 m r.a))) m) a=l.foldl (Q3q a) ⟨a,(mget bl0 m a).o,(mget bl0 m a).c⟩∨a∉l.map Rp.a
 |[],m,h=>by cases h
 |r::l,m,h=>by
  left
  rw[List.foldl_cons,List.foldl_cons]
  have e1:∀z:Bl,z=⟨a,(mget bl0 m a).o,(mget bl0 m a).c⟩→Q3q a z r=if r.a=a then⟨a,(mget bl0 m a).o+1,((mget bl0 m a).c+r.c)%WW⟩ else⟨a,(mget bl0 m a).o,(mget bl0 m a).c⟩:=fun z hz=>by
   subst hz;rfl
  rw[e1 _ rfl]
  by_cases ha:r.a=a
  · rw[if_pos ha]
    by_cases hl:a∈l.map Rp.a
    · rcases Q9b a l (mput m r.a (Q5f r (mget bl0 m r.a))) hl with h2|h2
      · rw[h2,Q6d,if_pos ha.symm,ha]
        rfl
      · exact absurd hl h2
    · rw[X2p l _ hl]
      have hk:∀(l:List Rp) (m:List (Int×Bl)),a∉l.map Rp.a→mget bl0 (l.foldl (fun m r=>mput m r.a (Q5f r (mget bl0 m r.a))) m) a=mget bl0 m a:=by
       intro l
       induction l with
       |nil=>intro m _;rfl
       |cons r l ih=>
        intro m h
        rw[List.map_cons,List.mem_cons,not_or] at h
        rw[List.foldl_cons,ih _ h.2,Q6d,if_neg h.1]
      rw[hk l _ hl,Q6d,if_pos ha.symm,ha]
      unfold Q5f
      rw[ha]
  · rw[if_neg ha]
    have hl:a∈l.map Rp.a:=by
     rw[List.map_cons,List.mem_cons] at h
     rcases h with h|h
     · exact absurd h.symm ha
     · exact h
    rcases Q9b a l (mput m r.a (Q5f r (mget bl0 m r.a))) hl with h2|h2
    · rw[h2,Q6d,if_neg (fun e=>ha e.symm)]
    · exact absurd hl h2
theorem srtI_lt{l:List Int}(h:l.Nodup):(srtI l).Pairwise (· < ·):=by
 have tr:∀a b c:Int,decide (a≤b)=true→decide (b≤c)=true→decide (a≤c)=true:=fun a b c h1 h2=>by simp only[decide_eq_true_eq] at *;omega
 have to:∀a b:Int,(decide (a≤b)||decide (b≤a))=true:=fun a b=>by simp only[Bool.or_eq_true,decide_eq_true_eq];omega
 have h1:=List.pairwise_mergeSort tr to l
 have h2:(srtI l).Nodup:=(List.mergeSort_perm l _).nodup_iff.2 h
 refine(h1.and h2).imp ?_
 rintro a b ⟨h3,h4⟩
 simp only[decide_eq_true_eq] at h3
 omega
theorem keys_eq(l:List Rp):resD (l.map Rp.a) (l.map Rp.a).length=srtI ((Q5z l).map (·.1)):=by
 obtain⟨h1,h2⟩:=Q9w l
 refine res_uniq (srtI_lt h1) fun x=>?_
 rw[←h2 x]
 exact(List.mergeSort_perm _ _).mem_iff
theorem bills_eq(l:List Rp):Q4p l=Q6h l:=by
 unfold Q4p Q6h
 rw[keys_eq]
 refine List.map_congr_left fun a ha=>?_
 have hm:a∈l.map Rp.a:=((Q9w l).2 a).1 ((List.mergeSort_perm _ _).mem_iff.1 ha)
 rcases Q9b a l [] hm with h|h
 · exact h
 · exact absurd hm h
theorem equalB_fn(l:List Bl)(hl:l.length≤1000):Fn Tryz.prog 8 [bsl false l,bsl false l] [] (vb true) []:=by
 have k0:((l.length:Int) != (l.length:Int))=false:=by simp
 (refine Q1c Tryz.func8 rfl (by rfl) ?_;simp only[Tryz.ntmps8,List.length_cons,List.length_nil,Nat.reduceAdd,Nat.reduceSub,List.replicate,List.cons_append,List.nil_append])
 (repeat(any_goals(first|((with_reducible refine Q0d ?_ ?_);rfl;intro K hK;simp(disch:=omega) only[go_sem,k0];((repeat(refine ndI (by first|assumption|rfl) ?_));refine hK _ ?_;clear hK K))|(with_reducible first|(refine Q0c ?_;refine hR _ ?_;clear hR R)|((first|refine Q0e ?_|refine Q0g ?_);intro Ψ hΨ hΨ')|(refine Q0b ?_;intro R hR)|(refine hΨ _ ?_;clear hΨ hΨ' Ψ)|refine Q0h ?_)|((with_reducible apply Q0f);rfl;rfl;all_goals(intro hc;first|(cases hc;done)|(try simp only at hc))))))
 refine Q3f l.length (fun i=>⟨[bsl false l,bsl false l,.any,.any,.any,.any,.any,.any,.any,.any,.any,.any,vi .i64 l.length,vi .i64 (i:Int),.any,.any,.any,.any,.any,.any,.any,.any,.any,.any,.any,.any],[]⟩) (St.le_of (by simp[leT]) (by simp[leH])) ?_
 intro i hi Ψ hΨ hΨ'
 (try dsimp only at hΨ ⊢)
 rcases Nat.lt_or_ge i l.length with hlt|hge
 · obtain⟨y,hy⟩:∃y,l[i]? = some y:=⟨_,List.getElem?_eq_getElem hlt⟩
   have k1:(decide ((i:Int)<(l.length:Int)))=true:=decide_eq_true (by omega)
   have k2:=bl_at hy
   have k7:(i:Int)+1=((i+1:Nat):Int):=by omega
   have hΨ2:=hΨ
   (have W:=ndI k1 (ndI k2 (ndI k7 @wrI));(repeat(any_goals(first|((with_reducible refine Q0d ?_ ?_);rfl;intro K hK;simp(disch:=omega) only[go_sem,W,beq_self_eq_true,Bool.and_self,Bool.not_true];((repeat(refine ndI (by first|assumption|rfl) ?_));refine hK _ ?_;clear hK K))|(with_reducible first|(refine Q0c ?_;refine hR _ ?_;clear hR R)|((first|refine Q0e ?_|refine Q0g ?_);intro Ψ hΨ hΨ')|(refine Q0b ?_;intro R hR)|(refine hΨ _ ?_;clear hΨ hΨ' Ψ)|refine Q0h ?_)|((with_reducible refine hΨ' _ _ ?_ ?_);(focus(simp;done));clear hΨ hΨ' Ψ)|((with_reducible apply Q0f);rfl;rfl;all_goals(intro hc;first|(cases hc;done)|(try simp only at hc)))|((with_reducible refine Q0w ?_ ?_);kernel_rfl;(with_reducible refine hR _ ?_);clear hR R)|(((with_reducible apply Q0u);rfl;rfl;(simp(disch:=omega) only[rdE,rdOf,go_sem,W,beq_self_eq_true,Bool.and_self,Bool.not_true];rfl);(intro τ hA hQ hN;((try simp only[Q1g,Op.operands,Call.operands,go_sem,W,beq_self_eq_true,Bool.and_self,Bool.not_true,go_sem,List.mem_cons,List.not_mem_nil,forall_eq_or_imp,forall_eq,List.append_toArray,Option.toArray] at hA);(try simp only[go_sem,W,beq_self_eq_true,Bool.and_self,Bool.not_true,List.mem_cons,List.not_mem_nil,forall_eq_or_imp,forall_eq] at hQ hN);(first|(revert hA;intro hA));(first|(revert hQ;intro hQ));(first|(revert hN;intro hN));simp(disch:=omega) only[go_sem,W,beq_self_eq_true,Bool.and_self,Bool.not_true,go_sem,hA,hQ,hN];(repeat(refine ndI (by first|assumption|omega|rfl) ?_));(first|apply Q1d))));(simp(disch:=omega) only[St.eff,setO,Q0x,go_sem,W,beq_self_eq_true,Bool.and_self,Bool.not_true]))|((with_reducible refine Q0r ?_ ?_ ?_ ?_);kernel_rfl;kernel_rfl;(first|kernel_rfl);intro R hR)))))
   all_goals exact hΨ2 _ hlt (St.le_of (by simp[leT]) (by simp[leH]))
 · have k1:(decide ((i:Int)<(l.length:Int)))=false:=decide_eq_false (by omega)
   (repeat(any_goals(first|((with_reducible refine Q0d ?_ ?_);rfl;intro K hK;simp(disch:=omega) only[go_sem,k1];((repeat(refine ndI (by first|assumption|rfl) ?_));refine hK _ ?_;clear hK K))|(with_reducible first|(refine Q0c ?_;refine hR _ ?_;clear hR R)|((first|refine Q0e ?_);intro Ψ hΨ hΨ')|(refine Q0b ?_;intro R hR)|(refine hΨ _ ?_;clear hΨ hΨ' Ψ)|refine Q0l ?_|refine Q0v ?_)|((with_reducible refine hΨ' _ _ ?_ ?_);(focus(simp;done));clear hΨ hΨ' Ψ)|((with_reducible apply Q0f);rfl;rfl;all_goals(intro hc;first|(cases hc;done)|(try simp only at hc))))))
   all_goals(refine⟨by simp,⟨_,?_,AV.le_refl _⟩,Q0i (by simp[leH,hget])⟩;simp only[Tryz.results8,resL,ldA,Q0z,go_sem])
theorem costsI_fn(ex:Bool)(l:List Rp)(hl:l.length≤900)(ok:∀r∈l,r.ok):Fn Tryz.prog 6 [rsl ex l] [] (.tup [wN ((csL l).sum%WW),vb (!decide (WW≤(csL l).sum))]) []:=by
 have c:=costs_fn ex l hl
 have s:=X1l false (csL l) (by unfold csL;rw[List.length_map];omega) (csL_lt ok)
 generalize decide (WW≤(csL l).sum)=q at *
 generalize (csL l).sum%WW=n at *
 generalize csL l=cs at *
 (refine Q1c Tryz.func6 rfl (by rfl) ?_;simp only[Tryz.ntmps6,List.length_cons,List.length_nil,Nat.reduceAdd,Nat.reduceSub,List.replicate,List.cons_append,List.nil_append])
 (repeat(any_goals(first|((with_reducible refine Q0p ?_ ?_ ?_);rfl;rfl;intro K hK;((first|(apply Q0k (c);rfl;rfl;rfl;rfl;exact Tryz.func18)|(apply Q0k (s);rfl;rfl;rfl;rfl;exact Tryz.func17));kernel_rfl;rfl;(focus((simp only[go_sem]);(try rfl);done));(first|rfl));(simp only[go_sem];refine hK _ ?_;clear hK K))|((with_reducible refine Q0d ?_ ?_);rfl;intro K hK;simp only[go_sem];((repeat(refine ndI (by first|assumption) ?_));refine hK _ ?_;clear hK K))|(with_reducible first|(refine Q0c ?_;refine hR _ ?_;clear hR R)|((first|refine Q0e ?_);intro Ψ hΨ hΨ')|(refine Q0b ?_;intro R hR)|(refine hΨ _ ?_;clear hΨ hΨ' Ψ)|refine Q0l ?_))))
 all_goals(refine⟨by simp,⟨_,?_,AV.le_refl _⟩,Q0i (by simp[leH,hget])⟩;simp only[Tryz.results6,resL,ldA,Q0z,go_sem])
end Go.Proofs.YtbmcdemnnbndeaaGreat
namespace Go.Proofs.YtbmcdemnnbndeaaGreat
open Go.RowKit
open Nat (reduceBEq)
attribute [-go_sem] IntKind.bits
set_option maxRecDepth 20000
set_option maxHeartbeats 2000000
theorem law28b_fn(ex:Bool)(l0':List Rp)(hl0:l0'.length≤maxLen)(ok0:∀r∈l0',r.ok):Fn Tryz.prog 3 [rsl ex l0'] [] (vb true) []:=by
 have wk:=wakesI_fn
 have fw:=few_fn ex l0' hl0
 have hl:(l0'.take 50).length≤900:=by rw[List.length_take];omega
 have ok:∀r∈l0'.take 50,r.ok:=fun r hr=>ok0 r (List.mem_of_mem_take hr)
 generalize l0'.take 50=l at *
 have co:=costsI_fn false l hl ok
 have rc:=gcosts_fn false l (by omega) ok
 have bl:=bills_fn false l hl ok
 have rb:=rbills_fn false l hl ok
 rw[←bills_eq] at rb
 have hbl:(Q4p l).length≤1000:=by
  unfold Q4p
  rw[List.length_map]
  unfold srtI
  rw[List.length_mergeSort,List.length_map]
  have:=(X1f l).1
  omega
 have eq:=equalB_fn (Q4p l) hbl
 generalize Q4p l=B at *
 generalize (csL l).sum=s at *
 have hW:0<WW:=by decide
 have kH:(((s/WW:Nat):Int)==0) = !decide (WW≤s):=by
  by_cases h:WW≤s
  · have:1≤s/WW:=(Nat.one_le_div_iff hW).2 h
    rw[decide_eq_true h]
    generalize s/WW=d at this ⊢
    clear h
    have:d≠0:=by omega
    simpa using this
  · rw[decide_eq_false h,Nat.div_eq_of_lt (by omega)]
    rfl
 unfold gA at rc
 generalize (!decide (WW≤s))=q at *
 generalize s%WW=n at *
 generalize s/WW=d at *
 clear hl hl0 ok0 ok hbl hW
 (refine Q1c Tryz.func3 rfl (by rfl) ?_;simp only[Tryz.ntmps3,List.length_cons,List.length_nil,Nat.reduceAdd,Nat.reduceSub,List.replicate,List.cons_append,List.nil_append])
 (repeat(any_goals(first|((with_reducible refine Q0p ?_ ?_ ?_);rfl;rfl;intro K hK;((first|(apply Q0k (wk);rfl;rfl;rfl;rfl;exact Tryz.func4)|(apply Q0k (fw);rfl;rfl;rfl;rfl;exact Tryz.func5)|(apply Q0k (co);rfl;rfl;rfl;rfl;exact Tryz.func6)|(apply Q0k (rc);rfl;rfl;rfl;rfl;exact Tryz.func7));kernel_rfl;rfl;(focus((simp(disch:=omega) only[go_sem,kH,beq_self_eq_true,Bool.and_self,Bool.not_true]);(try rfl);done));(first|rfl));(simp(disch:=omega) only[go_sem,kH,beq_self_eq_true,Bool.and_self,Bool.not_true];refine hK _ ?_;clear hK K))|((with_reducible refine Q0d ?_ ?_);rfl;intro K hK;simp(disch:=omega) only[go_sem,kH,beq_self_eq_true,Bool.and_self,Bool.not_true];((repeat(refine ndI (by first|assumption|rfl) ?_));refine hK _ ?_;clear hK K))|(with_reducible first|(refine Q0c ?_;refine hR _ ?_;clear hR R)|((first|refine Q0e ?_);intro Ψ hΨ hΨ')|(refine Q0b ?_;intro R hR)|(refine hΨ _ ?_;clear hΨ hΨ' Ψ)|refine Q0h ?_|refine Q0l ?_)|((with_reducible apply Q1i);rfl;rfl;rfl;all_goals(intro hb;first|(cases hb;done)|((try simp only[Bool.not_true,Bool.not_false] at hb);(first|((with_reducible intro K hK);(first|((first|(apply Q0k (fw);rfl;rfl;rfl;rfl;exact Tryz.func5)|(apply Q0k (bl);rfl;rfl;rfl;rfl;exact Tryz.func9)|(apply Q0k (rb);rfl;rfl;rfl;rfl;exact Tryz.func10)|(apply Q0k (eq);rfl;rfl;rfl;rfl;exact Tryz.func8));kernel_rfl;rfl;(focus((simp(disch:=omega) only[go_sem,kH,beq_self_eq_true,Bool.and_self,Bool.not_true]);(try rfl);done));(first|rfl))|skip);simp(disch:=omega) only[go_sem,kH,beq_self_eq_true,Bool.and_self,Bool.not_true];((repeat(refine ndI (by first|assumption|rfl) ?_));refine hK _ ?_;clear hK K))))))|((with_reducible apply Q0f);rfl;rfl;all_goals(intro hc;first|(cases hc;done)|(try simp only at hc))))))
 all_goals(refine⟨by simp,⟨_,?_,AV.le_refl _⟩,Q0i (by simp[leH,hget])⟩;simp only[Tryz.results3,resL,ldA,Q0z,go_sem])
end Go.Proofs.YtbmcdemnnbndeaaGreat
namespace Go.Proofs.YtbmcdemnnbndeaaGreat
open Go.RowKit Go.ChangeShapes Go.WideShapes Go.ChangeAt Go.Deep
section
variable {H:Type} {enc:TypeId×Value→H} {P:Program}
def Dec{α : Type}(P:Program)(t:TypeId)(sz:Nat)(f:α→List Value)(Good:α→Prop):Prop:=
 P.cellsOf t=sz∧∀(H:Type) (enc:TypeId×Value→H) (w:World) (base:Nat) (spare:Nat→Bool) (held:Bool) (fuel:Nat) (cs:List Value) (x:DataW H×List MemPlace),
  DataW.trod enc P w base spare held fuel t cs=some x→∃a,cs=f a∧Good a
theorem dec_int{t:TypeId}{k:IntKind}(ht:P.underlying t=some (.int k))(hc:P.cellsOf t=1):Dec P t 1 (fun n:Int=>[.int k n]) (fun n=>(Lit.int k n).wf=true):=
 ⟨hc,fun H enc w base spare held fuel cs x h=>by
   obtain⟨n,rfl,_,hw⟩:=DataW.trod_int ht h
   exact⟨n,rfl,hw⟩⟩
theorem dec_map{α β : Type}{t:TypeId}{sz:Nat}{f:α→List Value}{G:α→Prop}(h:Dec P t sz f G){f':β→List Value}{G':β→Prop}(hg:∀a,G a→∃b,f a=f' b∧G' b):Dec P t sz f' G':=
 ⟨h.1,fun H enc w base spare held fuel cs x hx=>by
   obtain⟨a,e,g⟩:=h.2 H enc w base spare held fuel cs x hx
   obtain⟨b,e',g'⟩:=hg a g
   exact⟨b,e.trans e',g'⟩⟩
theorem wf_u64{n:Int}(h:(Lit.int .u64 n).wf=true):0≤n∧n<18446744073709551616:=by
 simp[Lit.wf,IntKind.min,IntKind.max,IntKind.signed,IntKind.bits] at h;omega
theorem dec_u64{t:TypeId}(ht:P.underlying t=some (.int .u64))(hc:P.cellsOf t=1):Dec P t 1 (fun n:Nat=>[.int .u64 (n:Int)]) (fun n=>n<18446744073709551616):=
 dec_map (dec_int ht hc) fun n h=>⟨n.toNat,by have:=wf_u64 h;rw[Int.toNat_of_nonneg (by omega)],by have:=wf_u64 h;omega⟩
theorem Q6l{α : Type}{p:Nat→α→Prop}(n:Nat)(h:∀i,i<n→∃b,p i b):∃l:List α,l.length=n∧∀i b,l[i]? = some b→p i b:=by
 induction n with
 |zero=>exact⟨[],rfl,by simp⟩
 |succ k ih=>
  obtain⟨l,hl,hp⟩:=ih fun i hi=>h i (by omega)
  obtain⟨b,hb⟩:=h k (by omega)
  refine⟨l++[b],by simp[hl],fun i b' hib=>?_⟩
  rw[List.getElem?_append] at hib
  split at hib
  · exact hp i b' hib
  · have hi0:i=k:=by
     have:=(List.getElem?_eq_some_iff.1 hib).1
     simp at this;omega
    subst hi0
    rw[hl,Nat.sub_self] at hib
    simp at hib
    subst hib
    exact hb
theorem dec_arr{α : Type}{t e:TypeId}{n sz:Nat}{f:α→List Value}{G:α→Prop}(ht:P.underlying t=some (.array n e))(hc:P.cellsOf t=n*sz)(hs:0<sz)
 (he:Dec P e sz f G) (hf:∀a,(f a).length=sz):Dec P t (n*sz) (sts f) (fun l=>l.length=n∧∀a∈l,G a):=
 ⟨hc,fun H enc w base spare held fuel cs x hx=>by
   obtain⟨xs,m,_,_,hlen,hxl,hi⟩:=DataW.trod_array ht hx
   rw[hc] at hlen
   obtain⟨l,hl,hp⟩:=Q6l (p:=fun i b=>G b∧(cs.drop (i*sz)).take sz=f b) n fun i hin=>by
    have h1:=hi i hin
    rw[he.1,List.getElem?_eq_getElem (by omega)] at h1
    obtain⟨b,hb,hg⟩:=he.2 H enc w base spare held m _ _ h1
    exact⟨b,hg,hb⟩
   refine⟨l,?_,hl,fun a ha=>?_⟩
   · apply List.ext_getElem?
     intro j
     by_cases hj:j<n*sz
     · have hq:j/sz<n:=Nat.div_lt_of_lt_mul (by rw[Nat.mul_comm];exact hj)
       have hr:j%sz<sz:=Nat.mod_lt _ hs
       have hje:j=j/sz*sz+j%sz:=by rw[Nat.mul_comm];exact(Nat.div_add_mod j sz).symm
       have hk:l[j/sz]? = some (l[j/sz]'(by omega)):=List.getElem?_eq_getElem (by omega)
       have h1:=sts_get hf hk hr
       rw[←hje] at h1
       rw[h1,←(hp _ _ hk).2,List.getElem?_take,if_pos hr,List.getElem?_drop,←hje]
     · rw[List.getElem?_eq_none (by omega),List.getElem?_eq_none (by rw[X5r f sz hf,hl];omega)]
   · obtain⟨i,hi'⟩:=List.mem_iff_getElem?.1 ha
     exact(hp i a hi').1⟩
theorem Q6m(hl:laidOutB P=true){W W':World}(hb:Below W.heap.size W W'):∀{ts:List TypeId} {vs:List Value} {ds:List (DataW H)} {ps:List MemPlace},
 (∀t∈ts,P.readableRec t=true∧t<P.types.size)→DataW.TrodAll enc P W 0 (fun _=>true) true ts vs ds ps→DataW.TrodAll enc P W' 0 (fun b=>decide (b<W.heap.size)) true ts vs ds ps
 |[],[],[],_,_,h=>h
 |t::ts,v::vs,d::ds,ps,hr,h=>by
  obtain⟨p,q,⟨m,hm⟩,hq,rfl⟩:=h
  have h1:=hr t (List.mem_cons_self ..)
  exact⟨p,q,Below.trod hl h1.1 h1.2 ⟨m,hm⟩ hb (fun x hx=>DataW.trod_lt m _ _ _ hm x hx),Q6m hl hb (fun t ht=>hr t (List.mem_cons_of_mem _ ht)) hq,rfl⟩
 |[],_::_,_,_,_,h=>h.elim
 |[],[],_::_,_,_,h=>h.elim
 |_::_,[],_,_,_,h=>h.elim
 |_::_,_::_,[],_,_,h=>h.elim
theorem Q7l:∀{w:World} {base:Nat} {spare:Nat→Bool} {held:Bool} {ts:List TypeId} {vs:List Value} {ds:List (DataW H)} {ps:List MemPlace},DataW.TrodAll enc P w base spare held ts vs ds ps→ds.length=ts.length
 |_,_,_,_,[],[],[],_,_=>rfl
 |_,_,_,_,t::ts,v::vs,d::ds,_,h=>by
  obtain⟨p,q,_,hq,_⟩:=h
  simp[Q7l hq]
 |_,_,_,_,[],_::_,_,_,h=>h.elim
 |_,_,_,_,[],[],_::_,_,h=>h.elim
 |_,_,_,_,_::_,[],_,_,h=>h.elim
 |_,_,_,_,_::_,_::_,[],_,h=>h.elim
theorem law_post{W:World}{args:Array Value}{ds gs:List (DataW H)}{before:List MemPlace}{fn:Func}{s:ChangeSpec}{f:Nat}{tb:TypeId}(hl:laidOutB P=true)(hvars:s.vars=[])(htb:P.underlying tb=some .bool)(hrt:fn.resultTypes = #[tb])
 (hr:∀t∈fn.params.toList,P.readableRec t=true∧t<P.types.size) (hfn:∀ds:List (DataW H),ds.length=fn.params.toList.length→s.fn H ds={results:=[.lit (.bool true)],args:=ds})
 (hW:DataW.Whole enc P fn.params.toList s.vars false W args.toList ds gs before) (hc:Calls P f args W (RetT W true)) :
 Calls P f args W fun e W'=>∃v,e = .returned v∧s.post enc P fn false true false false W args v W':=by
 refine hc.mono fun e W' h=>?_
 obtain⟨he,bel⟩:=h
 subst he
 have hW':=hW
 obtain⟨p,q,hA,hV,rfl,hfz,hnd⟩:=hW
 rw[hvars] at hV
 obtain⟨rfl,rfl⟩:=trodVars_none hV
 have hfd:=hfn ds (Q7l hA)
 refine⟨_,rfl,ds,[],p++[],[],p,[],hW',?_,?_,?_,bel.frame _,fun h=>by cases h⟩
 · rw[hrt,List.append_nil,hfd]
   exact trodAll_mk1 (shut_bool htb _)
 · rw[List.append_nil,hfd]
   exact Q6m hl bel hr hA
 · rw[hvars,List.append_nil,hfd]
   rfl
end
end Go.Proofs.YtbmcdemnnbndeaaGreat
namespace Go.Proofs.YtbmcdemnnbndeaaGreat
open Go.RowKit Go.ChangeShapes Go.WideShapes Go.ChangeAt Go.Deep
def DecV{α : Type}(P:Program)(t:TypeId)(sz:Nat)(g:α→List PV)(Good:α→Prop):Prop:=
 P.cellsOf t=sz∧∀(H:Type) (enc:TypeId×Value→H) (w:World) (base:Nat) (spare:Nat→Bool) (held:Bool) (fuel:Nat) (cs:List Value) (x:DataW H×List MemPlace),
  DataW.trod enc P w base spare held fuel t cs=some x→∃a,cs.length=sz∧(g a).length=sz∧(∀(j:Nat) (u:Value) (y:PV),cs[j]? = some u→(g a)[j]? = some y→RVp (fun _=>True) w u y)∧Good a
theorem Dec.toV{α : Type}{P:Program}{t:TypeId}{sz:Nat}{f:α→List Value}{G:α→Prop}(h:Dec P t sz f G)(hf:∀a,(f a).length=sz)(ho:∀a,∀u∈f a,u.oneCell'=true):DecV P t sz (fun a=>(f a).map .v) G:=
 ⟨h.1,fun H enc w base spare held fuel cs x hx=>by
   obtain⟨a,rfl,ga⟩:=h.2 H enc w base spare held fuel cs x hx
   refine⟨a,hf a,by simp[hf],fun j u y hu hy=>?_,ga⟩
   rw[List.getElem?_map,hu] at hy
   cases hy
   exact .v u (ho a u (List.mem_of_getElem? hu))⟩
theorem DecV.map{α β : Type}{P:Program}{t:TypeId}{sz:Nat}{g:α→List PV}{G:α→Prop}(h:DecV P t sz g G){g':β→List PV}{G':β→Prop}(hg:∀a,G a→∃b,g a=g' b∧G' b):DecV P t sz g' G':=
 ⟨h.1,fun H enc w base spare held fuel cs x hx=>by
   obtain⟨a,h1,h2,h3,ga⟩:=h.2 H enc w base spare held fuel cs x hx
   obtain⟨b,e,gb⟩:=hg a ga
   exact⟨b,h1,by rw[←e];exact h2,by rw[←e];exact h3,gb⟩⟩
theorem X6b{α : Type}{P:Program}{t e:TypeId}{sz:Nat}{g:α→List PV}{G:α→Prop}(ht:P.underlying t=some (.slice e))(hc:P.cellsOf t=1)(he:DecV P e sz g G)(hs:0<sz)(hgl:∀a,(g a).length=sz) :
 DecV P t 1 (fun l:List α=>[PV.sl false sz l.length (l.flatMap g)]) (fun l=>l.length≤maxLen∧∀a∈l,G a):=
 ⟨hc,fun H enc w base spare held fuel cs x hx=>by
   rcases DataW.trod_slice ht hx with⟨rfl,_⟩|⟨a,n,c,elems,rest,m,_,rfl,_,_,hl,hm,hel,hi,_,_⟩
   · refine⟨[],rfl,rfl,fun j u y hu hy=>?_,Nat.zero_le _,by simp⟩
     cases j with
     |zero=>
      simp only[List.getElem?_cons_zero,Option.some.injEq] at hu hy
      subst hu hy
      exact .sl false sz none 0 0 [] [] (Nat.le_refl _) (Nat.zero_le _) (fun _=>rfl) (fun h=>by cases h) rfl (by simp) (fun h=>absurd rfl h) fun j u x hu=>by cases hu
     |succ j=>simp at hu
   · have key:∀i,i<n→∃b:α,G b∧∃us:List Value,us.length=sz∧(∀j,j<sz→w.cell? (a.add (i*sz+j))=us[j]?)∧∀(j:Nat) (u:Value) (y:PV),us[j]? = some u→(g b)[j]? = some y→RVp (fun _=>True) w u y:=by
      intro i hin
      have h1:=hi i hin
      rw[List.getElem?_eq_getElem (by omega)] at h1
      obtain⟨us,hcs,htr⟩:=Option.bind_eq_some_iff.1 h1
      rw[he.1] at hcs
      obtain⟨b,hb1,hb2,hb3,hG⟩:=he.2 H enc w base spare held m us _ htr
      obtain⟨_,hcl,hat⟩:=World.cells?_some hcs
      refine⟨b,hG,us,hb1,fun j hj=>?_,hb3⟩
      rw[←Go.Deep.add_add,hat j hj]
     have key2:∃l:List α,l.length=n∧∀i b,l[i]? = some b→G b∧∃us:List Value,us.length=sz∧(∀j,j<sz→w.cell? (a.add (i*sz+j))=us[j]?)∧∀(j:Nat) (u:Value) (y:PV),us[j]? = some u→(g b)[j]? = some y→RVp (fun _=>True) w u y:=
      Q6l (p:=fun i b=>G b∧∃us:List Value,us.length=sz∧(∀j,j<sz→w.cell? (a.add (i*sz+j))=us[j]?)∧∀(j:Nat) (u:Value) (y:PV),us[j]? = some u→(g b)[j]? = some y→RVp (fun _=>True) w u y) n key
     obtain⟨l,hll,hp⟩:=key2
     have hcell:∀j,j<n*sz→∃u,w.cell? (a.add j)=some u∧∀y,(l.flatMap g)[j]? = some y→RVp (fun _=>True) w u y:=fun j hjl=>by
      have hq:j/sz<n:=Nat.div_lt_of_lt_mul (by rw[Nat.mul_comm];exact hjl)
      have hr:j%sz<sz:=Nat.mod_lt _ hs
      have hj:j=j/sz*sz+j%sz:=by rw[Nat.mul_comm];exact(Nat.div_add_mod j sz).symm
      have hk:l[j/sz]? = some (l[j/sz]'(by omega)):=List.getElem?_eq_getElem (by omega)
      obtain⟨_,us,hul,hc1,hrv⟩:=hp _ _ hk
      have h1:=hc1 _ hr
      rw[←hj,List.getElem?_eq_getElem (by omega)] at h1
      refine⟨_,h1,fun y hy=>hrv (j%sz) _ y (List.getElem?_eq_getElem (by omega)) ?_⟩
      have h2:=Q4m hgl hk
      have h3:((l.flatMap g).drop (j/sz*sz)).take sz=g (l[j/sz]'(by omega)):=h2
      rw[←h3,List.getElem?_take,if_pos hr,List.getElem?_drop,←hj]
      exact hy
     have hus:∃us:List Value,us.length=n*sz∧∀j u,us[j]? = some u→w.cell? (a.add j)=some u∧∀y,(l.flatMap g)[j]? = some y→RVp (fun _=>True) w u y:=
      Q6l (p:=fun j u=>w.cell? (a.add j)=some u∧∀y,(l.flatMap g)[j]? = some y→RVp (fun _=>True) w u y) (n*sz) hcell
     obtain⟨us,husl,hu⟩:=hus
     have hfl:(l.flatMap g).length=n*sz:=by rw[Q1e hgl,hll]
     refine⟨l,rfl,rfl,fun j u y hu0 hy=>?_,by omega,fun b hb=>?_⟩
     · cases j with
       |zero=>
        simp only[List.getElem?_cons_zero,Option.some.injEq] at hu0 hy
        subst hu0 hy
        rw[hll]
        refine .sl false sz (some a) n c us _ hl hm (fun h=>by cases h) (fun h=>by cases h) (by rw[husl,hfl]) hfl (fun hne=>?_) fun j u x hj hx=>(hu j u hj).2 x hx
        obtain⟨u0,rest0,hu0⟩:=List.exists_cons_of_ne_nil hne
        have hc0:=(hu 0 u0 (by rw[hu0];rfl)).1
        rw[add_zero'] at hc0
        have hspot:=World.cell?_spot hc0
        obtain⟨ab,ao,asp⟩:=a
        simp only at hspot
        subst hspot
        exact⟨ab,ao,rfl,trivial,fun j u hj=>by have:=(hu j u hj).1;rwa [Q2j] at this⟩
       |succ j=>simp at hu0
     · obtain⟨i,hi'⟩:=List.mem_iff_getElem?.1 hb
       exact(hp i b hi').1⟩
theorem open_V{H:Type}{enc:TypeId×Value→H}{α : Type}{P:Program}{t:TypeId}{g:α→PV}{G:α→Prop}{w:World}{base:Nat}{spare:Nat→Bool}{held:Bool}{v:Value}{d:DataW H}{ps:List MemPlace}(h:DecV P t 1 (fun a=>[g a]) G)(hv:v.cells.toList=[v])(ht:DataW.Trod enc P w base spare held t v d ps)(ι : Nat→Nat×Nat×Nat) :
 ∃a,RV (fun _=>True) ι w v (.c (g a))∧G a:=by
 obtain⟨fuel,ht⟩:=ht
 obtain⟨a,_,_,h3,ga⟩:=h.2 H enc w base spare held fuel _ _ ht
 exact⟨a,.c _ _ (h3 0 v (g a) (by rw[hv];rfl) rfl),ga⟩
theorem decV_int{P:Program}{t:TypeId}{k:IntKind}(ht:P.underlying t=some (.int k))(hc:P.cellsOf t=1):DecV P t 1 (fun n:Int=>[PV.v (.int k n)]) (fun n=>(Lit.int k n).wf=true):=
 ((dec_int ht hc).toV (fun _=>rfl) (fun a u hu=>by simp at hu;subst hu;rfl)).map fun a ga=>⟨a,rfl,ga⟩
theorem X5h{P:Program}{t:TypeId}(ht:P.underlying t=some (.int .u64))(hc:P.cellsOf t=1):DecV P t 1 (fun n:Int=>[PV.v (.int .u64 n)]) (fun n=>0≤n∧n≤18446744073709551615):=
 (decV_int ht hc).map fun a ga=>⟨a,rfl,by have:=wf_u64 ga;omega⟩
theorem decV_w4{P:Program}{t e:TypeId}(ht:P.underlying t=some (.array 4 e))(hc:P.cellsOf t=4*1)(he:P.underlying e=some (.int .u64))(hce:P.cellsOf e=1) :
 DecV P t 4 (fun x:Int×Int×Int×Int=>[PV.v (.int .u64 x.1),.v (.int .u64 x.2.1),.v (.int .u64 x.2.2.1),.v (.int .u64 x.2.2.2)]) (fun x=>(0≤x.1∧x.1≤18446744073709551615)∧(0≤x.2.1∧x.2.1≤18446744073709551615)∧(0≤x.2.2.1∧x.2.2.1≤18446744073709551615)∧(0≤x.2.2.2∧x.2.2.2≤18446744073709551615)):=
 ((dec_map (f':=fun x:Int×Int×Int×Int=>[.int .u64 x.1,.int .u64 x.2.1,.int .u64 x.2.2.1,.int .u64 x.2.2.2]) (G':=fun x=>(0≤x.1∧x.1≤18446744073709551615)∧(0≤x.2.1∧x.2.1≤18446744073709551615)∧(0≤x.2.2.1∧x.2.2.1≤18446744073709551615)∧(0≤x.2.2.2∧x.2.2.2≤18446744073709551615)) (dec_arr (n:=4) ht hc (by omega) (dec_u64 he hce) (fun _=>rfl)) fun l ⟨hl,hg⟩=>by
   match l,hl with
   |[x,y,z,u],_=>
    have h1:=hg x (by simp)
    have h2:=hg y (by simp)
    have h3:=hg z (by simp)
    have h4:=hg u (by simp)
    exact⟨(x,y,z,u),by simp[sts],⟨by simp only;omega,by simp only;omega⟩,⟨by simp only;omega,by simp only;omega⟩,⟨by simp only;omega,by simp only;omega⟩,⟨by simp only;omega,by simp only;omega⟩⟩).toV (fun _=>rfl) (fun a u hu=>by simp at hu;rcases hu with rfl|rfl|rfl|rfl<;>rfl)).map fun a ga=>⟨a,rfl,ga⟩
open Go.RowKit Go.ChangeShapes Go.WideShapes Go.ChangeAt Go.Deep
def DecF{α : Type}(P:Program)(fs:List Field)(o sz:Nat)(g:α→List PV)(Good:α→Prop):Prop:=
 ∀(H:Type) (enc:TypeId×Value→H) (w:World) (base:Nat) (spare:Nat→Bool) (held:Bool) (fuel:Nat) (cs:List Value),o+sz≤cs.length →
  (∀f∈fs,∃x:DataW H×List MemPlace,DataW.trod enc P w base spare held fuel f.type ((cs.drop f.offset).take (P.cellsOf f.type))=some x) →
  ∃a,(g a).length=sz∧(∀(j:Nat) (u:Value) (y:PV),cs[o+j]? = some u→(g a)[j]? = some y→RVp (fun _=>True) w u y)∧Good a
theorem X5i{α : Type}{P:Program}{f:Field}{o sz:Nat}{g:α→List PV}{G:α→Prop}(h:DecV P f.type sz g G)(ho:f.offset=o):DecF P [f] o sz g G:=by
 intro H enc w base spare held fuel cs hlen hf
 obtain⟨x,hx⟩:=hf f (by simp)
 rw[ho,h.1] at hx
 obtain⟨a,a1,a2,a3,ga⟩:=h.2 H enc w base spare held fuel _ _ hx
 refine⟨a,a2,fun j u y hu hy=>a3 j u y ?_ hy,ga⟩
 have hj:=(List.getElem?_eq_some_iff.1 hy).1
 rw[List.getElem?_take,if_pos (by omega),List.getElem?_drop]
 exact hu
theorem Q5v{α β : Type}{P:Program}{f:Field}{fs:List Field}{o s0 s1:Nat}{g:α→List PV}{g':β→List PV}{G:α→Prop}{G':β→Prop}(h:DecV P f.type s0 g G)(ho:f.offset=o)(hr:DecF P fs (o+s0) s1 g' G') :
 DecF P (f::fs) o (s0+s1) (fun x:α×β=>g x.1++g' x.2) (fun x=>G x.1∧G' x.2):=by
 intro H enc w base spare held fuel cs hlen hf
 obtain⟨a,a2,a3,ga⟩:=X5i h ho H enc w base spare held fuel cs (by omega) (fun f' hf'=>hf f' (by simp at hf';simp[hf']))
 obtain⟨b,b2,b3,gb⟩:=hr H enc w base spare held fuel cs (by omega) (fun f' hf'=>hf f' (by simp[hf']))
 refine⟨(a,b),by simp[a2,b2],fun j u y hu hy=>?_,ga,gb⟩
 dsimp only at hy
 rw[List.getElem?_append] at hy
 split at hy
 · exact a3 j u y hu hy
 · exact b3 (j-(g a).length) u y (by rw[a2,show o+s0+(j-s0)=o+j by omega];exact hu) hy
theorem X4e{α : Type}{P:Program}{t:TypeId}{fs:Array Field}{sz:Nat}{g:α→List PV}{G:α→Prop}(ht:P.underlying t=some (.struct fs))(hc:P.cellsOf t=sz)(h:DecF P fs.toList 0 sz g G):DecV P t sz g G:=
 ⟨hc,fun H enc w base spare held fuel cs x hx=>by
   obtain⟨xs,n,_,_,hlen,hxl,hf⟩:=DataW.trod_struct ht hx
   rw[hc] at hlen
   obtain⟨a,a2,a3,ga⟩:=h H enc w base spare held n cs (by omega) (fun f hf'=>by
    obtain⟨k,hk⟩:=List.mem_iff_getElem?.1 hf'
    have hk':fs[k]? = some f:=by rw[←Array.getElem?_toList];exact hk
    have h1:=hf k f hk'
    have hlt:=(Array.getElem?_eq_some_iff.1 hk').1
    rw[List.getElem?_eq_getElem (by omega)] at h1
    exact⟨_,h1⟩)
   exact⟨a,hlen,a2,fun j u y hu hy=>a3 j u y (by rw[Nat.zero_add];exact hu) hy,ga⟩⟩
end Go.Proofs.YtbmcdemnnbndeaaGreat
namespace Go.Proofs.YtbmcdemnnbndeaaGreat
open Go.RowKit
set_option maxRecDepth 20000
set_option maxHeartbeats 2000000
def w1:List Ac:=[⟨20,7,0,[],[]⟩]
def w2:List Ac:=[⟨20,4,0,[],[]⟩,⟨21,3,0,[],[]⟩]
def w3:List Ac:=[⟨20,4,0,[],[]⟩,⟨21,3,0,[],[⟨5,9⟩]⟩]
theorem k0:Okl []:=⟨Nat.zero_le _,fun x h=>by cases h⟩
theorem word_of{a b c d:Int}(ha:0≤a∧a≤18446744073709551615)(hb:0≤b∧b≤18446744073709551615)(hc:0≤c∧c≤18446744073709551615)(hd:0≤d∧d≤18446744073709551615):∃n:Nat,n<WW∧l0 n=a∧l1 n=b∧l2 n=c∧l3 n=d:=by
 refine⟨a.toNat+18446744073709551616*(b.toNat+18446744073709551616*(c.toNat+18446744073709551616*d.toNat)),?_,?_⟩
 · show _<115792089237316195423570985008687907853269984665640564039457584007913129639936
   omega
 · obtain⟨h0,h1,h2,h3⟩:=Q7y (s0:=a.toNat) (s1:=b.toNat) (s2:=c.toNat) (s3:=d.toNat) rfl (by omega) (by omega) (by omega) (by omega)
   rw[h0,h1,h2,h3]
   exact⟨Int.toNat_of_nonneg ha.1,Int.toNat_of_nonneg hb.1,Int.toNat_of_nonneg hc.1,Int.toNat_of_nonneg hd.1⟩
theorem X2x:DecV Tryz.prog 27 4 wpv (fun n=>n<WW):=
 (decV_w4 Tryz.underlying27 (by kernel_rfl) Tryz.underlying25 (by kernel_rfl)).map fun x hx=>by
   obtain⟨n,hn,h0,h1,h2,h3⟩:=word_of hx.1 hx.2.1 hx.2.2.1 hx.2.2.2
   exact⟨n,by unfold wpv;rw[h0,h1,h2,h3],hn⟩
theorem decV_addr:DecV Tryz.prog 35 1 (fun n:Int=>[PV.v (.int .u64 n)]) U:=(X5h Tryz.underlying35 (by kernel_rfl)).map fun a ga=>⟨a,rfl,ga⟩
theorem decV_num:DecV Tryz.prog 25 1 (fun n:Int=>[PV.v (.int .u64 n)]) U:=(X5h Tryz.underlying25 (by kernel_rfl)).map fun a ga=>⟨a,rfl,ga⟩
end Go.Proofs.YtbmcdemnnbndeaaGreat
namespace Go.Proofs.YtbmcdemnnbndeaaGreat
open Go.RowKit
set_option maxRecDepth 20000
set_option maxHeartbeats 4000000
theorem X2y{P:Program}{t:TypeId}(ht:P.underlying t=some .bool)(hc:P.cellsOf t=1):DecV P t 1 (fun b:Bool=>[PV.v (.bool b)]) (fun _=>True):=
 ⟨hc,fun H enc w base spare held fuel cs x h=>by
   obtain⟨b,rfl,_⟩:=DataW.trod_bool ht h
   refine⟨b,rfl,rfl,fun j u y hu hy=>?_,trivial⟩
   match j with
   |0=>cases hu;cases hy;exact .v _ rfl
   |j+1=>simp at hu⟩
end Go.Proofs.YtbmcdemnnbndeaaGreat
namespace Go.Proofs.YtbmcdemnnbndeaaGreat
open Go.RowKit
set_option maxRecDepth 20000
set_option maxHeartbeats 4000000
theorem decVR:DecV Tryz.prog 59 12 Rp.pv Rp.ok:=
 (X4e (sz:=1+(4+(4+(1+(1+1))))) Tryz.underlying59 (by kernel_rfl) (Q5v decV_addr rfl (Q5v X2x rfl (Q5v X2x rfl (Q5v decV_num rfl (Q5v (X2y Tryz.underlying4 (by kernel_rfl)) rfl (X5i (X2y Tryz.underlying4 (by kernel_rfl)) rfl))))))).map fun x hx=>⟨⟨x.1,x.2.1,x.2.2.1,x.2.2.2.1,x.2.2.2.2.1,x.2.2.2.2.2⟩,rfl,hx.1,hx.2.1,hx.2.2.1,hx.2.2.2.1⟩
theorem decVRs:DecV Tryz.prog 22 1 (fun l:List Rp=>[rpV l]) (fun l=>l.length≤maxLen∧∀r∈l,r.ok):=
 X6b Tryz.underlying22 (by kernel_rfl) decVR (by omega) X1q
end Go.Proofs.YtbmcdemnnbndeaaGreat
namespace Go.Proofs.YtbmcdemnnbndeaaGreat
open Go.RowKit
theorem law_bills{l:List Rp}{v0:Value}{W:World}(h0:RV (fun _=>True) (fun _=>(0,0,0)) W v0 (rsl false l))(g0:l.length≤maxLen∧∀r∈l,r.ok):Calls Tryz.prog 3 #[v0] W (RetT W true):=by
 refine Fn.law (law28b_fn false l g0.1 g0.2) (vs:=[_]) rfl fun j v x hj hx=>?_
 rcases j with _|j
 · cases hj;cases hx;exact h0
 · simp at hj
end Go.Proofs.YtbmcdemnnbndeaaGreat
namespace Go.Proofs.YtbmcdemnnbndeaaGreat.idealBillsDone
open Go.RowKit Go.ChangeShapes Go.WideShapes Go.ChangeAt
theorem own:ownKnob Tryz.prog.godebug=none:=by kernel_rfl
theorem laidOut:laidOutB Tryz.prog=true:=by kernel_rfl
theorem reads:∀t∈Tryz.f3.params.toList,Tryz.prog.readableRec t=true∧t<Tryz.prog.types.size:=by
 rw[Tryz.params3]
 intro t ht
 simp only[List.mem_cons,List.not_mem_nil,or_false] at ht
 subst ht
 · exact⟨by kernel_rfl,of_decide_eq_true (by kernel_rfl)⟩
set_option maxRecDepth 100000 in
theorem lifted(os:Os)(started:os.Started)(H:Type)(enc:TypeId×Value→H) :
 ReturnsInHanded {} Tryz.checked os 3 .any (Rows.idealBillsSpec.pre6 enc Tryz.prog Tryz.f3 Rows.idealBillsRow.domain false) (Rows.idealBillsSpec.post enc Tryz.prog Tryz.f3 false true false false):=by
 refine returnsInHanded_of_change (C:=Tryz.checked) own started (by kernel_rfl) Tryz.func3
  (ChangeSpec.witness6 (enc:=enc) (C:=Tryz.checked) false ⟨#[],#[.slice none 0 0],[]⟩ 8 (by kernel_rfl) (by kernel_rfl) (by kernel_rfl) (by kernel_rfl)) ?_
 intro W base args ds gs before hval0 hW hcnd _
 have hval:∀(j:Nat) t v,Tryz.f3.params[j]? = some t→args[j]? = some v→Value.okWide Tryz.prog W .any base t v:=hval0
 refine law_post (P:=Tryz.prog) laidOut rfl Tryz.underlying4 rfl reads (fun ds hds=>by
  match ds,hds with
  |[d1],_=>rfl) hW ?_
 obtain⟨p,q,hA0,hV,rfl,hfz,hnd⟩:=hW
 have hA:DataW.TrodAll enc Tryz.prog W 0 (fun _=>true) true Tryz.f3.params.toList args.toList ds p:=hA0
 rw[Tryz.params3] at hA hval
 obtain⟨v0,vs0,d0,ds0,p0,q0,hargs,rfl,rfl,h0,r0⟩:=trodAll_cons hA
 obtain⟨rfl,rfl,rfl⟩:=trodAll_nil r0
 obtain rfl:args = #[v0]:=by cases args;simp_all
 obtain⟨a0,n0,c0,rfl⟩:=okWide_slice Tryz.underlying22 (hval 0 22 v0 rfl rfl)
 obtain⟨l0,hr0,hg0⟩:=open_V decVRs rfl h0 (fun _=>(0,0,0))
 exact law_bills hr0 hg0
theorem over:Rows.idealBillsRow.holds Tryz.pinned (OpenSpec.ofChange Rows.idealBillsSpec):=
 OpenClaim.holds_of_wide 3 Tryz.f3 rfl rfl rfl rfl rfl rfl rfl ⟨rfl,rfl,rfl,rfl,rfl⟩ rfl rfl rfl rfl rfl (by kernel_rfl) Tryz.func3 (by kernel_rfl)
  (of_decide_eq_true (by kernel_rfl)) (by unfold Func.isWrapper;first|(rw[if_pos (by decide +kernel)];kernel_rfl)|(rw[if_neg (by decide +kernel)];exact⟨rfl,rfl⟩))
  (fun os started H enc _=>lifted os started H enc)
theorem proved:Rows.IdealBillsSaid:=over
end Go.Proofs.YtbmcdemnnbndeaaGreat.idealBillsDone
