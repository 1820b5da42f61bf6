/-
  Bills, one by one and together. Plain.
-/
import Derived.Test.YtbmcdemnnbndeaaIj
import Derived.Test.YtbmcdemnnbndeaaAvIt
import Derived.Test.YtbmcdemnnbndeaaPqf
namespace Go.Proofs.Ytbmcdemnnbndeaa
set_option linter.unusedSimpArgs false
set_option linter.unusedVariables false
section
open Go.RowKit
open Nat (reduceBEq)
set_option maxRecDepth 20000
set_option maxHeartbeats 2000000
structure Tn where
 w:Wl
 v:Wl
 r:List Rp
 f:Int
 m:Nat
 b:Nat
structure Tn.ok (t:Tn):Prop where
 w:t.w.ok
 v:t.v.ok
 r:t.r.length≤900∧∀x∈t.r,x.ok
 f:U t.f
 m:t.m<WW
 b:t.b<WW
def Tn.pv(t:Tn):List PV:=[acV t.w.S,hdV t.w.L,noV t.w.N,acV t.v.S,hdV t.v.L,noV t.v.N,rpV t.r,.v (.int .u64 t.f),.v (.int .u64 (l0 t.m)),.v (.int .u64 (l1 t.m)),.v (.int .u64 (l2 t.m)),.v (.int .u64 (l3 t.m)),.v (.int .u64 (l0 t.b)),.v (.int .u64 (l1 t.b)),.v (.int .u64 (l2 t.b)),.v (.int .u64 (l3 t.b))]
abbrev tnA(t:Tn):AV:=.agg [.c (acV t.w.S),.c (hdV t.w.L),.c (noV t.w.N),.c (acV t.v.S),.c (hdV t.v.L),.c (noV t.v.N),.c (rpV t.r),vi .u64 t.f,vi .u64 (l0 t.m),vi .u64 (l1 t.m),vi .u64 (l2 t.m),vi .u64 (l3 t.m),vi .u64 (l0 t.b),vi .u64 (l1 t.b),vi .u64 (l2 t.b),vi .u64 (l3 t.b)]
def brkE(t:Tn):Bool:=decide (hasN t.v+Q3e t.w<hasN t.w+Q3e t.v)
def brkS(t:Tn):Bool:=!decide (Q2i t.v+t.b=Q2i t.w+t.m)
def brkC(t:Tn):Bool:=t.r.any fun r=>decide (r.h<r.c)
def balN(w:Wl)(a:Int):Nat:=(OfS w.S a).b
def brkF(t:Tn):Bool:=!decide (t.f=0)&&(decide (WW≤(csL t.r++[balN t.w t.f]).sum)||decide (balN t.v t.f<(csL t.r++[balN t.w t.f]).sum%WW))
theorem two_eq(w:World)(p q:Bool)(a b c d a' b' c' d':Int):(Op.equal 77 (.agg #[.bool p,.int .u64 a,.int .u64 b,.int .u64 c,.int .u64 d]) (.agg #[.bool q,.int .u64 a',.int .u64 b',.int .u64 c',.int .u64 d'])).run Try.prog w = .ok (p==q&&(a==a'&&(b==b'&&(c==c'&&d==d')))) w:=by
 have h1:=fun w=>run_equalIn_agg (P:=Try.prog) w 9999 77 #[.bool p,.int .u64 a,.int .u64 b,.int .u64 c,.int .u64 d] #[.bool q,.int .u64 a',.int .u64 b',.int .u64 c',.int .u64 d'] (by kernel_rfl) (by kernel_rfl)
 have h2:Op.maxDepth=9999+1:=rfl
 unfold Op.equal
 rw[h2,h1]
 obtain⟨f1,f2,h3,h4,h5,h6,h7,h8,h9⟩:∃f1 f2:Field,(Try.prog.fieldsOf 77).toList=[f1,f2]∧f1.type=4∧f2.type=30∧f1.offset=0∧f2.offset=1∧f1.name = "over"∧f2.name = "rest":=
  ⟨(Try.prog.fieldsOf 77).toList.head!,(Try.prog.fieldsOf 77).toList.tail.head!,by kernel_rfl,by kernel_rfl,by kernel_rfl,by kernel_rfl,by kernel_rfl,by kernel_rfl,by kernel_rfl⟩
 have hw:=(X0v (P:=Try.prog) 3 30 (by kernel_rfl) 9996 4 true w [.int .u64 a,.int .u64 b,.int .u64 c,.int .u64 d] [.int .u64 a',.int .u64 b',.int .u64 c',.int .u64 d'] (a==a'&&(b==b'&&(c==c'&&d==d'))) (by kernel_rfl) (by kernel_rfl) rfl rfl (by simp[eqVs])).1
 have hb:=run_equalIn_bool (P:=Try.prog) w 9998 4 p q (by kernel_rfl)
 simp only[vOf,if_true,Nat.reduceAdd] at hw hb
 generalize (a==a'&&(b==b'&&(c==c'&&d==d')))=r at hw ⊢
 rw[h3]
 simp[h4,h5,h6,h7,h8,h9,hw,hb,go_sem]
 by_cases e:p=q<;>cases r<;>simp[e]
theorem two_op{σ : St}{o:Oper}{x y:Operand}{p q:Bool}{a b c d a' b' c' d':Int}(ho:o.op = .binOp .neq 77 x y 77)(hx:Q0v x=true)(hy:Q0v y=true)
 (h1:σ.ev x = .agg [vb p,vi .u64 a,vi .u64 b,vi .u64 c,vi .u64 d]) (h2:σ.ev y = .agg [vb q,vi .u64 a',vi .u64 b',vi .u64 c',vi .u64 d']):OpF Try.prog o σ.ev (hget σ.H) (vb (!(p==q&&(a==a'&&(b==b'&&(c==c'&&d==d')))))) [] []:=fun τ hA _=>by
 have e1:τ.ev x = σ.ev x:=hA x (by rw[ho];simp[Op.operands])
 have e2:τ.ev y = σ.ev y:=hA y (by rw[ho];simp[Op.operands])
 refine Q1y _ (by cases o.dst<;>rfl) fun E ι s w h=>?_
 have hxv:=h.ev x hx
 rw[e1,h1] at hxv
 have hyv:=h.ev y hy
 rw[e2,h2] at hyv
 have g1:=RV.vals (xs:=[.bool p,.int .u64 a,.int .u64 b,.int .u64 c,.int .u64 d]) hxv
 have g2:=RV.vals (xs:=[.bool q,.int .u64 a',.int .u64 b',.int .u64 c',.int .u64 d']) hyv
 refine⟨_,?_,Q2n _ rfl⟩
 have hguard:∀x' y',(eqGuard .neq 77 x' y' (s.eval x) (s.eval y)).run Try.prog w = .ok () w:=by
  intro x' y'
  rw[g1,g2]
  unfold eqGuard
  have hgu:Try.prog.eqGuardType Try.prog.depth 77=false:=by kernel_rfl
  simp[hgu]
 have g3:binOp .neq 77 (s.eval x) (s.eval y)=(do pure (.bool (!(←Op.equal 77 (s.eval x) (s.eval y))))):=by rw[g1,g2];rfl
 have heq:=two_eq w p q a b c d a' b' c' d'
 simp only[execOp,ho,Sem.run_bind,hguard,Result.andThen_ok,g3,Sem.run_pure]
 rw[g1,g2]
 simp only[heq,Sem.run_bind,Result.andThen_ok,Sem.run_pure]
theorem brk1_fn(t:Tn)(ht:t.ok):Fn Try.prog 25 [.ep t.pv] [] (vb (brkE t)) []:=by
 have f1:=has_fn t.v ht.v
 have f2:=X3f t.w ht.w
 have f3:=has_fn t.w ht.w
 have f4:=X3f t.v ht.v
 have g1:=X1b (hasN t.v) (Q3e t.w) (Q7i ht.v) (Q6q _)
 have g2:=X1b (hasN t.w) (Q3e t.v) (Q7i ht.w) (Q6q _)
 have b1:=Q7i ht.v
 have b2:=Q6q t.w
 have b3:=Q7i ht.w
 have b4:=Q6q t.v
 have g3:=lessT_fn (hasN t.v+Q3e t.w) (hasN t.w+Q3e t.v) (by omega) (by omega)
 clear b1 b2 b3 b4
 unfold brkE
 generalize decide (hasN t.v+Q3e t.w<hasN t.w+Q3e t.v)=q at g3 ⊢
 unfold twA at g1 g2 g3
 generalize decide (WW≤hasN t.v+Q3e t.w)=q1 at g1 g3
 generalize (hasN t.v+Q3e t.w)%WW=m1 at g1 g3
 generalize decide (WW≤hasN t.w+Q3e t.v)=q2 at g2 g3
 generalize (hasN t.w+Q3e t.v)%WW=m2 at g2 g3
 generalize hasN t.v=n1 at f1 g1
 generalize Q3e t.w=n2 at f2 g1
 generalize hasN t.w=n3 at f3 g2
 generalize Q3e t.v=n4 at f4 g2
 unfold Tn.pv
 (refine Q1q Try.func25 rfl (by rfl) ?_;simp only[Try.ntmps25,List.length_cons,List.length_nil,Nat.reduceAdd,Nat.reduceSub,List.replicate,List.cons_append,List.nil_append])
 (repeat(any_goals(first|((with_reducible refine Q0g ?_ ?_);rfl;intro K hK;simp only[go_sem];((repeat(refine ndI (by first|assumption|omega|rfl) ?_));refine hK _ ?_;clear hK K))|(with_reducible first|(refine Q0i ?_;refine hR _ ?_;clear hR R)|((first|refine Q0h ?_|refine Q0c ?_);intro Ψ hΨ hΨ')|(refine Q0b ?_;intro R hR)|(refine hΨ _ ?_;clear hΨ hΨ' Ψ)|refine Q0d ?_|refine Q0j ?_|refine Q0e ?_)|((with_reducible refine hΨ' _ _ ?_ ?_);(focus(simp;done));clear hΨ hΨ' Ψ)|((with_reducible apply Q0f);rfl;rfl;all_goals(intro hc;first|(cases hc;done)|(try simp only at hc)))|((with_reducible refine Q0t ?_ ?_);kernel_rfl;(with_reducible refine hR _ ?_);clear hR R)|((first|((with_reducible apply Q1m);rfl;rfl;(first|((apply Q1g (g3);rfl;rfl;rfl;rfl;exact Try.func26);kernel_rfl;rfl;(focus((simp only[go_sem]);(try rfl);done));(first|rfl|simp[AV.inNL,AV.inN]))|((apply Q1g (f1);rfl;rfl;rfl;rfl;exact Try.func22);kernel_rfl;rfl;(focus((simp only[go_sem]);(try rfl);done));(first|rfl|simp[AV.inNL,AV.inN]))|((apply Q1g (f2);rfl;rfl;rfl;rfl;exact Try.func23);kernel_rfl;rfl;(focus((simp only[go_sem]);(try rfl);done));(first|rfl|simp[AV.inNL,AV.inN]))|((apply Q1g (f3);rfl;rfl;rfl;rfl;exact Try.func22);kernel_rfl;rfl;(focus((simp only[go_sem]);(try rfl);done));(first|rfl|simp[AV.inNL,AV.inN]))|((apply Q1g (f4);rfl;rfl;rfl;rfl;exact Try.func23);kernel_rfl;rfl;(focus((simp only[go_sem]);(try rfl);done));(first|rfl|simp[AV.inNL,AV.inN]))|((apply Q1g (g1);rfl;rfl;rfl;rfl;exact Try.func27);kernel_rfl;rfl;(focus((simp only[go_sem]);(try rfl);done));(first|rfl|simp[AV.inNL,AV.inN]))|((apply Q1g (g2);rfl;rfl;rfl;rfl;exact Try.func27);kernel_rfl;rfl;(focus((simp only[go_sem]);(try rfl);done));(first|rfl|simp[AV.inNL,AV.inN]))))|((with_reducible apply Q0u);rfl;rfl;(simp only[rdE,rdOf,go_sem];rfl);(intro τ hA hQ hN;((try simp only[Q1h,Op.operands,Call.operands,go_sem,List.mem_cons,List.not_mem_nil,forall_eq_or_imp,forall_eq,List.append_toArray,Option.toArray] at hA);(try simp only[go_sem,List.mem_cons,List.not_mem_nil,forall_eq_or_imp,forall_eq] at hQ hN);(first|(revert hA;intro hA)|have hA:=trivial);(first|(revert hQ;intro hQ)|have hQ:=trivial);(first|(revert hN;intro hN)|have hN:=trivial);simp only[go_sem,hA,hQ,hN];(repeat(refine ndI (by first|assumption|omega|rfl) ?_));(first|apply Q1b|apply Q1a|apply Q0w)))));(simp only[St.eff,setO,Q0q,go_sem]))|((with_reducible refine Q0p ?_ ?_ ?_ ?_);kernel_rfl;kernel_rfl;(first|kernel_rfl|simp[Q0m,Q1j,St.free,Q1i,AV.refsL,AV.refs]);intro R hR))))
 all_goals(refine⟨by simp,⟨_,?_,AV.le_refl _⟩,Q0y (by simp[leH,hget])⟩;simp only[Try.results25,resL,ldA,Q1o,go_sem])
theorem brk2_fn(t:Tn)(ht:t.ok):Fn Try.prog 28 [.ep t.pv] [] (vb (brkS t)) []:=by
 have f1:=Q8d t.v ht.v
 have f2:=Q8d t.w ht.w
 have g1:=X1b (Q2i t.v) t.b (Q6b _) ht.b
 have g2:=X1b (Q2i t.w) t.m (Q6b _) ht.m
 have e:(!(decide (WW≤Q2i t.v+t.b)==decide (WW≤Q2i t.w+t.m)&&(l0 ((Q2i t.v+t.b)%WW)==l0 ((Q2i t.w+t.m)%WW)&&(l1 ((Q2i t.v+t.b)%WW)==l1 ((Q2i t.w+t.m)%WW)&&(l2 ((Q2i t.v+t.b)%WW)==l2 ((Q2i t.w+t.m)%WW)&&l3 ((Q2i t.v+t.b)%WW)==l3 ((Q2i t.w+t.m)%WW))))))=brkS t:=by
  unfold brkS
  congr 1
  rw[wN_eq (Nat.mod_lt _ (by decide)) (Nat.mod_lt _ (by decide))]
  have h1:=Q6b t.v
  have h2:=Q6b t.w
  have h3:=ht.b
  have h4:=ht.m
  generalize Q2i t.v=a at *
  generalize Q2i t.w=b at *
  generalize t.b=c at *
  generalize t.m=d at *
  have hW:0<WW:=by decide
  generalize WW=W at *
  have m0:∀x,x<2*W→(W≤x∧x%W=x-W)∨(¬W≤x∧x%W=x):=fun x hx=>by
   by_cases h:W≤x
   · exact .inl ⟨h,by rw[Nat.mod_eq_sub_mod h,Nat.mod_eq_of_lt (by omega)]⟩
   · exact .inr ⟨h,Nat.mod_eq_of_lt (by omega)⟩
  rw[Bool.eq_iff_iff,Bool.and_eq_true,beq_iff_eq,decide_eq_decide,decide_eq_true_eq,decide_eq_true_eq]
  rcases m0 (a+c) (by omega) with⟨h5,m1⟩|⟨h5,m1⟩<;>rcases m0 (b+d) (by omega) with⟨h6,m2⟩|⟨h6,m2⟩<;>rw[m1,m2]<;>exact⟨fun ⟨h7,h8⟩=>by omega,fun h7=>⟨by omega,by omega⟩⟩
 generalize brkS t=q at e ⊢
 unfold twA at g1 g2
 generalize decide (WW≤Q2i t.v+t.b)=q1 at g1 e
 generalize (Q2i t.v+t.b)%WW=m1 at g1 e
 generalize decide (WW≤Q2i t.w+t.m)=q2 at g2 e
 generalize (Q2i t.w+t.m)%WW=m2 at g2 e
 generalize Q2i t.v=n1 at f1 g1
 generalize Q2i t.w=n2 at f2 g2
 unfold Tn.pv
 (refine Q1q Try.func28 rfl (by rfl) ?_;simp only[Try.ntmps28,List.length_cons,List.length_nil,Nat.reduceAdd,Nat.reduceSub,List.replicate,List.cons_append,List.nil_append])
 (repeat(any_goals(first|((with_reducible refine Q0g ?_ ?_);rfl;intro K hK;simp only[go_sem,e];((repeat(refine ndI (by first|assumption|omega|rfl) ?_));refine hK _ ?_;clear hK K))|(with_reducible first|(refine Q0i ?_;refine hR _ ?_;clear hR R)|((first|refine Q0h ?_|refine Q0c ?_);intro Ψ hΨ hΨ')|(refine Q0b ?_;intro R hR)|(refine hΨ _ ?_;clear hΨ hΨ' Ψ)|refine Q0d ?_|refine Q0j ?_|refine Q0e ?_)|((with_reducible refine hΨ' _ _ ?_ ?_);(focus(simp;done));clear hΨ hΨ' Ψ)|((with_reducible apply Q0f);rfl;rfl;all_goals(intro hc;first|(cases hc;done)|(try simp only at hc)))|((with_reducible refine Q0t ?_ ?_);kernel_rfl;(with_reducible refine hR _ ?_);clear hR R)|((first|((with_reducible apply X3s);rfl;(apply two_op;rfl;rfl;rfl;rfl;rfl))|((with_reducible apply Q1m);rfl;rfl;(first|((apply Q1g (f1);rfl;rfl;rfl;rfl;exact Try.func13);kernel_rfl;rfl;(focus((simp only[go_sem,e]);(try rfl);done));(first|rfl|simp[AV.inNL,AV.inN]))|((apply Q1g (f2);rfl;rfl;rfl;rfl;exact Try.func13);kernel_rfl;rfl;(focus((simp only[go_sem,e]);(try rfl);done));(first|rfl|simp[AV.inNL,AV.inN]))|((apply Q1g (g1);rfl;rfl;rfl;rfl;exact Try.func27);kernel_rfl;rfl;(focus((simp only[go_sem,e]);(try rfl);done));(first|rfl|simp[AV.inNL,AV.inN]))|((apply Q1g (g2);rfl;rfl;rfl;rfl;exact Try.func27);kernel_rfl;rfl;(focus((simp only[go_sem,e]);(try rfl);done));(first|rfl|simp[AV.inNL,AV.inN]))))|((with_reducible apply Q0u);rfl;rfl;(simp only[rdE,rdOf,go_sem,e];rfl);(intro τ hA hQ hN;((try simp only[Q1h,Op.operands,Call.operands,go_sem,e,go_sem,List.mem_cons,List.not_mem_nil,forall_eq_or_imp,forall_eq,List.append_toArray,Option.toArray] at hA);(try simp only[go_sem,e,List.mem_cons,List.not_mem_nil,forall_eq_or_imp,forall_eq] at hQ hN);(first|(revert hA;intro hA)|have hA:=trivial);(first|(revert hQ;intro hQ)|have hQ:=trivial);(first|(revert hN;intro hN)|have hN:=trivial);simp only[go_sem,e,go_sem,hA,hQ,hN];(repeat(refine ndI (by first|assumption|omega|rfl) ?_));(first|apply Q1b|apply Q1a|apply Q0w)))));(simp only[St.eff,setO,Q0q,go_sem,e]))|((with_reducible refine Q0p ?_ ?_ ?_ ?_);kernel_rfl;kernel_rfl;(first|kernel_rfl|simp[Q0m,Q1j,St.free,Q1i,AV.refsL,AV.refs]);intro R hR))))
 all_goals(refine⟨by simp,⟨_,?_,AV.le_refl _⟩,Q0y (by simp[leH,hget])⟩;simp only[Try.results28,resL,ldA,Q1o,go_sem])
theorem dear_fn(r:Rp)(hr:r.ok):Fn Try.prog 31 [rpA r] [] (vb (decide (r.h<r.c))) []:=by
 have f:=X4y r.c r.h hr.2.2.1 hr.2.1
 have e:decide ((if r.c<r.h then(-1:Int) else if r.h<r.c then 1 else 0)>0)=decide (r.h<r.c):=by
  refine decide_eq_decide.2 ?_
  repeat' split
  all_goals omega
 generalize (if r.c<r.h then(-1:Int) else if r.h<r.c then 1 else 0)=z at f e
 rw[←e]
 (refine Q1q Try.func31 rfl (by rfl) ?_;simp only[Try.ntmps31,List.length_cons,List.length_nil,Nat.reduceAdd,Nat.reduceSub,List.replicate,List.cons_append,List.nil_append])
 (repeat(any_goals(first|((with_reducible refine Q1d ?_ ?_ ?_);rfl;rfl;intro K hK;((apply Q0x (f);rfl;rfl;rfl;rfl;exact Try.func32);kernel_rfl;rfl;(focus((simp only[go_sem]);(try rfl);done));(first|rfl|simp[AV.inNL,AV.inN]));(simp only[go_sem];refine hK _ ?_;clear hK K))|((with_reducible refine Q0g ?_ ?_);rfl;intro K hK;simp only[go_sem];((repeat(refine ndI (by first|assumption|omega|rfl) ?_));refine hK _ ?_;clear hK K))|(with_reducible first|(refine Q0i ?_;refine hR _ ?_;clear hR R)|((first|refine Q0h ?_|refine Q0c ?_);intro Ψ hΨ hΨ')|(refine Q0b ?_;intro R hR)|(refine hΨ _ ?_;clear hΨ hΨ' Ψ)|refine Q0d ?_|refine Q0j ?_|refine Q0e ?_)|((with_reducible refine hΨ' _ _ ?_ ?_);(focus(simp;done));clear hΨ hΨ' Ψ)|((with_reducible apply Q0f);rfl;rfl;all_goals(intro hc;first|(cases hc;done)|(try simp only at hc))))))
 all_goals(refine⟨by simp,⟨_,?_,AV.le_refl _⟩,Q0y (by simp[leH,hget])⟩;simp only[Try.results31,resL,ldA,Q1o,go_sem])
theorem indexR_fn(ex:Bool)(l:List Rp)(hl:l.length≤1000)(ok:∀w∈l,w.ok):Fn Try.prog 45 [rsl ex l,.fn 31 []] [] (vi .i64 (ixB (fun r=>decide (r.h<r.c)) l)) []:=by
 obtain⟨tr,htr⟩:∃r:Int,ixB (fun r:Rp=>decide (r.h<r.c)) l=r:=⟨_,rfl⟩
 rw[htr]
 (refine Q1q Try.func45 rfl (by rfl) ?_;simp only[Try.ntmps45,List.length_cons,List.length_nil,Nat.reduceAdd,Nat.reduceSub,List.replicate,List.cons_append,List.nil_append])
 (repeat(any_goals(first|((with_reducible refine Q0g ?_ ?_);rfl;intro K hK;simp only[go_sem];((repeat(refine ndI (by first|assumption|omega|rfl) ?_));refine hK _ ?_;clear hK K))|(with_reducible first|(refine Q0i ?_;refine hR _ ?_;clear hR R)|((first|refine Q0h ?_|refine Q0c ?_);intro Ψ hΨ hΨ')|(refine Q0b ?_;intro R hR)|(refine hΨ _ ?_;clear hΨ hΨ' Ψ)|refine Q0d ?_|refine Q0j ?_|refine Q0e ?_)|((with_reducible refine hΨ' _ _ ?_ ?_);(focus(simp;done));clear hΨ hΨ' Ψ)|((with_reducible apply Q0f);rfl;rfl;all_goals(intro hc;first|(cases hc;done)|(try simp only at hc))))))
 refine Q2v (α:={i:Nat // i≤l.length∧∀j,j<i→∀n,l[j]? = some n→decide (n.h<n.c)=false}) (fun p=>⟨[rsl ex l,.fn 31 [],.any,.any,.any,.any,rsl ex l,vi .i64 l.length,vi .i64 p.1,.any,.any,.any,.any,.any,.any,.any,.any,.any,.any],[]⟩) (fun p=>l.length-p.1) ⟨0,Nat.zero_le _,fun j hj=>by omega⟩ (St.le_of (by simp[leT]) (by simp[leH,hget])) ?_
 rintro ⟨i,hi,hno⟩ Ψ hΨ hΨ'
 dsimp only at hi hΨ ⊢
 rcases Nat.lt_or_ge i l.length with hlt|hge
 · obtain⟨y,hy⟩:∃y,l[i]? = some y:=⟨l[i],List.getElem?_eq_getElem hlt⟩
   have k1:(decide ((i:Int)<(l.length:Int)))=true:=by simpa using hlt
   have k2:=rp_at hy
   have k7:(i:Int)+1=((i+1:Nat):Int):=by omega
   have pl:=dear_fn y (ok y (List.mem_of_getElem? hy))
   cases hm:decide (y.h<y.c)
   · rw[hm] at pl
     (have W:=ndI k1 (ndI k2 (ndI k7 @wrI));(repeat(any_goals(first|((with_reducible refine Q1d ?_ ?_ ?_);rfl;rfl;intro K hK;((apply Q0x (pl);rfl;rfl;rfl;rfl;exact Try.func31);kernel_rfl;rfl;(focus((simp(disch:=omega) only[go_sem,W]);(try rfl);done));(first|rfl|simp[AV.inNL,AV.inN]));(simp(disch:=omega) only[go_sem,W];refine hK _ ?_;clear hK K))|((with_reducible refine Q0g ?_ ?_);rfl;intro K hK;simp(disch:=omega) only[go_sem,W];((repeat(refine ndI (by first|assumption|omega|rfl) ?_));refine hK _ ?_;clear hK K))|(with_reducible first|(refine Q0i ?_;refine hR _ ?_;clear hR R)|((first|refine Q0h ?_|refine Q0c ?_);intro Ψ hΨ hΨ')|(refine Q0b ?_;intro R hR)|(refine hΨ _ ?_;clear hΨ hΨ' Ψ)|refine Q0d ?_|refine Q0j ?_|refine Q0e ?_)|((with_reducible refine hΨ' _ _ ?_ ?_);(focus(simp;done));clear hΨ hΨ' Ψ)|((with_reducible apply Q0f);rfl;rfl;all_goals(intro hc;first|(cases hc;done)|(try simp only at hc)))))))
     refine hΨ _ ⟨i+1,hlt,fun j hj n hn=>?_⟩ (by simp only;omega) (St.le_of (by simp[leT]) (by simp[leH,hget]))
     rcases Nat.lt_or_ge j i with h'|h'
     · exact hno j h' n hn
     · obtain rfl:j=i:=by omega
       rw[hy] at hn;cases hn;exact hm
   · rw[hm] at pl
     have hp:=ixB_at (p:=fun r:Rp=>decide (r.h<r.c)) hno hy hm
     rw[hp] at htr
     (have W:=ndI k1 (ndI k2 (ndI k7 @wrI));(repeat(any_goals(first|((with_reducible refine Q1d ?_ ?_ ?_);rfl;rfl;intro K hK;((apply Q0x (pl);rfl;rfl;rfl;rfl;exact Try.func31);kernel_rfl;rfl;(focus((simp(disch:=omega) only[go_sem,W]);(try rfl);done));(first|rfl|simp[AV.inNL,AV.inN]));(simp(disch:=omega) only[go_sem,W];refine hK _ ?_;clear hK K))|((with_reducible refine Q0g ?_ ?_);rfl;intro K hK;simp(disch:=omega) only[go_sem,W];((repeat(refine ndI (by first|assumption|omega|rfl) ?_));refine hK _ ?_;clear hK K))|(with_reducible first|(refine Q0i ?_;refine hR _ ?_;clear hR R)|((first|refine Q0h ?_|refine Q0c ?_);intro Ψ hΨ hΨ')|(refine Q0b ?_;intro R hR)|(refine hΨ _ ?_;clear hΨ hΨ' Ψ)|refine Q0d ?_|refine Q0j ?_|refine Q0e ?_)|((with_reducible refine hΨ' _ _ ?_ ?_);(focus(simp;done));clear hΨ hΨ' Ψ)|((with_reducible apply Q0f);rfl;rfl;all_goals(intro hc;first|(cases hc;done)|(try simp only at hc)))))))
     all_goals(refine⟨by simp,⟨_,?_,AV.le_refl _⟩,Q0y (by simp[leH,hget])⟩;simp only[Try.results45,resL,ldA,Q1o,go_sem])
     all_goals rw[htr]
 · have k1:(decide ((i:Int)<(l.length:Int)))=false:=by simpa using hge
   have hp:=X4q (p:=fun r:Rp=>decide (r.h<r.c)) (l:=l) fun j hj=>hno j (by omega)
   rw[hp] at htr
   (repeat(any_goals(first|((with_reducible refine Q0g ?_ ?_);rfl;intro K hK;simp only[go_sem,k1];((repeat(refine ndI (by first|assumption|omega|rfl) ?_));refine hK _ ?_;clear hK K))|(with_reducible first|(refine Q0i ?_;refine hR _ ?_;clear hR R)|((first|refine Q0h ?_|refine Q0c ?_);intro Ψ hΨ hΨ')|(refine Q0b ?_;intro R hR)|(refine hΨ _ ?_;clear hΨ hΨ' Ψ)|refine Q0d ?_|refine Q0j ?_|refine Q0e ?_)|((with_reducible refine hΨ' _ _ ?_ ?_);(focus(simp;done));clear hΨ hΨ' Ψ)|((with_reducible apply Q0f);rfl;rfl;all_goals(intro hc;first|(cases hc;done)|(try simp only at hc))))))
   all_goals(refine⟨by simp,⟨_,?_,AV.le_refl _⟩,Q0y (by simp[leH,hget])⟩;simp only[Try.results45,resL,ldA,Q1o,go_sem])
   all_goals rw[←htr]
theorem X2u(ex:Bool)(l:List Rp)(hl:l.length≤1000)(ok:∀w∈l,w.ok):Fn Try.prog 30 [rsl ex l,.fn 31 []] [] (vb (l.any fun r=>decide (r.h<r.c))) []:=by
 have f:=indexR_fn ex l hl ok
 have e:=ixB_any (fun r:Rp=>decide (r.h<r.c)) l
 (refine Q1q Try.func30 rfl (by rfl) ?_;simp only[Try.ntmps30,List.length_cons,List.length_nil,Nat.reduceAdd,Nat.reduceSub,List.replicate,List.cons_append,List.nil_append])
 (repeat(any_goals(first|((with_reducible refine Q1d ?_ ?_ ?_);rfl;rfl;intro K hK;((apply Q0x (f);rfl;rfl;rfl;rfl;exact Try.func45);kernel_rfl;rfl;(focus((simp only[go_sem,e]);(try rfl);done));(first|rfl|simp[AV.inNL,AV.inN]));(simp only[go_sem,e];refine hK _ ?_;clear hK K))|((with_reducible refine Q0g ?_ ?_);rfl;intro K hK;simp only[go_sem,e];((repeat(refine ndI (by first|assumption|omega|rfl) ?_));refine hK _ ?_;clear hK K))|(with_reducible first|(refine Q0i ?_;refine hR _ ?_;clear hR R)|((first|refine Q0h ?_|refine Q0c ?_);intro Ψ hΨ hΨ')|(refine Q0b ?_;intro R hR)|(refine hΨ _ ?_;clear hΨ hΨ' Ψ)|refine Q0d ?_|refine Q0j ?_|refine Q0e ?_)|((with_reducible refine hΨ' _ _ ?_ ?_);(focus(simp;done));clear hΨ hΨ' Ψ)|((with_reducible apply Q0f);rfl;rfl;all_goals(intro hc;first|(cases hc;done)|(try simp only at hc))))))
 all_goals(refine⟨by simp,⟨_,?_,AV.le_refl _⟩,Q0y (by simp[leH,hget])⟩;simp only[Try.results30,resL,ldA,Q1o,go_sem])
theorem brk3_fn(t:Tn)(ht:t.ok):Fn Try.prog 29 [.ep t.pv] [] (vb (brkC t)) []:=by
 have f:=X2u false t.r (Nat.le_trans ht.r.1 (by decide)) ht.r.2
 unfold brkC
 generalize (t.r.any fun r=>decide (r.h<r.c))=q at f ⊢
 unfold Tn.pv
 (refine Q1q Try.func29 rfl (by rfl) ?_;simp only[Try.ntmps29,List.length_cons,List.length_nil,Nat.reduceAdd,Nat.reduceSub,List.replicate,List.cons_append,List.nil_append])
 (repeat(any_goals(first|((with_reducible refine Q1d ?_ ?_ ?_);rfl;rfl;intro K hK;((apply Q0x (f);rfl;rfl;rfl;rfl;exact Try.func30);kernel_rfl;rfl;(focus((simp only[go_sem]);(try rfl);done));(first|rfl|simp[AV.inNL,AV.inN]));(simp only[go_sem];refine hK _ ?_;clear hK K))|((with_reducible refine Q0g ?_ ?_);rfl;intro K hK;simp only[go_sem];((repeat(refine ndI (by first|assumption|omega|rfl) ?_));refine hK _ ?_;clear hK K))|(with_reducible first|(refine Q0i ?_;refine hR _ ?_;clear hR R)|((first|refine Q0h ?_|refine Q0c ?_);intro Ψ hΨ hΨ')|(refine Q0b ?_;intro R hR)|(refine hΨ _ ?_;clear hΨ hΨ' Ψ)|refine Q0d ?_|refine Q0j ?_|refine Q0e ?_)|((with_reducible refine hΨ' _ _ ?_ ?_);(focus(simp;done));clear hΨ hΨ' Ψ)|((with_reducible apply Q0f);rfl;rfl;all_goals(intro hc;first|(cases hc;done)|(try simp only at hc))))))
 all_goals(refine⟨by simp,⟨_,?_,AV.le_refl _⟩,Q0y (by simp[leH,hget])⟩;simp only[Try.results29,resL,ldA,Q1o,go_sem])
end
section
open Go.RowKit
open Nat (reduceBEq)
set_option maxRecDepth 20000
set_option maxHeartbeats 4000000
theorem balN_lt{w:Wl}(hw:w.ok){a:Int}(ha:U a):balN w a<WW:=(OfS_ok hw.kl ha).1.2.1
theorem frz_ifv(d:Nat)(p:List PV)(b:Bool)(v:AV):AV.frz d p (ifv b v)=ifv b (AV.frz d p v):=by cases b<;>rfl
theorem Q2f(v:AV):ifv false v = .any:=rfl
theorem Q1s(d:Nat)(b:Bool)(v:AV):AV.refs d (ifv b v)=(b&&AV.refs d v):=by cases b<;>rfl
def hh(a b c d:Bool)(X W:List AV):List (Nat×List AV):=(if a && !b then[(7,X)] else[])++(if c then[(2,if d then W else[vi .u64 0,vi .u64 0,vi .u64 0,vi .u64 0])] else[])
abbrev JF(t:Tn)(X:List AV)(cW:List PV)(s n1:Nat)(q:Bool)(L:Nat→Bool):St:=⟨[.ep [acV t.w.S,hdV t.w.L,noV t.w.N,acV t.v.S,hdV t.v.L,noV t.v.N,rpV t.r,.v (.int .u64 t.f),.v (.int .u64 (l0 t.m)),.v (.int .u64 (l1 t.m)),.v (.int .u64 (l2 t.m)),.v (.int .u64 (l3 t.m)),.v (.int .u64 (l0 t.b)),.v (.int .u64 (l1 t.b)),.v (.int .u64 (l2 t.b)),.v (.int .u64 (l3 t.b))],vb false,ifv (L 14) (.ptr 2 0),ifv (L 16) (vb q),ifv (L 11) (.tup [wN s,vb q]),ifv (L 0) (.ep [rpV t.r,.v (.int .u64 t.f),.v (.int .u64 (l0 t.m)),.v (.int .u64 (l1 t.m)),.v (.int .u64 (l2 t.m)),.v (.int .u64 (l3 t.m)),.v (.int .u64 (l0 t.b)),.v (.int .u64 (l1 t.b)),.v (.int .u64 (l2 t.b)),.v (.int .u64 (l3 t.b))]),ifv (L 1) (.c (rpV t.r)),ifv (L 2 && !L 9) (.row 7 30 4 t.r.length),ifv (L 3) (.ep [acV t.w.S,hdV t.w.L,noV t.w.N,acV t.v.S,hdV t.v.L,noV t.v.N,rpV t.r,.v (.int .u64 t.f),.v (.int .u64 (l0 t.m)),.v (.int .u64 (l1 t.m)),.v (.int .u64 (l2 t.m)),.v (.int .u64 (l3 t.m)),.v (.int .u64 (l0 t.b)),.v (.int .u64 (l1 t.b)),.v (.int .u64 (l2 t.b)),.v (.int .u64 (l3 t.b))]),ifv (L 4) (.agg [.c (acV t.w.S),.c (hdV t.w.L),.c (noV t.w.N)]),ifv (L 5) (.ep [.v (.int .u64 t.f),.v (.int .u64 (l0 t.m)),.v (.int .u64 (l1 t.m)),.v (.int .u64 (l2 t.m)),.v (.int .u64 (l3 t.m)),.v (.int .u64 (l0 t.b)),.v (.int .u64 (l1 t.b)),.v (.int .u64 (l2 t.b)),.v (.int .u64 (l3 t.b))]),ifv (L 6) (vi .u64 t.f),ifv (L 7) (wN n1),ifv (L 8) (.c (.sl true 4 1 [.v (.int .u64 (l0 n1)),.v (.int .u64 (l1 n1)),.v (.int .u64 (l2 n1)),.v (.int .u64 (l3 n1))])),ifv (L 9) (.c (.sl false 4 (t.r.length+1) cW)),ifv (L 10) (.tup [wN s,vb q]),ifv (L 12) (wN s),ifv (L 13) (vb q),.any,.any,.any,.any,.any,.any,.any,.any,.any,.any,.any,.any,.any,.any,.any,.any],hh (L 2) (L 9) (L 14) (L 15) X [vi .u64 (l0 s),vi .u64 (l1 s),vi .u64 (l2 s),vi .u64 (l3 s)]⟩
theorem brk4_fn(t:Tn)(ht:t.ok):Fn Try.prog 33 [.ep t.pv] [] (vb (brkF t)) []:=by
 have f1:=X2r false t.r ht.r.1
 have f2:=X5a t.w ht.w t.f
 have f3:=X5a t.v ht.v t.f
 have cl:∀x∈csL t.r++[balN t.w t.f],x<WW:=fun x hx=>by
  rcases List.mem_append.1 hx with h|h
  · exact csL_lt ht.r.2 x h
  · rw[List.mem_singleton.1 h];exact balN_lt ht.w ht.f
 have ll:(csL t.r++[balN t.w t.f]).length=t.r.length+1:=by unfold csL;simp
 have sm:=X1h false (csL t.r++[balN t.w t.f]) (by rw[ll];have:=ht.r.1;omega) cl
 have cm:=X4y (balN t.v t.f) ((csL t.r++[balN t.w t.f]).sum%WW) (balN_lt ht.v ht.f) (Nat.mod_lt _ (by decide))
 have e1:(rcW (csL t.r)).length=t.r.length*4:=by rw[Q8k];unfold csL;rw[List.length_map]
 have e2:rcW (csL t.r++[balN t.w t.f])=rcW (csL t.r)++(wpv (balN t.w t.f)).map .c:=by unfold rcW;rw[List.flatMap_append];simp[List.flatMap_cons]
 have e3:∀r,AV.refsL r (rcW (csL t.r))=false:=fun r=>Q0z r _
 have e5:rcW (csL t.r)++[vi .u64 (l0 (balN t.w t.f)),vi .u64 (l1 (balN t.w t.f)),vi .u64 (l2 (balN t.w t.f)),vi .u64 (l3 (balN t.w t.f))]=((csL t.r++[balN t.w t.f]).flatMap wpv).map AV.c:=e2.symm
 have e8:((csL t.r++[balN t.w t.f]).flatMap wpv).length=(t.r.length+1)*4:=by rw[Q1u Q5d,ll]
 unfold wsl at sm
 rw[ll] at sm
 have e6:decide ((if balN t.v t.f<(csL t.r++[balN t.w t.f]).sum%WW then(-1:Int) else if (csL t.r++[balN t.w t.f]).sum%WW<balN t.v t.f then 1 else 0)<0)=decide (balN t.v t.f<(csL t.r++[balN t.w t.f]).sum%WW):=by
  refine decide_eq_decide.2 ?_
  repeat' split
  all_goals omega
 have h900:=ht.r.1
 have e7:brkF t=(!decide (t.f=0)&&(decide (WW≤(csL t.r++[balN t.w t.f]).sum)||decide (balN t.v t.f<(csL t.r++[balN t.w t.f]).sum%WW))):=rfl
 rw[←e6] at e7
 rw[e7]
 clear e7 e6 cl ll e2
 generalize (if balN t.v t.f<(csL t.r++[balN t.w t.f]).sum%WW then(-1:Int) else if (csL t.r++[balN t.w t.f]).sum%WW<balN t.v t.f then 1 else 0)=z at cm ⊢
 generalize decide (WW≤(csL t.r++[balN t.w t.f]).sum)=q at sm ⊢
 generalize (csL t.r++[balN t.w t.f]).sum%WW=s at sm cm
 generalize (csL t.r++[balN t.w t.f]).flatMap wpv=cW at sm e5 e8
 unfold balN at cm e5
 generalize (OfS t.v.S t.f).b=n2 at f3 cm
 generalize (OfS t.w.S t.f).b=n1 at f2 e5
 have e9:∀r,AV.renL r (rcW (csL t.r))=rcW (csL t.r):=fun r=>Q1c r _
 have e10:∀r,AV.inNL r (rcW (csL t.r))=true:=fun r=>Q1k r _
 generalize rcW (csL t.r)=X at f1 e1 e3 e5 e9 e10
 unfold Tn.pv
 refine Fn.known fun E0=>?_
 (refine X4t Try.func33 rfl (by rfl) ?_;simp only[Try.ntmps33,List.length_cons,List.length_nil,Nat.reduceAdd,Nat.reduceSub,List.replicate,List.cons_append,List.nil_append])
 (repeat(any_goals(first|((with_reducible refine Q0g ?_ ?_);rfl;intro K hK;simp only[go_sem];((repeat(refine ndI (by first|assumption|omega|rfl) ?_));refine hK _ ?_;clear hK K))|((with_reducible first|refine AWE.seqI ?_|refine AWE.blockI ?_);intro Ψ hΨ hΨ')|(with_reducible first|refine AWE.ofSkip ?_|refine AWE.ofRet ?_|refine AWE.ofExit ?_)|((with_reducible apply AWE.regionM);rfl;rfl;rfl;rfl;intro R hR;simp only[List.take_succ_cons,List.take_zero,List.drop_succ_cons,List.drop_zero,List.drop_nil] at hR ⊢)|(with_reducible refine AWE.ofR ?_)|((with_reducible apply AWE.cond);rfl;rfl;all_goals(intro hc;first|(cases hc;done)|(try simp only at hc)))|((with_reducible apply Q3c);rfl;intro mb umb R hR;simp only[go_sem])|(with_reducible first|(refine Q0i ?_;refine hR _ ?_;clear hR R)|((first|refine Q0h ?_|refine Q0c ?_);intro Ψ hΨ hΨ')|(refine Q0b ?_;intro R hR)|(refine hΨ _ ?_;clear hΨ hΨ' Ψ)|refine Q0d ?_|refine Q0j ?_|refine Q0e ?_)|((with_reducible refine hΨ' _ _ ?_ ?_);(focus(simp;done));clear hΨ hΨ' Ψ)|((with_reducible apply Q0f);rfl;rfl;all_goals(intro hc;first|(cases hc;done)|(try simp only at hc)))|((with_reducible refine Q0t ?_ ?_);kernel_rfl;(with_reducible refine hR _ ?_);clear hR R)|((first|((with_reducible apply Q0r);rfl;rfl;rfl;rfl)|((with_reducible apply Q0n);rfl;rfl;rfl)|((first|((with_reducible apply Q0u);rfl;rfl)|((with_reducible apply Q0s);rfl;rfl;rfl;rfl;rfl));(simp only[rdE,rdOf,go_sem];rfl);(intro τ hA hQ hN;((try simp only[Q1h,Op.operands,Call.operands,go_sem,List.mem_cons,List.not_mem_nil,forall_eq_or_imp,forall_eq,List.append_toArray,Option.toArray] at hA);(try simp only[go_sem,List.mem_cons,List.not_mem_nil,forall_eq_or_imp,forall_eq] at hQ hN);(first|(revert hA;intro hA)|have hA:=trivial);(first|(revert hQ;intro hQ)|have hQ:=trivial);(first|(revert hN;intro hN)|have hN:=trivial);simp only[go_sem,hA,hQ,hN];(repeat(refine ndI (by first|assumption|omega|rfl) ?_));(first|apply Q1b|apply Q1a|apply Q0w))))|((first|((with_reducible apply Q2l);rfl;rfl;rfl)|((with_reducible apply Q1r);rfl;rfl;rfl;rfl;rfl;rfl));(intro τ hA hQ hN;((try simp only[Q1h,Op.operands,Call.operands,go_sem,List.mem_cons,List.not_mem_nil,forall_eq_or_imp,forall_eq,List.append_toArray,Option.toArray] at hA);(try simp only[go_sem,List.mem_cons,List.not_mem_nil,forall_eq_or_imp,forall_eq] at hQ);(first|(revert hA;intro hA)|have hA:=trivial);(first|(revert hQ;intro hQ)|have hQ:=trivial);simp only[go_sem,hA,hQ,hN];(repeat(refine ndI (by first|assumption|omega|rfl) ?_));exact Q0w _ _ _ _))));(simp only[St.eff,setO,Q0q,go_sem]))|((with_reducible apply Q0o);rfl;rfl;rfl;all_goals intro hb;all_goals(simp only[St.eff,setO,Q0q,go_sem])))))
 refine AWE.drawJ (by kernel_rfl) (by kernel_rfl) (by kernel_rfl) (JF t X cW s n1 q) (St.to.of_le (St.le_of (by simp[leT,ifv]) (by simp[leH,hget,hh]))) ?_ ?_ ?_
 · intro L i x hx hu hcl hpre hn R hR
   have hi:i=0∨i=1∨i=2∨i=3∨i=4∨i=5∨i=6∨i=7∨i=8∨i=9∨i=10∨i=11∨i=12∨i=13∨i=14∨i=15∨i=16:=by
    have:=(List.getElem?_eq_some_iff.1 hx).1
    simp only[List.length_cons,List.length_nil] at this
    omega
   rcases hi with rfl|rfl|rfl|rfl|rfl|rfl|rfl|rfl|rfl|rfl|rfl|rfl|rfl|rfl|rfl|rfl|rfl
   all_goals simp only[List.getElem?_cons_succ,List.getElem?_cons_zero,Option.some.injEq] at hx
   all_goals subst hx
   all_goals simp only[JF,Nat.reduceEqDiff,if_false,if_true,hu] at hR ⊢
   · (try simp only[Q2q,Q2f,Bool.and_true,Bool.true_and,Bool.not_false,Bool.not_true,Bool.false_and,Bool.and_false] at hR ⊢)
     generalize hh (L 2) (L 9) (L 14) (L 15) X [vi .u64 (l0 s),vi .u64 (l1 s),vi .u64 (l2 s),vi .u64 (l3 s)]=H at hR ⊢
     (repeat(any_goals(first|((with_reducible refine Q0g ?_ ?_);rfl;intro K hK;simp only[go_sem];((repeat(refine ndI (by first|assumption|omega|rfl) ?_));refine hK _ ?_;clear hK K))|(with_reducible first|(refine Q0i ?_;refine hR _ ?_;clear hR R)|((first|refine Q0h ?_|refine Q0c ?_);intro Ψ hΨ hΨ')|(refine Q0b ?_;intro R hR)|(refine hΨ _ ?_;clear hΨ hΨ' Ψ)|refine Q0d ?_|refine Q0j ?_|refine Q0e ?_)|((with_reducible refine hΨ' _ _ ?_ ?_);(focus(simp;done));clear hΨ hΨ' Ψ)|((with_reducible apply Q0f);rfl;rfl;all_goals(intro hc;first|(cases hc;done)|(try simp only at hc)))|((with_reducible refine Q0t ?_ ?_);kernel_rfl;(with_reducible refine hR _ ?_);clear hR R)|((first|((with_reducible apply Q0r);rfl;rfl;rfl;rfl)|((with_reducible apply Q0n);rfl;rfl;rfl)|((first|((with_reducible apply Q0u);rfl;rfl)|((with_reducible apply Q0s);rfl;rfl;rfl;rfl;rfl));(simp only[rdE,rdOf,go_sem];rfl);(intro τ hA hQ hN;((try simp only[Q1h,Op.operands,Call.operands,go_sem,List.mem_cons,List.not_mem_nil,forall_eq_or_imp,forall_eq,List.append_toArray,Option.toArray] at hA);(try simp only[go_sem,List.mem_cons,List.not_mem_nil,forall_eq_or_imp,forall_eq] at hQ hN);(first|(revert hA;intro hA)|have hA:=trivial);(first|(revert hQ;intro hQ)|have hQ:=trivial);(first|(revert hN;intro hN)|have hN:=trivial);simp only[go_sem,hA,hQ,hN];(repeat(refine ndI (by first|assumption|omega|rfl) ?_));(first|apply Q1b|apply Q1a|apply Q0w))))|((first|((with_reducible apply Q2l);rfl;rfl;rfl)|((with_reducible apply Q1r);rfl;rfl;rfl;rfl;rfl;rfl));(intro τ hA hQ hN;((try simp only[Q1h,Op.operands,Call.operands,go_sem,List.mem_cons,List.not_mem_nil,forall_eq_or_imp,forall_eq,List.append_toArray,Option.toArray] at hA);(try simp only[go_sem,List.mem_cons,List.not_mem_nil,forall_eq_or_imp,forall_eq] at hQ);(first|(revert hA;intro hA)|have hA:=trivial);(first|(revert hQ;intro hQ)|have hQ:=trivial);simp only[go_sem,hA,hQ,hN];(repeat(refine ndI (by first|assumption|omega|rfl) ?_));exact Q0w _ _ _ _))));(simp only[St.eff,setO,Q0q,go_sem]))|((with_reducible apply Q0o);rfl;rfl;rfl;all_goals intro hb;all_goals(simp only[St.eff,setO,Q0q,go_sem]))|((with_reducible refine Q0p ?_ ?_ ?_ ?_);kernel_rfl;kernel_rfl;(first|kernel_rfl|simp[Q0m,Q1j,St.free,Q1i,AV.refsL,AV.refs]);intro R hR))))
     exact St.to.of_le ⟨Q2j (by simp[leT,ifv]),Q3l (by simp[leT,ifv]),fun _ _ h=>h⟩
   · have g0:L 0=true:=hpre ⟨0,.data⟩ (by simp) rfl
     (try simp only[g0,Q2q,Q2f,Bool.and_true,Bool.true_and,Bool.not_false,Bool.not_true,Bool.false_and,Bool.and_false] at hR ⊢)
     generalize hh (L 2) (L 9) (L 14) (L 15) X [vi .u64 (l0 s),vi .u64 (l1 s),vi .u64 (l2 s),vi .u64 (l3 s)]=H at hR ⊢
     (repeat(any_goals(first|((with_reducible refine Q0g ?_ ?_);rfl;intro K hK;simp only[go_sem];((repeat(refine ndI (by first|assumption|omega|rfl) ?_));refine hK _ ?_;clear hK K))|(with_reducible first|(refine Q0i ?_;refine hR _ ?_;clear hR R)|((first|refine Q0h ?_|refine Q0c ?_);intro Ψ hΨ hΨ')|(refine Q0b ?_;intro R hR)|(refine hΨ _ ?_;clear hΨ hΨ' Ψ)|refine Q0d ?_|refine Q0j ?_|refine Q0e ?_)|((with_reducible refine hΨ' _ _ ?_ ?_);(focus(simp;done));clear hΨ hΨ' Ψ)|((with_reducible apply Q0f);rfl;rfl;all_goals(intro hc;first|(cases hc;done)|(try simp only at hc)))|((with_reducible refine Q0t ?_ ?_);kernel_rfl;(with_reducible refine hR _ ?_);clear hR R)|((first|((with_reducible apply Q0r);rfl;rfl;rfl;rfl)|((with_reducible apply Q0n);rfl;rfl;rfl)|((first|((with_reducible apply Q0u);rfl;rfl)|((with_reducible apply Q0s);rfl;rfl;rfl;rfl;rfl));(simp only[rdE,rdOf,go_sem];rfl);(intro τ hA hQ hN;((try simp only[Q1h,Op.operands,Call.operands,go_sem,List.mem_cons,List.not_mem_nil,forall_eq_or_imp,forall_eq,List.append_toArray,Option.toArray] at hA);(try simp only[go_sem,List.mem_cons,List.not_mem_nil,forall_eq_or_imp,forall_eq] at hQ hN);(first|(revert hA;intro hA)|have hA:=trivial);(first|(revert hQ;intro hQ)|have hQ:=trivial);(first|(revert hN;intro hN)|have hN:=trivial);simp only[go_sem,hA,hQ,hN];(repeat(refine ndI (by first|assumption|omega|rfl) ?_));(first|apply Q1b|apply Q1a|apply Q0w))))|((first|((with_reducible apply Q2l);rfl;rfl;rfl)|((with_reducible apply Q1r);rfl;rfl;rfl;rfl;rfl;rfl));(intro τ hA hQ hN;((try simp only[Q1h,Op.operands,Call.operands,go_sem,List.mem_cons,List.not_mem_nil,forall_eq_or_imp,forall_eq,List.append_toArray,Option.toArray] at hA);(try simp only[go_sem,List.mem_cons,List.not_mem_nil,forall_eq_or_imp,forall_eq] at hQ);(first|(revert hA;intro hA)|have hA:=trivial);(first|(revert hQ;intro hQ)|have hQ:=trivial);simp only[go_sem,hA,hQ,hN];(repeat(refine ndI (by first|assumption|omega|rfl) ?_));exact Q0w _ _ _ _))));(simp only[St.eff,setO,Q0q,go_sem]))|((with_reducible apply Q0o);rfl;rfl;rfl;all_goals intro hb;all_goals(simp only[St.eff,setO,Q0q,go_sem]))|((with_reducible refine Q0p ?_ ?_ ?_ ?_);kernel_rfl;kernel_rfl;(first|kernel_rfl|simp[Q0m,Q1j,St.free,Q1i,AV.refsL,AV.refs]);intro R hR))))
     exact St.to.of_le ⟨Q2j (by simp[leT,ifv,g0]),Q3l (by simp[leT,ifv,g0]),fun _ _ h=>h⟩
   · have g1:L 1=true:=hpre ⟨1,.data⟩ (by simp) rfl
     cases h7:L 9<;>cases h8:L 14<;>cases h9:L 15
     all_goals(try simp only[h7,h8,h9,hu,hh,List.nil_append,List.cons_append,List.append_nil,if_true,if_false,Bool.false_eq_true,g1,Q2q,Q2f,Bool.and_true,Bool.true_and,Bool.not_false,Bool.not_true,Bool.false_and,Bool.and_false] at hR ⊢)
     all_goals(have W:=ndI e9 (ndI e10 e3);(repeat(any_goals(first|((with_reducible refine Q1d ?_ ?_ ?_);rfl;rfl;intro K hK;(apply Q1n (f1) (fun r=>7);rfl;rfl;rfl;rfl;exact Try.func20;kernel_rfl;rfl;rfl;(intro r hr q hq h;simp only[List.map_cons,List.map_nil,List.cons_append,List.nil_append,List.mem_cons,List.not_mem_nil,or_false] at hr hq;(try dsimp only at h);first|omega|(rcases hr with rfl|rfl|rfl<;>rcases hq with rfl|rfl|rfl<;>simp at h ⊢)|(rcases hr with rfl|rfl<;>rcases hq with rfl|rfl<;>simp at h ⊢)|((repeat' split at h)<;>omega));(simp only[Q1t,Q2h,AV.ren,AV.renL,Q1c,List.mem_cons,List.not_mem_nil,forall_eq_or_imp,forall_eq,Q2d,List.contains_cons,List.contains_nil,AV.refsL,AV.refs,Q0z,AV.inN,AV.inNL,inH,Q1k,go_sem,W,Q1s,Bool.and_false]));(simp only[Q0q,Q2k,renH,AV.ren,AV.renL,Q1c,go_sem,W,Q1s,Bool.and_false];refine hK _ ?_;clear hK K))|((with_reducible refine Q0g ?_ ?_);rfl;intro K hK;simp only[go_sem,W,Q1s,Bool.and_false];((repeat(refine ndI (by first|assumption|omega|rfl) ?_));refine hK _ ?_;clear hK K))|(with_reducible first|(refine Q0i ?_;refine hR _ ?_;clear hR R)|((first|refine Q0h ?_|refine Q0c ?_);intro Ψ hΨ hΨ')|(refine Q0b ?_;intro R hR)|(refine hΨ _ ?_;clear hΨ hΨ' Ψ)|refine Q0d ?_|refine Q0j ?_|refine Q0e ?_)|((with_reducible refine hΨ' _ _ ?_ ?_);(focus(simp;done));clear hΨ hΨ' Ψ)|((with_reducible apply Q0f);rfl;rfl;all_goals(intro hc;first|(cases hc;done)|(try simp only at hc)))|((with_reducible refine Q0t ?_ ?_);kernel_rfl;(with_reducible refine hR _ ?_);clear hR R)|((first|((with_reducible apply Q0r);rfl;rfl;rfl;rfl)|((with_reducible apply Q0n);rfl;rfl;rfl)|((first|((with_reducible apply Q0u);rfl;rfl)|((with_reducible apply Q0s);rfl;rfl;rfl;rfl;rfl));(simp only[rdE,rdOf,go_sem,W,Q1s,Bool.and_false];rfl);(intro τ hA hQ hN;((try simp only[Q1h,Op.operands,Call.operands,go_sem,W,Q1s,Bool.and_false,go_sem,List.mem_cons,List.not_mem_nil,forall_eq_or_imp,forall_eq,List.append_toArray,Option.toArray] at hA);(try simp only[go_sem,W,Q1s,Bool.and_false,List.mem_cons,List.not_mem_nil,forall_eq_or_imp,forall_eq] at hQ hN);(first|(revert hA;intro hA)|have hA:=trivial);(first|(revert hQ;intro hQ)|have hQ:=trivial);(first|(revert hN;intro hN)|have hN:=trivial);simp only[go_sem,W,Q1s,Bool.and_false,go_sem,hA,hQ,hN];(repeat(refine ndI (by first|assumption|omega|rfl) ?_));(first|apply Q1b|apply Q1a|apply Q0w))))|((first|((with_reducible apply Q2l);rfl;rfl;rfl)|((with_reducible apply Q1r);rfl;rfl;rfl;rfl;rfl;rfl));(intro τ hA hQ hN;((try simp only[Q1h,Op.operands,Call.operands,go_sem,W,Q1s,Bool.and_false,go_sem,List.mem_cons,List.not_mem_nil,forall_eq_or_imp,forall_eq,List.append_toArray,Option.toArray] at hA);(try simp only[go_sem,W,Q1s,Bool.and_false,List.mem_cons,List.not_mem_nil,forall_eq_or_imp,forall_eq] at hQ);(first|(revert hA;intro hA)|have hA:=trivial);(first|(revert hQ;intro hQ)|have hQ:=trivial);simp only[go_sem,W,Q1s,Bool.and_false,go_sem,hA,hQ,hN];(repeat(refine ndI (by first|assumption|omega|rfl) ?_));exact Q0w _ _ _ _))));(simp only[St.eff,setO,Q0q,go_sem,W,Q1s,Bool.and_false]))|((with_reducible apply Q0o);rfl;rfl;rfl;all_goals intro hb;all_goals(simp only[St.eff,setO,Q0q,go_sem,W,Q1s,Bool.and_false]))|((with_reducible refine Q0p ?_ ?_ ?_ ?_);kernel_rfl;kernel_rfl;(first|kernel_rfl|simp[Q0m,Q1j,St.free,Q1i,AV.refsL,AV.refs]);intro R hR)))))
     all_goals exact St.to.of_le (St.le_of (by simp[leT,ifv,h7,h8,h9]) (by simp[leH,hget,hh,h7,h8,h9]))
   · (try simp only[Q2q,Q2f,Bool.and_true,Bool.true_and,Bool.not_false,Bool.not_true,Bool.false_and,Bool.and_false] at hR ⊢)
     generalize hh (L 2) (L 9) (L 14) (L 15) X [vi .u64 (l0 s),vi .u64 (l1 s),vi .u64 (l2 s),vi .u64 (l3 s)]=H at hR ⊢
     (repeat(any_goals(first|((with_reducible refine Q0g ?_ ?_);rfl;intro K hK;simp only[go_sem];((repeat(refine ndI (by first|assumption|omega|rfl) ?_));refine hK _ ?_;clear hK K))|(with_reducible first|(refine Q0i ?_;refine hR _ ?_;clear hR R)|((first|refine Q0h ?_|refine Q0c ?_);intro Ψ hΨ hΨ')|(refine Q0b ?_;intro R hR)|(refine hΨ _ ?_;clear hΨ hΨ' Ψ)|refine Q0d ?_|refine Q0j ?_|refine Q0e ?_)|((with_reducible refine hΨ' _ _ ?_ ?_);(focus(simp;done));clear hΨ hΨ' Ψ)|((with_reducible apply Q0f);rfl;rfl;all_goals(intro hc;first|(cases hc;done)|(try simp only at hc)))|((with_reducible refine Q0t ?_ ?_);kernel_rfl;(with_reducible refine hR _ ?_);clear hR R)|((first|((with_reducible apply Q0r);rfl;rfl;rfl;rfl)|((with_reducible apply Q0n);rfl;rfl;rfl)|((first|((with_reducible apply Q0u);rfl;rfl)|((with_reducible apply Q0s);rfl;rfl;rfl;rfl;rfl));(simp only[rdE,rdOf,go_sem];rfl);(intro τ hA hQ hN;((try simp only[Q1h,Op.operands,Call.operands,go_sem,List.mem_cons,List.not_mem_nil,forall_eq_or_imp,forall_eq,List.append_toArray,Option.toArray] at hA);(try simp only[go_sem,List.mem_cons,List.not_mem_nil,forall_eq_or_imp,forall_eq] at hQ hN);(first|(revert hA;intro hA)|have hA:=trivial);(first|(revert hQ;intro hQ)|have hQ:=trivial);(first|(revert hN;intro hN)|have hN:=trivial);simp only[go_sem,hA,hQ,hN];(repeat(refine ndI (by first|assumption|omega|rfl) ?_));(first|apply Q1b|apply Q1a|apply Q0w))))|((first|((with_reducible apply Q2l);rfl;rfl;rfl)|((with_reducible apply Q1r);rfl;rfl;rfl;rfl;rfl;rfl));(intro τ hA hQ hN;((try simp only[Q1h,Op.operands,Call.operands,go_sem,List.mem_cons,List.not_mem_nil,forall_eq_or_imp,forall_eq,List.append_toArray,Option.toArray] at hA);(try simp only[go_sem,List.mem_cons,List.not_mem_nil,forall_eq_or_imp,forall_eq] at hQ);(first|(revert hA;intro hA)|have hA:=trivial);(first|(revert hQ;intro hQ)|have hQ:=trivial);simp only[go_sem,hA,hQ,hN];(repeat(refine ndI (by first|assumption|omega|rfl) ?_));exact Q0w _ _ _ _))));(simp only[St.eff,setO,Q0q,go_sem]))|((with_reducible apply Q0o);rfl;rfl;rfl;all_goals intro hb;all_goals(simp only[St.eff,setO,Q0q,go_sem]))|((with_reducible refine Q0p ?_ ?_ ?_ ?_);kernel_rfl;kernel_rfl;(first|kernel_rfl|simp[Q0m,Q1j,St.free,Q1i,AV.refsL,AV.refs]);intro R hR))))
     exact St.to.of_le ⟨Q2j (by simp[leT,ifv]),Q3l (by simp[leT,ifv]),fun _ _ h=>h⟩
   · have g3:L 3=true:=hpre ⟨3,.data⟩ (by simp) rfl
     (try simp only[g3,Q2q,Q2f,Bool.and_true,Bool.true_and,Bool.not_false,Bool.not_true,Bool.false_and,Bool.and_false] at hR ⊢)
     generalize hh (L 2) (L 9) (L 14) (L 15) X [vi .u64 (l0 s),vi .u64 (l1 s),vi .u64 (l2 s),vi .u64 (l3 s)]=H at hR ⊢
     (repeat(any_goals(first|((with_reducible refine Q0g ?_ ?_);rfl;intro K hK;simp only[go_sem];((repeat(refine ndI (by first|assumption|omega|rfl) ?_));refine hK _ ?_;clear hK K))|(with_reducible first|(refine Q0i ?_;refine hR _ ?_;clear hR R)|((first|refine Q0h ?_|refine Q0c ?_);intro Ψ hΨ hΨ')|(refine Q0b ?_;intro R hR)|(refine hΨ _ ?_;clear hΨ hΨ' Ψ)|refine Q0d ?_|refine Q0j ?_|refine Q0e ?_)|((with_reducible refine hΨ' _ _ ?_ ?_);(focus(simp;done));clear hΨ hΨ' Ψ)|((with_reducible apply Q0f);rfl;rfl;all_goals(intro hc;first|(cases hc;done)|(try simp only at hc)))|((with_reducible refine Q0t ?_ ?_);kernel_rfl;(with_reducible refine hR _ ?_);clear hR R)|((first|((with_reducible apply Q0r);rfl;rfl;rfl;rfl)|((with_reducible apply Q0n);rfl;rfl;rfl)|((first|((with_reducible apply Q0u);rfl;rfl)|((with_reducible apply Q0s);rfl;rfl;rfl;rfl;rfl));(simp only[rdE,rdOf,go_sem];rfl);(intro τ hA hQ hN;((try simp only[Q1h,Op.operands,Call.operands,go_sem,List.mem_cons,List.not_mem_nil,forall_eq_or_imp,forall_eq,List.append_toArray,Option.toArray] at hA);(try simp only[go_sem,List.mem_cons,List.not_mem_nil,forall_eq_or_imp,forall_eq] at hQ hN);(first|(revert hA;intro hA)|have hA:=trivial);(first|(revert hQ;intro hQ)|have hQ:=trivial);(first|(revert hN;intro hN)|have hN:=trivial);simp only[go_sem,hA,hQ,hN];(repeat(refine ndI (by first|assumption|omega|rfl) ?_));(first|apply Q1b|apply Q1a|apply Q0w))))|((first|((with_reducible apply Q2l);rfl;rfl;rfl)|((with_reducible apply Q1r);rfl;rfl;rfl;rfl;rfl;rfl));(intro τ hA hQ hN;((try simp only[Q1h,Op.operands,Call.operands,go_sem,List.mem_cons,List.not_mem_nil,forall_eq_or_imp,forall_eq,List.append_toArray,Option.toArray] at hA);(try simp only[go_sem,List.mem_cons,List.not_mem_nil,forall_eq_or_imp,forall_eq] at hQ);(first|(revert hA;intro hA)|have hA:=trivial);(first|(revert hQ;intro hQ)|have hQ:=trivial);simp only[go_sem,hA,hQ,hN];(repeat(refine ndI (by first|assumption|omega|rfl) ?_));exact Q0w _ _ _ _))));(simp only[St.eff,setO,Q0q,go_sem]))|((with_reducible apply Q0o);rfl;rfl;rfl;all_goals intro hb;all_goals(simp only[St.eff,setO,Q0q,go_sem]))|((with_reducible refine Q0p ?_ ?_ ?_ ?_);kernel_rfl;kernel_rfl;(first|kernel_rfl|simp[Q0m,Q1j,St.free,Q1i,AV.refsL,AV.refs]);intro R hR))))
     exact St.to.of_le ⟨Q2j (by simp[leT,ifv,g3]),Q3l (by simp[leT,ifv,g3]),fun _ _ h=>h⟩
   · (try simp only[Q2q,Q2f,Bool.and_true,Bool.true_and,Bool.not_false,Bool.not_true,Bool.false_and,Bool.and_false] at hR ⊢)
     generalize hh (L 2) (L 9) (L 14) (L 15) X [vi .u64 (l0 s),vi .u64 (l1 s),vi .u64 (l2 s),vi .u64 (l3 s)]=H at hR ⊢
     (repeat(any_goals(first|((with_reducible refine Q0g ?_ ?_);rfl;intro K hK;simp only[go_sem];((repeat(refine ndI (by first|assumption|omega|rfl) ?_));refine hK _ ?_;clear hK K))|(with_reducible first|(refine Q0i ?_;refine hR _ ?_;clear hR R)|((first|refine Q0h ?_|refine Q0c ?_);intro Ψ hΨ hΨ')|(refine Q0b ?_;intro R hR)|(refine hΨ _ ?_;clear hΨ hΨ' Ψ)|refine Q0d ?_|refine Q0j ?_|refine Q0e ?_)|((with_reducible refine hΨ' _ _ ?_ ?_);(focus(simp;done));clear hΨ hΨ' Ψ)|((with_reducible apply Q0f);rfl;rfl;all_goals(intro hc;first|(cases hc;done)|(try simp only at hc)))|((with_reducible refine Q0t ?_ ?_);kernel_rfl;(with_reducible refine hR _ ?_);clear hR R)|((first|((with_reducible apply Q0r);rfl;rfl;rfl;rfl)|((with_reducible apply Q0n);rfl;rfl;rfl)|((first|((with_reducible apply Q0u);rfl;rfl)|((with_reducible apply Q0s);rfl;rfl;rfl;rfl;rfl));(simp only[rdE,rdOf,go_sem];rfl);(intro τ hA hQ hN;((try simp only[Q1h,Op.operands,Call.operands,go_sem,List.mem_cons,List.not_mem_nil,forall_eq_or_imp,forall_eq,List.append_toArray,Option.toArray] at hA);(try simp only[go_sem,List.mem_cons,List.not_mem_nil,forall_eq_or_imp,forall_eq] at hQ hN);(first|(revert hA;intro hA)|have hA:=trivial);(first|(revert hQ;intro hQ)|have hQ:=trivial);(first|(revert hN;intro hN)|have hN:=trivial);simp only[go_sem,hA,hQ,hN];(repeat(refine ndI (by first|assumption|omega|rfl) ?_));(first|apply Q1b|apply Q1a|apply Q0w))))|((first|((with_reducible apply Q2l);rfl;rfl;rfl)|((with_reducible apply Q1r);rfl;rfl;rfl;rfl;rfl;rfl));(intro τ hA hQ hN;((try simp only[Q1h,Op.operands,Call.operands,go_sem,List.mem_cons,List.not_mem_nil,forall_eq_or_imp,forall_eq,List.append_toArray,Option.toArray] at hA);(try simp only[go_sem,List.mem_cons,List.not_mem_nil,forall_eq_or_imp,forall_eq] at hQ);(first|(revert hA;intro hA)|have hA:=trivial);(first|(revert hQ;intro hQ)|have hQ:=trivial);simp only[go_sem,hA,hQ,hN];(repeat(refine ndI (by first|assumption|omega|rfl) ?_));exact Q0w _ _ _ _))));(simp only[St.eff,setO,Q0q,go_sem]))|((with_reducible apply Q0o);rfl;rfl;rfl;all_goals intro hb;all_goals(simp only[St.eff,setO,Q0q,go_sem]))|((with_reducible refine Q0p ?_ ?_ ?_ ?_);kernel_rfl;kernel_rfl;(first|kernel_rfl|simp[Q0m,Q1j,St.free,Q1i,AV.refsL,AV.refs]);intro R hR))))
     exact St.to.of_le ⟨Q2j (by simp[leT,ifv]),Q3l (by simp[leT,ifv]),fun _ _ h=>h⟩
   · have g5:L 5=true:=hpre ⟨5,.data⟩ (by simp) rfl
     (try simp only[g5,Q2q,Q2f,Bool.and_true,Bool.true_and,Bool.not_false,Bool.not_true,Bool.false_and,Bool.and_false] at hR ⊢)
     generalize hh (L 2) (L 9) (L 14) (L 15) X [vi .u64 (l0 s),vi .u64 (l1 s),vi .u64 (l2 s),vi .u64 (l3 s)]=H at hR ⊢
     (repeat(any_goals(first|((with_reducible refine Q0g ?_ ?_);rfl;intro K hK;simp only[go_sem];((repeat(refine ndI (by first|assumption|omega|rfl) ?_));refine hK _ ?_;clear hK K))|(with_reducible first|(refine Q0i ?_;refine hR _ ?_;clear hR R)|((first|refine Q0h ?_|refine Q0c ?_);intro Ψ hΨ hΨ')|(refine Q0b ?_;intro R hR)|(refine hΨ _ ?_;clear hΨ hΨ' Ψ)|refine Q0d ?_|refine Q0j ?_|refine Q0e ?_)|((with_reducible refine hΨ' _ _ ?_ ?_);(focus(simp;done));clear hΨ hΨ' Ψ)|((with_reducible apply Q0f);rfl;rfl;all_goals(intro hc;first|(cases hc;done)|(try simp only at hc)))|((with_reducible refine Q0t ?_ ?_);kernel_rfl;(with_reducible refine hR _ ?_);clear hR R)|((first|((with_reducible apply Q0r);rfl;rfl;rfl;rfl)|((with_reducible apply Q0n);rfl;rfl;rfl)|((first|((with_reducible apply Q0u);rfl;rfl)|((with_reducible apply Q0s);rfl;rfl;rfl;rfl;rfl));(simp only[rdE,rdOf,go_sem];rfl);(intro τ hA hQ hN;((try simp only[Q1h,Op.operands,Call.operands,go_sem,List.mem_cons,List.not_mem_nil,forall_eq_or_imp,forall_eq,List.append_toArray,Option.toArray] at hA);(try simp only[go_sem,List.mem_cons,List.not_mem_nil,forall_eq_or_imp,forall_eq] at hQ hN);(first|(revert hA;intro hA)|have hA:=trivial);(first|(revert hQ;intro hQ)|have hQ:=trivial);(first|(revert hN;intro hN)|have hN:=trivial);simp only[go_sem,hA,hQ,hN];(repeat(refine ndI (by first|assumption|omega|rfl) ?_));(first|apply Q1b|apply Q1a|apply Q0w))))|((first|((with_reducible apply Q2l);rfl;rfl;rfl)|((with_reducible apply Q1r);rfl;rfl;rfl;rfl;rfl;rfl));(intro τ hA hQ hN;((try simp only[Q1h,Op.operands,Call.operands,go_sem,List.mem_cons,List.not_mem_nil,forall_eq_or_imp,forall_eq,List.append_toArray,Option.toArray] at hA);(try simp only[go_sem,List.mem_cons,List.not_mem_nil,forall_eq_or_imp,forall_eq] at hQ);(first|(revert hA;intro hA)|have hA:=trivial);(first|(revert hQ;intro hQ)|have hQ:=trivial);simp only[go_sem,hA,hQ,hN];(repeat(refine ndI (by first|assumption|omega|rfl) ?_));exact Q0w _ _ _ _))));(simp only[St.eff,setO,Q0q,go_sem]))|((with_reducible apply Q0o);rfl;rfl;rfl;all_goals intro hb;all_goals(simp only[St.eff,setO,Q0q,go_sem]))|((with_reducible refine Q0p ?_ ?_ ?_ ?_);kernel_rfl;kernel_rfl;(first|kernel_rfl|simp[Q0m,Q1j,St.free,Q1i,AV.refsL,AV.refs]);intro R hR))))
     exact St.to.of_le ⟨Q2j (by simp[leT,ifv,g5]),Q3l (by simp[leT,ifv,g5]),fun _ _ h=>h⟩
   · have g4:L 4=true:=hpre ⟨4,.data⟩ (by simp) rfl
     have g6:L 6=true:=hpre ⟨6,.data⟩ (by simp) rfl
     (try simp only[g4,g6,Q2q,Q2f,Bool.and_true,Bool.true_and,Bool.not_false,Bool.not_true,Bool.false_and,Bool.and_false] at hR ⊢)
     generalize hh (L 2) (L 9) (L 14) (L 15) X [vi .u64 (l0 s),vi .u64 (l1 s),vi .u64 (l2 s),vi .u64 (l3 s)]=H at hR ⊢
     (repeat(any_goals(first|((with_reducible refine Q1d ?_ ?_ ?_);rfl;rfl;intro K hK;((apply Q0x (f2);rfl;rfl;rfl;rfl;exact Try.func34);kernel_rfl;rfl;(focus((simp only[go_sem]);(try rfl);done));(first|rfl|simp[AV.inNL,AV.inN]));(simp only[go_sem];refine hK _ ?_;clear hK K))|((with_reducible refine Q0g ?_ ?_);rfl;intro K hK;simp only[go_sem];((repeat(refine ndI (by first|assumption|omega|rfl) ?_));refine hK _ ?_;clear hK K))|(with_reducible first|(refine Q0i ?_;refine hR _ ?_;clear hR R)|((first|refine Q0h ?_|refine Q0c ?_);intro Ψ hΨ hΨ')|(refine Q0b ?_;intro R hR)|(refine hΨ _ ?_;clear hΨ hΨ' Ψ)|refine Q0d ?_|refine Q0j ?_|refine Q0e ?_)|((with_reducible refine hΨ' _ _ ?_ ?_);(focus(simp;done));clear hΨ hΨ' Ψ)|((with_reducible apply Q0f);rfl;rfl;all_goals(intro hc;first|(cases hc;done)|(try simp only at hc)))|((with_reducible refine Q0t ?_ ?_);kernel_rfl;(with_reducible refine hR _ ?_);clear hR R)|((first|((with_reducible apply Q0r);rfl;rfl;rfl;rfl)|((with_reducible apply Q0n);rfl;rfl;rfl)|((first|((with_reducible apply Q1m);rfl;rfl)|((with_reducible apply Q1p);rfl;rfl;rfl;rfl;rfl));((apply Q1g (f2);rfl;rfl;rfl;rfl;exact Try.func34);kernel_rfl;rfl;(focus((simp only[go_sem]);(try rfl);done));(first|rfl|simp[AV.inNL,AV.inN])))|((first|((with_reducible apply Q0u);rfl;rfl)|((with_reducible apply Q0s);rfl;rfl;rfl;rfl;rfl));(simp only[rdE,rdOf,go_sem];rfl);(intro τ hA hQ hN;((try simp only[Q1h,Op.operands,Call.operands,go_sem,List.mem_cons,List.not_mem_nil,forall_eq_or_imp,forall_eq,List.append_toArray,Option.toArray] at hA);(try simp only[go_sem,List.mem_cons,List.not_mem_nil,forall_eq_or_imp,forall_eq] at hQ hN);(first|(revert hA;intro hA)|have hA:=trivial);(first|(revert hQ;intro hQ)|have hQ:=trivial);(first|(revert hN;intro hN)|have hN:=trivial);simp only[go_sem,hA,hQ,hN];(repeat(refine ndI (by first|assumption|omega|rfl) ?_));(first|apply Q1b|apply Q1a|apply Q0w))))|((first|((with_reducible apply Q2l);rfl;rfl;rfl)|((with_reducible apply Q1r);rfl;rfl;rfl;rfl;rfl;rfl));(intro τ hA hQ hN;((try simp only[Q1h,Op.operands,Call.operands,go_sem,List.mem_cons,List.not_mem_nil,forall_eq_or_imp,forall_eq,List.append_toArray,Option.toArray] at hA);(try simp only[go_sem,List.mem_cons,List.not_mem_nil,forall_eq_or_imp,forall_eq] at hQ);(first|(revert hA;intro hA)|have hA:=trivial);(first|(revert hQ;intro hQ)|have hQ:=trivial);simp only[go_sem,hA,hQ,hN];(repeat(refine ndI (by first|assumption|omega|rfl) ?_));exact Q0w _ _ _ _))));(simp only[St.eff,setO,Q0q,go_sem]))|((with_reducible apply Q0o);rfl;rfl;rfl;all_goals intro hb;all_goals(simp only[St.eff,setO,Q0q,go_sem]))|((with_reducible refine Q0p ?_ ?_ ?_ ?_);kernel_rfl;kernel_rfl;(first|kernel_rfl|simp[Q0m,Q1j,St.free,Q1i,AV.refsL,AV.refs]);intro R hR))))
     exact St.to.of_le ⟨Q2j (by simp[leT,ifv,g4,g6]),Q3l (by simp[leT,ifv,g4,g6]),fun _ _ h=>h⟩
   · have g7:L 7=true:=hpre ⟨7,.data⟩ (by simp) rfl
     (try simp only[g7,Q2q,Q2f,Bool.and_true,Bool.true_and,Bool.not_false,Bool.not_true,Bool.false_and,Bool.and_false] at hR ⊢)
     generalize hh (L 2) (L 9) (L 14) (L 15) X [vi .u64 (l0 s),vi .u64 (l1 s),vi .u64 (l2 s),vi .u64 (l3 s)]=H at hR ⊢
     (repeat(any_goals(first|((with_reducible refine Q3t ?_ ?_);rfl;intro K hK;apply Q2c;rfl;rfl;(focus(simp only[go_sem];try rfl));(focus(simp only[go_sem];try rfl));rfl;(first|omega|(dsimp only;omega)|(simp only[Option.isSome_some,Option.isSome_none];omega)|(simp;omega)|(focus(simp;done)));(first|omega|(dsimp only;omega)|(simp only[Option.isSome_some,Option.isSome_none];omega)|(simp;omega)|(focus(simp;done)));(first|omega|(dsimp only;omega)|(simp only[Option.isSome_some,Option.isSome_none];omega)|(simp;omega)|(focus(simp;done)));(simp only[go_sem];rfl);rfl;(focus((simp only[unC,Option.map_some]);(try rfl)));(simp only[go_sem];refine hK _ ?_;clear hK K))|((with_reducible refine Q0g ?_ ?_);rfl;intro K hK;simp only[go_sem];((repeat(refine ndI (by first|assumption|omega|rfl) ?_));refine hK _ ?_;clear hK K))|(with_reducible first|(refine Q0i ?_;refine hR _ ?_;clear hR R)|((first|refine Q0h ?_|refine Q0c ?_);intro Ψ hΨ hΨ')|(refine Q0b ?_;intro R hR)|(refine hΨ _ ?_;clear hΨ hΨ' Ψ)|refine Q0d ?_|refine Q0j ?_|refine Q0e ?_)|((with_reducible refine hΨ' _ _ ?_ ?_);(focus(simp;done));clear hΨ hΨ' Ψ)|((with_reducible apply Q0f);rfl;rfl;all_goals(intro hc;first|(cases hc;done)|(try simp only at hc)))|((with_reducible refine Q0t ?_ ?_);kernel_rfl;(with_reducible refine hR _ ?_);clear hR R)|((first|((with_reducible apply Q0r);rfl;rfl;rfl;rfl)|((with_reducible apply Q0n);rfl;rfl;rfl)|((first|((with_reducible apply Q0u);rfl;rfl)|((with_reducible apply Q0s);rfl;rfl;rfl;rfl;rfl));(simp only[rdE,rdOf,go_sem];rfl);(intro τ hA hQ hN;((try simp only[Q1h,Op.operands,Call.operands,go_sem,List.mem_cons,List.not_mem_nil,forall_eq_or_imp,forall_eq,List.append_toArray,Option.toArray] at hA);(try simp only[go_sem,List.mem_cons,List.not_mem_nil,forall_eq_or_imp,forall_eq] at hQ hN);(first|(revert hA;intro hA)|have hA:=trivial);(first|(revert hQ;intro hQ)|have hQ:=trivial);(first|(revert hN;intro hN)|have hN:=trivial);simp only[go_sem,hA,hQ,hN];(repeat(refine ndI (by first|assumption|omega|rfl) ?_));(first|apply Q1b|apply Q1a|apply Q0w))))|((first|((with_reducible apply Q2l);rfl;rfl;rfl)|((with_reducible apply Q1r);rfl;rfl;rfl;rfl;rfl;rfl));(intro τ hA hQ hN;((try simp only[Q1h,Op.operands,Call.operands,go_sem,List.mem_cons,List.not_mem_nil,forall_eq_or_imp,forall_eq,List.append_toArray,Option.toArray] at hA);(try simp only[go_sem,List.mem_cons,List.not_mem_nil,forall_eq_or_imp,forall_eq] at hQ);(first|(revert hA;intro hA)|have hA:=trivial);(first|(revert hQ;intro hQ)|have hQ:=trivial);simp only[go_sem,hA,hQ,hN];(repeat(refine ndI (by first|assumption|omega|rfl) ?_));exact Q0w _ _ _ _)))|((first|((with_reducible apply X3s);rfl)|((with_reducible apply evD_grd);rfl;rfl;rfl;rfl));apply Q6m;rfl;rfl;(focus(simp only[go_sem];try rfl));(focus(simp only[go_sem];try rfl));rfl;(first|omega|(dsimp only;omega)|(simp only[Option.isSome_some,Option.isSome_none];omega)|(simp;omega)|(focus(simp;done)));(first|omega|(dsimp only;omega)|(simp only[Option.isSome_some,Option.isSome_none];omega)|(simp;omega)|(focus(simp;done)));(first|omega|(dsimp only;omega)|(simp only[Option.isSome_some,Option.isSome_none];omega)|(simp;omega)|(focus(simp;done)));(simp only[go_sem];rfl);rfl;(focus((simp only[unC,Option.map_some]);(try rfl)))));(simp only[St.eff,setO,Q0q,go_sem]))|((with_reducible apply Q0o);rfl;rfl;rfl;all_goals intro hb;all_goals(simp only[St.eff,setO,Q0q,go_sem]))|((with_reducible refine Q0p ?_ ?_ ?_ ?_);kernel_rfl;kernel_rfl;(first|kernel_rfl|simp[Q0m,Q1j,St.free,Q1i,AV.refsL,AV.refs]);intro R hR))))
     exact St.to.of_le ⟨Q2j (by simp[leT,ifv,g7]),Q3l (by simp[leT,ifv,g7]),fun _ _ h=>h⟩
   · have g2:L 2=true:=hpre ⟨2,.data⟩ (by simp) rfl
     have g8:L 8=true:=hpre ⟨8,.data⟩ (by simp) rfl
     cases h7:L 14<;>cases h8:L 15
     all_goals(try simp only[h7,h8,hu,hh,List.nil_append,List.cons_append,List.append_nil,if_true,if_false,Bool.false_eq_true,g2,g8,Q2q,Q2f,Bool.and_true,Bool.true_and,Bool.not_false,Bool.not_true,Bool.false_and,Bool.and_false] at hR ⊢)
     all_goals(have W:=ndI e1 (ndI e3 @Q0z);(repeat(any_goals(first|((with_reducible refine Q0g ?_ ?_);rfl;intro K hK;simp(disch:=omega) only[go_sem,W,Q1s,Bool.and_false];((repeat(refine ndI (by first|assumption|omega|rfl) ?_));refine hK _ ?_;clear hK K))|(with_reducible first|(refine Q0i ?_;refine hR _ ?_;clear hR R)|((first|refine Q0h ?_|refine Q0c ?_);intro Ψ hΨ hΨ')|(refine Q0b ?_;intro R hR)|(refine hΨ _ ?_;clear hΨ hΨ' Ψ)|refine Q0d ?_|refine Q0j ?_|refine Q0e ?_)|((with_reducible refine hΨ' _ _ ?_ ?_);(focus(simp;done));clear hΨ hΨ' Ψ)|((with_reducible apply Q0f);rfl;rfl;all_goals(intro hc;first|(cases hc;done)|(try simp only at hc)))|((with_reducible refine Q0t ?_ ?_);kernel_rfl;(with_reducible refine hR _ ?_);clear hR R)|((first|((with_reducible apply Q0r);rfl;rfl;rfl;rfl)|((with_reducible apply Q0n);rfl;rfl;rfl)|((first|((with_reducible apply Q0u);rfl;rfl)|((with_reducible apply Q0s);rfl;rfl;rfl;rfl;rfl));(simp(disch:=omega) only[rdE,rdOf,go_sem,W,Q1s,Bool.and_false];rfl);(intro τ hA hQ hN;((try simp only[Q1h,Op.operands,Call.operands,go_sem,W,Q1s,Bool.and_false,go_sem,List.mem_cons,List.not_mem_nil,forall_eq_or_imp,forall_eq,List.append_toArray,Option.toArray] at hA);(try simp only[go_sem,W,Q1s,Bool.and_false,List.mem_cons,List.not_mem_nil,forall_eq_or_imp,forall_eq] at hQ hN);(first|(revert hA;intro hA)|have hA:=trivial);(first|(revert hQ;intro hQ)|have hQ:=trivial);(first|(revert hN;intro hN)|have hN:=trivial);simp(disch:=omega) only[go_sem,W,Q1s,Bool.and_false,go_sem,hA,hQ,hN];(repeat(refine ndI (by first|assumption|omega|rfl) ?_));(first|apply Q1b|apply Q1a|apply Q0w))))|((first|((with_reducible apply Q2l);rfl;rfl;rfl)|((with_reducible apply Q1r);rfl;rfl;rfl;rfl;rfl;rfl));(intro τ hA hQ hN;((try simp(disch:=omega) only[Q1h,Op.operands,Call.operands,go_sem,W,Q1s,Bool.and_false,go_sem,List.mem_cons,List.not_mem_nil,forall_eq_or_imp,forall_eq,List.append_toArray,Option.toArray] at hA);(try simp(disch:=omega) only[go_sem,W,Q1s,Bool.and_false,List.mem_cons,List.not_mem_nil,forall_eq_or_imp,forall_eq] at hQ);(first|(revert hA;intro hA)|have hA:=trivial);(first|(revert hQ;intro hQ)|have hQ:=trivial);simp(disch:=omega) only[go_sem,W,Q1s,Bool.and_false,go_sem,hA,hQ,hN];(repeat(refine ndI (by first|assumption|omega|rfl) ?_));exact Q0w _ _ _ _))));(simp(disch:=omega) only[St.eff,setO,Q0q,go_sem,W,Q1s,Bool.and_false]))|((with_reducible apply Q0o);rfl;rfl;rfl;all_goals intro hb;all_goals(simp(disch:=omega) only[St.eff,setO,Q0q,go_sem,W,Q1s,Bool.and_false]))|((with_reducible refine Q0p ?_ ?_ ?_ ?_);kernel_rfl;kernel_rfl;(first|kernel_rfl|simp[Q0m,Q1j,St.free,Q1i,AV.refsL,AV.refs]);intro R hR)))))
     all_goals exact St.to.trans (St.to.frz 14 (pcs:=cW) (by simp[hget,e5])) (St.to.of_le (St.le_of (by simp[leT,St.frz,frz_ifv,AV.frz,AV.frzL,e8,Q2q,Q2f,h7,h8]) (by simp[leH,hget,hh,St.frz,frzH,AV.frzL,AV.frz,h7,h8])))
   · have g9:L 9=true:=hpre ⟨9,.data⟩ (by simp) rfl
     (try simp only[g9,Q2q,Q2f,Bool.and_true,Bool.true_and,Bool.not_false,Bool.not_true,Bool.false_and,Bool.and_false] at hR ⊢)
     generalize hh (L 2) (L 9) (L 14) (L 15) X [vi .u64 (l0 s),vi .u64 (l1 s),vi .u64 (l2 s),vi .u64 (l3 s)]=H at hR ⊢
     (repeat(any_goals(first|((with_reducible refine Q1d ?_ ?_ ?_);rfl;rfl;intro K hK;((apply Q0x (sm);rfl;rfl;rfl;rfl;exact Try.func19);kernel_rfl;rfl;(focus((simp only[go_sem]);(try rfl);done));(first|rfl|simp[AV.inNL,AV.inN]));(simp only[go_sem];refine hK _ ?_;clear hK K))|((with_reducible refine Q0g ?_ ?_);rfl;intro K hK;simp only[go_sem];((repeat(refine ndI (by first|assumption|omega|rfl) ?_));refine hK _ ?_;clear hK K))|(with_reducible first|(refine Q0i ?_;refine hR _ ?_;clear hR R)|((first|refine Q0h ?_|refine Q0c ?_);intro Ψ hΨ hΨ')|(refine Q0b ?_;intro R hR)|(refine hΨ _ ?_;clear hΨ hΨ' Ψ)|refine Q0d ?_|refine Q0j ?_|refine Q0e ?_)|((with_reducible refine hΨ' _ _ ?_ ?_);(focus(simp;done));clear hΨ hΨ' Ψ)|((with_reducible apply Q0f);rfl;rfl;all_goals(intro hc;first|(cases hc;done)|(try simp only at hc)))|((with_reducible refine Q0t ?_ ?_);kernel_rfl;(with_reducible refine hR _ ?_);clear hR R)|((first|((with_reducible apply Q0r);rfl;rfl;rfl;rfl)|((with_reducible apply Q0n);rfl;rfl;rfl)|((first|((with_reducible apply Q1m);rfl;rfl)|((with_reducible apply Q1p);rfl;rfl;rfl;rfl;rfl));((apply Q1g (sm);rfl;rfl;rfl;rfl;exact Try.func19);kernel_rfl;rfl;(focus((simp only[go_sem]);(try rfl);done));(first|rfl|simp[AV.inNL,AV.inN])))|((first|((with_reducible apply Q0u);rfl;rfl)|((with_reducible apply Q0s);rfl;rfl;rfl;rfl;rfl));(simp only[rdE,rdOf,go_sem];rfl);(intro τ hA hQ hN;((try simp only[Q1h,Op.operands,Call.operands,go_sem,List.mem_cons,List.not_mem_nil,forall_eq_or_imp,forall_eq,List.append_toArray,Option.toArray] at hA);(try simp only[go_sem,List.mem_cons,List.not_mem_nil,forall_eq_or_imp,forall_eq] at hQ hN);(first|(revert hA;intro hA)|have hA:=trivial);(first|(revert hQ;intro hQ)|have hQ:=trivial);(first|(revert hN;intro hN)|have hN:=trivial);simp only[go_sem,hA,hQ,hN];(repeat(refine ndI (by first|assumption|omega|rfl) ?_));(first|apply Q1b|apply Q1a|apply Q0w))))|((first|((with_reducible apply Q2l);rfl;rfl;rfl)|((with_reducible apply Q1r);rfl;rfl;rfl;rfl;rfl;rfl));(intro τ hA hQ hN;((try simp only[Q1h,Op.operands,Call.operands,go_sem,List.mem_cons,List.not_mem_nil,forall_eq_or_imp,forall_eq,List.append_toArray,Option.toArray] at hA);(try simp only[go_sem,List.mem_cons,List.not_mem_nil,forall_eq_or_imp,forall_eq] at hQ);(first|(revert hA;intro hA)|have hA:=trivial);(first|(revert hQ;intro hQ)|have hQ:=trivial);simp only[go_sem,hA,hQ,hN];(repeat(refine ndI (by first|assumption|omega|rfl) ?_));exact Q0w _ _ _ _))));(simp only[St.eff,setO,Q0q,go_sem]))|((with_reducible apply Q0o);rfl;rfl;rfl;all_goals intro hb;all_goals(simp only[St.eff,setO,Q0q,go_sem]))|((with_reducible refine Q0p ?_ ?_ ?_ ?_);kernel_rfl;kernel_rfl;(first|kernel_rfl|simp[Q0m,Q1j,St.free,Q1i,AV.refsL,AV.refs]);intro R hR))))
     exact St.to.of_le ⟨Q2j (by simp[leT,ifv,g9]),Q3l (by simp[leT,ifv,g9]),fun _ _ h=>h⟩
   · have g10:L 10=true:=hpre ⟨10,.data⟩ (by simp) rfl
     (try simp only[g10,Q2q,Q2f,Bool.and_true,Bool.true_and,Bool.not_false,Bool.not_true,Bool.false_and,Bool.and_false] at hR ⊢)
     generalize hh (L 2) (L 9) (L 14) (L 15) X [vi .u64 (l0 s),vi .u64 (l1 s),vi .u64 (l2 s),vi .u64 (l3 s)]=H at hR ⊢
     (repeat(any_goals(first|((with_reducible refine Q0g ?_ ?_);rfl;intro K hK;simp only[go_sem];((repeat(refine ndI (by first|assumption|omega|rfl) ?_));refine hK _ ?_;clear hK K))|(with_reducible first|(refine Q0i ?_;refine hR _ ?_;clear hR R)|((first|refine Q0h ?_|refine Q0c ?_);intro Ψ hΨ hΨ')|(refine Q0b ?_;intro R hR)|(refine hΨ _ ?_;clear hΨ hΨ' Ψ)|refine Q0d ?_|refine Q0j ?_|refine Q0e ?_)|((with_reducible refine hΨ' _ _ ?_ ?_);(focus(simp;done));clear hΨ hΨ' Ψ)|((with_reducible apply Q0f);rfl;rfl;all_goals(intro hc;first|(cases hc;done)|(try simp only at hc)))|((with_reducible refine Q0t ?_ ?_);kernel_rfl;(with_reducible refine hR _ ?_);clear hR R)|((first|((with_reducible apply Q0r);rfl;rfl;rfl;rfl)|((with_reducible apply Q0n);rfl;rfl;rfl)|((first|((with_reducible apply Q0u);rfl;rfl)|((with_reducible apply Q0s);rfl;rfl;rfl;rfl;rfl));(simp only[rdE,rdOf,go_sem];rfl);(intro τ hA hQ hN;((try simp only[Q1h,Op.operands,Call.operands,go_sem,List.mem_cons,List.not_mem_nil,forall_eq_or_imp,forall_eq,List.append_toArray,Option.toArray] at hA);(try simp only[go_sem,List.mem_cons,List.not_mem_nil,forall_eq_or_imp,forall_eq] at hQ hN);(first|(revert hA;intro hA)|have hA:=trivial);(first|(revert hQ;intro hQ)|have hQ:=trivial);(first|(revert hN;intro hN)|have hN:=trivial);simp only[go_sem,hA,hQ,hN];(repeat(refine ndI (by first|assumption|omega|rfl) ?_));(first|apply Q1b|apply Q1a|apply Q0w))))|((first|((with_reducible apply Q2l);rfl;rfl;rfl)|((with_reducible apply Q1r);rfl;rfl;rfl;rfl;rfl;rfl));(intro τ hA hQ hN;((try simp only[Q1h,Op.operands,Call.operands,go_sem,List.mem_cons,List.not_mem_nil,forall_eq_or_imp,forall_eq,List.append_toArray,Option.toArray] at hA);(try simp only[go_sem,List.mem_cons,List.not_mem_nil,forall_eq_or_imp,forall_eq] at hQ);(first|(revert hA;intro hA)|have hA:=trivial);(first|(revert hQ;intro hQ)|have hQ:=trivial);simp only[go_sem,hA,hQ,hN];(repeat(refine ndI (by first|assumption|omega|rfl) ?_));exact Q0w _ _ _ _))));(simp only[St.eff,setO,Q0q,go_sem]))|((with_reducible apply Q0o);rfl;rfl;rfl;all_goals intro hb;all_goals(simp only[St.eff,setO,Q0q,go_sem]))|((with_reducible refine Q0p ?_ ?_ ?_ ?_);kernel_rfl;kernel_rfl;(first|kernel_rfl|simp[Q0m,Q1j,St.free,Q1i,AV.refsL,AV.refs]);intro R hR))))
     exact St.to.of_le ⟨Q2j (by simp[leT,ifv,g10]),Q3l (by simp[leT,ifv,g10]),fun _ _ h=>h⟩
   · have g11:L 11=true:=hpre ⟨11,.data⟩ (by simp) rfl
     (try simp only[g11,Q2q,Q2f,Bool.and_true,Bool.true_and,Bool.not_false,Bool.not_true,Bool.false_and,Bool.and_false] at hR ⊢)
     generalize hh (L 2) (L 9) (L 14) (L 15) X [vi .u64 (l0 s),vi .u64 (l1 s),vi .u64 (l2 s),vi .u64 (l3 s)]=H at hR ⊢
     (repeat(any_goals(first|((with_reducible refine Q0g ?_ ?_);rfl;intro K hK;simp only[go_sem];((repeat(refine ndI (by first|assumption|omega|rfl) ?_));refine hK _ ?_;clear hK K))|(with_reducible first|(refine Q0i ?_;refine hR _ ?_;clear hR R)|((first|refine Q0h ?_|refine Q0c ?_);intro Ψ hΨ hΨ')|(refine Q0b ?_;intro R hR)|(refine hΨ _ ?_;clear hΨ hΨ' Ψ)|refine Q0d ?_|refine Q0j ?_|refine Q0e ?_)|((with_reducible refine hΨ' _ _ ?_ ?_);(focus(simp;done));clear hΨ hΨ' Ψ)|((with_reducible apply Q0f);rfl;rfl;all_goals(intro hc;first|(cases hc;done)|(try simp only at hc)))|((with_reducible refine Q0t ?_ ?_);kernel_rfl;(with_reducible refine hR _ ?_);clear hR R)|((first|((with_reducible apply Q0r);rfl;rfl;rfl;rfl)|((with_reducible apply Q0n);rfl;rfl;rfl)|((first|((with_reducible apply Q0u);rfl;rfl)|((with_reducible apply Q0s);rfl;rfl;rfl;rfl;rfl));(simp only[rdE,rdOf,go_sem];rfl);(intro τ hA hQ hN;((try simp only[Q1h,Op.operands,Call.operands,go_sem,List.mem_cons,List.not_mem_nil,forall_eq_or_imp,forall_eq,List.append_toArray,Option.toArray] at hA);(try simp only[go_sem,List.mem_cons,List.not_mem_nil,forall_eq_or_imp,forall_eq] at hQ hN);(first|(revert hA;intro hA)|have hA:=trivial);(first|(revert hQ;intro hQ)|have hQ:=trivial);(first|(revert hN;intro hN)|have hN:=trivial);simp only[go_sem,hA,hQ,hN];(repeat(refine ndI (by first|assumption|omega|rfl) ?_));(first|apply Q1b|apply Q1a|apply Q0w))))|((first|((with_reducible apply Q2l);rfl;rfl;rfl)|((with_reducible apply Q1r);rfl;rfl;rfl;rfl;rfl;rfl));(intro τ hA hQ hN;((try simp only[Q1h,Op.operands,Call.operands,go_sem,List.mem_cons,List.not_mem_nil,forall_eq_or_imp,forall_eq,List.append_toArray,Option.toArray] at hA);(try simp only[go_sem,List.mem_cons,List.not_mem_nil,forall_eq_or_imp,forall_eq] at hQ);(first|(revert hA;intro hA)|have hA:=trivial);(first|(revert hQ;intro hQ)|have hQ:=trivial);simp only[go_sem,hA,hQ,hN];(repeat(refine ndI (by first|assumption|omega|rfl) ?_));exact Q0w _ _ _ _))));(simp only[St.eff,setO,Q0q,go_sem]))|((with_reducible apply Q0o);rfl;rfl;rfl;all_goals intro hb;all_goals(simp only[St.eff,setO,Q0q,go_sem]))|((with_reducible refine Q0p ?_ ?_ ?_ ?_);kernel_rfl;kernel_rfl;(first|kernel_rfl|simp[Q0m,Q1j,St.free,Q1i,AV.refsL,AV.refs]);intro R hR))))
     exact St.to.of_le ⟨Q2j (by simp[leT,ifv,g11]),Q3l (by simp[leT,ifv,g11]),fun _ _ h=>h⟩
   · have g11:L 11=true:=hpre ⟨11,.data⟩ (by simp) rfl
     (try simp only[g11,Q2q,Q2f,Bool.and_true,Bool.true_and,Bool.not_false,Bool.not_true,Bool.false_and,Bool.and_false] at hR ⊢)
     generalize hh (L 2) (L 9) (L 14) (L 15) X [vi .u64 (l0 s),vi .u64 (l1 s),vi .u64 (l2 s),vi .u64 (l3 s)]=H at hR ⊢
     (repeat(any_goals(first|((with_reducible refine Q0g ?_ ?_);rfl;intro K hK;simp only[go_sem];((repeat(refine ndI (by first|assumption|omega|rfl) ?_));refine hK _ ?_;clear hK K))|(with_reducible first|(refine Q0i ?_;refine hR _ ?_;clear hR R)|((first|refine Q0h ?_|refine Q0c ?_);intro Ψ hΨ hΨ')|(refine Q0b ?_;intro R hR)|(refine hΨ _ ?_;clear hΨ hΨ' Ψ)|refine Q0d ?_|refine Q0j ?_|refine Q0e ?_)|((with_reducible refine hΨ' _ _ ?_ ?_);(focus(simp;done));clear hΨ hΨ' Ψ)|((with_reducible apply Q0f);rfl;rfl;all_goals(intro hc;first|(cases hc;done)|(try simp only at hc)))|((with_reducible refine Q0t ?_ ?_);kernel_rfl;(with_reducible refine hR _ ?_);clear hR R)|((first|((with_reducible apply Q0r);rfl;rfl;rfl;rfl)|((with_reducible apply Q0n);rfl;rfl;rfl)|((first|((with_reducible apply Q0u);rfl;rfl)|((with_reducible apply Q0s);rfl;rfl;rfl;rfl;rfl));(simp only[rdE,rdOf,go_sem];rfl);(intro τ hA hQ hN;((try simp only[Q1h,Op.operands,Call.operands,go_sem,List.mem_cons,List.not_mem_nil,forall_eq_or_imp,forall_eq,List.append_toArray,Option.toArray] at hA);(try simp only[go_sem,List.mem_cons,List.not_mem_nil,forall_eq_or_imp,forall_eq] at hQ hN);(first|(revert hA;intro hA)|have hA:=trivial);(first|(revert hQ;intro hQ)|have hQ:=trivial);(first|(revert hN;intro hN)|have hN:=trivial);simp only[go_sem,hA,hQ,hN];(repeat(refine ndI (by first|assumption|omega|rfl) ?_));(first|apply Q1b|apply Q1a|apply Q0w))))|((first|((with_reducible apply Q2l);rfl;rfl;rfl)|((with_reducible apply Q1r);rfl;rfl;rfl;rfl;rfl;rfl));(intro τ hA hQ hN;((try simp only[Q1h,Op.operands,Call.operands,go_sem,List.mem_cons,List.not_mem_nil,forall_eq_or_imp,forall_eq,List.append_toArray,Option.toArray] at hA);(try simp only[go_sem,List.mem_cons,List.not_mem_nil,forall_eq_or_imp,forall_eq] at hQ);(first|(revert hA;intro hA)|have hA:=trivial);(first|(revert hQ;intro hQ)|have hQ:=trivial);simp only[go_sem,hA,hQ,hN];(repeat(refine ndI (by first|assumption|omega|rfl) ?_));exact Q0w _ _ _ _))));(simp only[St.eff,setO,Q0q,go_sem]))|((with_reducible apply Q0o);rfl;rfl;rfl;all_goals intro hb;all_goals(simp only[St.eff,setO,Q0q,go_sem]))|((with_reducible refine Q0p ?_ ?_ ?_ ?_);kernel_rfl;kernel_rfl;(first|kernel_rfl|simp[Q0m,Q1j,St.free,Q1i,AV.refsL,AV.refs]);intro R hR))))
     exact St.to.of_le ⟨Q2j (by simp[leT,ifv,g11]),Q3l (by simp[leT,ifv,g11]),fun _ _ h=>h⟩
   · have h8:L 15=false:=by
      cases h15:L 15 with
      |false=>rfl
      |true=>have:=hcl 15 _ rfl h15 ⟨14,.data⟩ (by simp) rfl;rw[hu] at this;cases this
     cases h7:(L 2 && !L 9)
     all_goals(try simp only[h7,h8,hu,hh,List.nil_append,List.cons_append,List.append_nil,if_true,if_false,Bool.false_eq_true,Q2q,Q2f,Bool.and_true,Bool.true_and,Bool.not_false,Bool.not_true,Bool.false_and,Bool.and_false] at hR ⊢)
     all_goals(repeat(any_goals(first|((with_reducible refine Q0g ?_ ?_);rfl;intro K hK;simp only[go_sem,Q1s,e3,Bool.and_false];((repeat(refine ndI (by first|assumption|omega|rfl) ?_));refine hK _ ?_;clear hK K))|(with_reducible first|(refine Q0i ?_;refine hR _ ?_;clear hR R)|((first|refine Q0h ?_|refine Q0c ?_);intro Ψ hΨ hΨ')|(refine Q0b ?_;intro R hR)|(refine hΨ _ ?_;clear hΨ hΨ' Ψ)|refine Q0d ?_|refine Q0j ?_|refine Q0e ?_)|((with_reducible refine hΨ' _ _ ?_ ?_);(focus(simp;done));clear hΨ hΨ' Ψ)|((with_reducible apply Q0f);rfl;rfl;all_goals(intro hc;first|(cases hc;done)|(try simp only at hc)))|((with_reducible refine Q0t ?_ ?_);kernel_rfl;(with_reducible refine hR _ ?_);clear hR R)|((first|((with_reducible apply Q0r);rfl;rfl;rfl;rfl)|((with_reducible apply Q0n);rfl;rfl;rfl)|((first|((with_reducible apply Q0u);rfl;rfl)|((with_reducible apply Q0s);rfl;rfl;rfl;rfl;rfl));(simp only[rdE,rdOf,go_sem,Q1s,e3,Bool.and_false];rfl);(intro τ hA hQ hN;((try simp only[Q1h,Op.operands,Call.operands,go_sem,Q1s,e3,Bool.and_false,go_sem,List.mem_cons,List.not_mem_nil,forall_eq_or_imp,forall_eq,List.append_toArray,Option.toArray] at hA);(try simp only[go_sem,Q1s,e3,Bool.and_false,List.mem_cons,List.not_mem_nil,forall_eq_or_imp,forall_eq] at hQ hN);(first|(revert hA;intro hA)|have hA:=trivial);(first|(revert hQ;intro hQ)|have hQ:=trivial);(first|(revert hN;intro hN)|have hN:=trivial);simp only[go_sem,Q1s,e3,Bool.and_false,go_sem,hA,hQ,hN];(repeat(refine ndI (by first|assumption|omega|rfl) ?_));(first|apply Q1b|apply Q1a|apply Q0w))))|((first|((with_reducible apply Q2l);rfl;rfl;rfl)|((with_reducible apply Q1r);rfl;rfl;rfl;rfl;rfl;rfl));(intro τ hA hQ hN;((try simp only[Q1h,Op.operands,Call.operands,go_sem,Q1s,e3,Bool.and_false,go_sem,List.mem_cons,List.not_mem_nil,forall_eq_or_imp,forall_eq,List.append_toArray,Option.toArray] at hA);(try simp only[go_sem,Q1s,e3,Bool.and_false,List.mem_cons,List.not_mem_nil,forall_eq_or_imp,forall_eq] at hQ);(first|(revert hA;intro hA)|have hA:=trivial);(first|(revert hQ;intro hQ)|have hQ:=trivial);simp only[go_sem,Q1s,e3,Bool.and_false,go_sem,hA,hQ,hN];(repeat(refine ndI (by first|assumption|omega|rfl) ?_));exact Q0w _ _ _ _))));(simp only[St.eff,setO,Q0q,go_sem,Q1s,e3,Bool.and_false]))|((with_reducible apply Q0o);rfl;rfl;rfl;all_goals intro hb;all_goals(simp only[St.eff,setO,Q0q,go_sem,Q1s,e3,Bool.and_false]))|((with_reducible refine Q0p ?_ ?_ ?_ ?_);kernel_rfl;kernel_rfl;(first|kernel_rfl|simp[Q0m,Q1j,St.free,Q1i,AV.refsL,AV.refs]);intro R hR))))
     all_goals exact St.to.of_le (St.le_of (by simp[leT,ifv,h7,h8]) (by simp[leH,hget,hh,h7,h8]))
   · have g14:L 14=true:=hpre ⟨14,.data⟩ (by simp) rfl
     have g12:L 12=true:=hpre ⟨12,.data⟩ (by simp) rfl
     have g2:L 2=true:=hpre ⟨2,.phase⟩ (by simp) rfl
     have g9:L 9=true:=hpre ⟨9,.phase⟩ (by simp) rfl
     (try simp only[hu,hh,List.nil_append,List.cons_append,List.append_nil,if_true,if_false,Bool.false_eq_true,g14,g12,g2,g9,Q2q,Q2f,Bool.and_true,Bool.true_and,Bool.not_false,Bool.not_true,Bool.false_and,Bool.and_false] at hR ⊢)
     (repeat(any_goals(first|((with_reducible refine Q0g ?_ ?_);rfl;intro K hK;simp only[go_sem,Q1s,e3,Bool.and_false];((repeat(refine ndI (by first|assumption|omega|rfl) ?_));refine hK _ ?_;clear hK K))|(with_reducible first|(refine Q0i ?_;refine hR _ ?_;clear hR R)|((first|refine Q0h ?_|refine Q0c ?_);intro Ψ hΨ hΨ')|(refine Q0b ?_;intro R hR)|(refine hΨ _ ?_;clear hΨ hΨ' Ψ)|refine Q0d ?_|refine Q0j ?_|refine Q0e ?_)|((with_reducible refine hΨ' _ _ ?_ ?_);(focus(simp;done));clear hΨ hΨ' Ψ)|((with_reducible apply Q0f);rfl;rfl;all_goals(intro hc;first|(cases hc;done)|(try simp only at hc)))|((with_reducible refine Q0t ?_ ?_);kernel_rfl;(with_reducible refine hR _ ?_);clear hR R)|((first|((with_reducible apply Q0r);rfl;rfl;rfl;rfl)|((with_reducible apply Q0n);rfl;rfl;rfl)|((first|((with_reducible apply Q0u);rfl;rfl)|((with_reducible apply Q0s);rfl;rfl;rfl;rfl;rfl));(simp only[rdE,rdOf,go_sem,Q1s,e3,Bool.and_false];rfl);(intro τ hA hQ hN;((try simp only[Q1h,Op.operands,Call.operands,go_sem,Q1s,e3,Bool.and_false,go_sem,List.mem_cons,List.not_mem_nil,forall_eq_or_imp,forall_eq,List.append_toArray,Option.toArray] at hA);(try simp only[go_sem,Q1s,e3,Bool.and_false,List.mem_cons,List.not_mem_nil,forall_eq_or_imp,forall_eq] at hQ hN);(first|(revert hA;intro hA)|have hA:=trivial);(first|(revert hQ;intro hQ)|have hQ:=trivial);(first|(revert hN;intro hN)|have hN:=trivial);simp only[go_sem,Q1s,e3,Bool.and_false,go_sem,hA,hQ,hN];(repeat(refine ndI (by first|assumption|omega|rfl) ?_));(first|apply Q1b|apply Q1a|apply Q0w))))|((first|((with_reducible apply Q2l);rfl;rfl;rfl)|((with_reducible apply Q1r);rfl;rfl;rfl;rfl;rfl;rfl));(intro τ hA hQ hN;((try simp only[Q1h,Op.operands,Call.operands,go_sem,Q1s,e3,Bool.and_false,go_sem,List.mem_cons,List.not_mem_nil,forall_eq_or_imp,forall_eq,List.append_toArray,Option.toArray] at hA);(try simp only[go_sem,Q1s,e3,Bool.and_false,List.mem_cons,List.not_mem_nil,forall_eq_or_imp,forall_eq] at hQ);(first|(revert hA;intro hA)|have hA:=trivial);(first|(revert hQ;intro hQ)|have hQ:=trivial);simp only[go_sem,Q1s,e3,Bool.and_false,go_sem,hA,hQ,hN];(repeat(refine ndI (by first|assumption|omega|rfl) ?_));exact Q0w _ _ _ _))));(simp only[St.eff,setO,Q0q,go_sem,Q1s,e3,Bool.and_false]))|((with_reducible apply Q0o);rfl;rfl;rfl;all_goals intro hb;all_goals(simp only[St.eff,setO,Q0q,go_sem,Q1s,e3,Bool.and_false]))|((with_reducible refine Q0p ?_ ?_ ?_ ?_);kernel_rfl;kernel_rfl;(first|kernel_rfl|simp[Q0m,Q1j,St.free,Q1i,AV.refsL,AV.refs]);intro R hR))))
     exact St.to.of_le (St.le_of (by simp[leT,ifv]) (by simp[leH,hget,hh]))
   · have g13:L 13=true:=hpre ⟨13,.data⟩ (by simp) rfl
     have g15:L 15=true:=hpre ⟨15,.chain⟩ (by simp) rfl
     (try simp only[g13,g15,Q2q,Q2f,Bool.and_true,Bool.true_and,Bool.not_false,Bool.not_true,Bool.false_and,Bool.and_false] at hR ⊢)
     generalize hh (L 2) (L 9) (L 14) (L 15) X [vi .u64 (l0 s),vi .u64 (l1 s),vi .u64 (l2 s),vi .u64 (l3 s)]=H at hR ⊢
     (repeat(any_goals(first|((with_reducible refine Q0g ?_ ?_);rfl;intro K hK;simp only[go_sem];((repeat(refine ndI (by first|assumption|omega|rfl) ?_));refine hK _ ?_;clear hK K))|(with_reducible first|(refine Q0i ?_;refine hR _ ?_;clear hR R)|((first|refine Q0h ?_|refine Q0c ?_);intro Ψ hΨ hΨ')|(refine Q0b ?_;intro R hR)|(refine hΨ _ ?_;clear hΨ hΨ' Ψ)|refine Q0d ?_|refine Q0j ?_|refine Q0e ?_)|((with_reducible refine hΨ' _ _ ?_ ?_);(focus(simp;done));clear hΨ hΨ' Ψ)|((with_reducible apply Q0f);rfl;rfl;all_goals(intro hc;first|(cases hc;done)|(try simp only at hc)))|((with_reducible refine Q0t ?_ ?_);kernel_rfl;(with_reducible refine hR _ ?_);clear hR R)|((first|((with_reducible apply Q0r);rfl;rfl;rfl;rfl)|((with_reducible apply Q0n);rfl;rfl;rfl)|((first|((with_reducible apply Q0u);rfl;rfl)|((with_reducible apply Q0s);rfl;rfl;rfl;rfl;rfl));(simp only[rdE,rdOf,go_sem];rfl);(intro τ hA hQ hN;((try simp only[Q1h,Op.operands,Call.operands,go_sem,List.mem_cons,List.not_mem_nil,forall_eq_or_imp,forall_eq,List.append_toArray,Option.toArray] at hA);(try simp only[go_sem,List.mem_cons,List.not_mem_nil,forall_eq_or_imp,forall_eq] at hQ hN);(first|(revert hA;intro hA)|have hA:=trivial);(first|(revert hQ;intro hQ)|have hQ:=trivial);(first|(revert hN;intro hN)|have hN:=trivial);simp only[go_sem,hA,hQ,hN];(repeat(refine ndI (by first|assumption|omega|rfl) ?_));(first|apply Q1b|apply Q1a|apply Q0w))))|((first|((with_reducible apply Q2l);rfl;rfl;rfl)|((with_reducible apply Q1r);rfl;rfl;rfl;rfl;rfl;rfl));(intro τ hA hQ hN;((try simp only[Q1h,Op.operands,Call.operands,go_sem,List.mem_cons,List.not_mem_nil,forall_eq_or_imp,forall_eq,List.append_toArray,Option.toArray] at hA);(try simp only[go_sem,List.mem_cons,List.not_mem_nil,forall_eq_or_imp,forall_eq] at hQ);(first|(revert hA;intro hA)|have hA:=trivial);(first|(revert hQ;intro hQ)|have hQ:=trivial);simp only[go_sem,hA,hQ,hN];(repeat(refine ndI (by first|assumption|omega|rfl) ?_));exact Q0w _ _ _ _))));(simp only[St.eff,setO,Q0q,go_sem]))|((with_reducible apply Q0o);rfl;rfl;rfl;all_goals intro hb;all_goals(simp only[St.eff,setO,Q0q,go_sem]))|((with_reducible refine Q0p ?_ ?_ ?_ ?_);kernel_rfl;kernel_rfl;(first|kernel_rfl|simp[Q0m,Q1j,St.free,Q1i,AV.refsL,AV.refs]);intro R hR))))
     exact St.to.of_le ⟨Q2j (by simp[leT,ifv,g13,g15]),Q3l (by simp[leT,ifv,g13,g15]),fun _ _ h=>h⟩
 · intro L i x hx hu hcl hpre hn
   have hi:i=0∨i=1∨i=2∨i=3∨i=4∨i=5∨i=6∨i=7∨i=8∨i=9∨i=10∨i=11∨i=12∨i=13∨i=14∨i=15∨i=16:=by
    have:=(List.getElem?_eq_some_iff.1 hx).1
    simp only[List.length_cons,List.length_nil] at this
    omega
   rcases hi with rfl|rfl|rfl|rfl|rfl|rfl|rfl|rfl|rfl|rfl|rfl|rfl|rfl|rfl|rfl|rfl|rfl
   all_goals simp only[List.getElem?_cons_succ,List.getElem?_cons_zero,Option.some.injEq] at hx
   all_goals subst hx
   all_goals cases hn
 · intro L hL
   have e22:=hL 2 (by simp)
   have e29:=hL 9 (by simp)
   have e33:=hL 13 (by simp)
   have e34:=hL 14 (by simp)
   have e35:=hL 15 (by simp)
   have e36:=hL 16 (by simp)
   simp only[JF,hh,e22,e29,e33,e34,e35,e36,Q2q,Q2f,if_true,Bool.not_true,Bool.and_false,Bool.false_eq_true,if_false,List.nil_append]
   refine hΨ _ ?_
   clear hΨ hΨ'
   refine AWE.to (St.to.of_le (τ:=⟨[.ep [acV t.w.S,hdV t.w.L,noV t.w.N,acV t.v.S,hdV t.v.L,noV t.v.N,rpV t.r,.v (.int .u64 t.f),.v (.int .u64 (l0 t.m)),.v (.int .u64 (l1 t.m)),.v (.int .u64 (l2 t.m)),.v (.int .u64 (l3 t.m)),.v (.int .u64 (l0 t.b)),.v (.int .u64 (l1 t.b)),.v (.int .u64 (l2 t.b)),.v (.int .u64 (l3 t.b))],vb false,.ptr 2 0,vb q,.any,.any,.any,.any,.any,.any,.any,.any,.any,.any,.any,.any,.any,.any,.any,.any,.any,.any,.any,.any,.any,.any,.any,.any,.any,.any,.any,.any,.any,.any],[(2,[vi .u64 (l0 s),vi .u64 (l1 s),vi .u64 (l2 s),vi .u64 (l3 s)])]⟩) (St.le_of (by simp[leT]) (by simp[leH,hget]))) ?_
   by_cases h0:t.f=0
   · have k0:(t.f != 0)=false:=by simpa using h0
     (repeat(any_goals(first|((with_reducible refine Q0g ?_ ?_);rfl;intro K hK;simp only[go_sem,k0];((repeat(refine ndI (by first|assumption|omega|rfl) ?_));refine hK _ ?_;clear hK K))|((with_reducible first|refine AWE.seqI ?_|refine AWE.blockI ?_);intro Ψ hΨ hΨ')|(with_reducible first|refine AWE.ofSkip ?_|refine AWE.ofRet ?_|refine AWE.ofExit ?_)|((with_reducible apply AWE.regionM);rfl;rfl;rfl;rfl;intro R hR;simp only[List.take_succ_cons,List.take_zero,List.drop_succ_cons,List.drop_zero,List.drop_nil] at hR ⊢)|(with_reducible refine AWE.ofR ?_)|(with_reducible refine AWE.ofRD ?_)|((with_reducible apply AWE.cond);rfl;rfl;all_goals(intro hc;first|(cases hc;done)|(try simp only at hc)))|((with_reducible apply Q3c);rfl;intro mb umb R hR;simp only[go_sem,k0])|(with_reducible first|(refine Q0i ?_;refine hR _ ?_;clear hR R)|((first|refine Q0h ?_|refine Q0c ?_);intro Ψ hΨ hΨ')|(refine Q0b ?_;intro R hR)|(refine hΨ _ ?_;clear hΨ hΨ' Ψ)|refine Q0d ?_|refine Q0j ?_|refine Q0e ?_)|((with_reducible refine hΨ' _ _ ?_ ?_);(focus(simp;done));clear hΨ hΨ' Ψ)|((with_reducible apply Q0f);rfl;rfl;all_goals(intro hc;first|(cases hc;done)|(try simp only at hc)))|((with_reducible refine Q0t ?_ ?_);kernel_rfl;(with_reducible refine hR _ ?_);clear hR R)|((first|((with_reducible apply Q0r);rfl;rfl;rfl;rfl)|((with_reducible apply Q0n);rfl;rfl;rfl)|((first|((with_reducible apply Q0u);rfl;rfl)|((with_reducible apply Q0s);rfl;rfl;rfl;rfl;rfl));(simp only[rdE,rdOf,go_sem,k0];rfl);(intro τ hA hQ hN;((try simp only[Q1h,Op.operands,Call.operands,go_sem,k0,go_sem,List.mem_cons,List.not_mem_nil,forall_eq_or_imp,forall_eq,List.append_toArray,Option.toArray] at hA);(try simp only[go_sem,k0,List.mem_cons,List.not_mem_nil,forall_eq_or_imp,forall_eq] at hQ hN);(first|(revert hA;intro hA)|have hA:=trivial);(first|(revert hQ;intro hQ)|have hQ:=trivial);(first|(revert hN;intro hN)|have hN:=trivial);simp only[go_sem,k0,go_sem,hA,hQ,hN];(repeat(refine ndI (by first|assumption|omega|rfl) ?_));(first|apply Q1b|apply Q1a|apply Q0w))))|((first|((with_reducible apply Q2l);rfl;rfl;rfl)|((with_reducible apply Q1r);rfl;rfl;rfl;rfl;rfl;rfl));(intro τ hA hQ hN;((try simp only[Q1h,Op.operands,Call.operands,go_sem,k0,go_sem,List.mem_cons,List.not_mem_nil,forall_eq_or_imp,forall_eq,List.append_toArray,Option.toArray] at hA);(try simp only[go_sem,k0,List.mem_cons,List.not_mem_nil,forall_eq_or_imp,forall_eq] at hQ);(first|(revert hA;intro hA)|have hA:=trivial);(first|(revert hQ;intro hQ)|have hQ:=trivial);simp only[go_sem,k0,go_sem,hA,hQ,hN];(repeat(refine ndI (by first|assumption|omega|rfl) ?_));exact Q0w _ _ _ _))));(simp only[St.eff,setO,Q0q,go_sem,k0]))|((with_reducible apply Q0o);rfl;rfl;rfl;all_goals intro hb;all_goals(simp only[St.eff,setO,Q0q,go_sem,k0]))|((with_reducible refine Q0p ?_ ?_ ?_ ?_);kernel_rfl;kernel_rfl;(first|kernel_rfl|simp[Q0m,Q1j,St.free,Q1i,AV.refsL,AV.refs]);intro R hR))))
     all_goals(refine⟨by simp,⟨_,?_,AV.le_refl _⟩,Q0y (by simp[leH,hget])⟩;simp only[Try.results33,resL,ldA,Q1o,go_sem])
     all_goals simp[h0]
   · have k0:(t.f != 0)=true:=by simpa using h0
     cases q with
     |true=>
      (repeat(any_goals(first|((with_reducible refine Q0g ?_ ?_);rfl;intro K hK;simp only[go_sem,k0];((repeat(refine ndI (by first|assumption|omega|rfl) ?_));refine hK _ ?_;clear hK K))|((with_reducible first|refine AWE.seqI ?_|refine AWE.blockI ?_);intro Ψ hΨ hΨ')|(with_reducible first|refine AWE.ofSkip ?_|refine AWE.ofRet ?_|refine AWE.ofExit ?_)|((with_reducible apply AWE.regionM);rfl;rfl;rfl;rfl;intro R hR;simp only[List.take_succ_cons,List.take_zero,List.drop_succ_cons,List.drop_zero,List.drop_nil] at hR ⊢)|(with_reducible refine AWE.ofR ?_)|(with_reducible refine AWE.ofRD ?_)|((with_reducible apply AWE.cond);rfl;rfl;all_goals(intro hc;first|(cases hc;done)|(try simp only at hc)))|((with_reducible apply Q3c);rfl;intro mb umb R hR;simp only[go_sem,k0])|(with_reducible first|(refine Q0i ?_;refine hR _ ?_;clear hR R)|((first|refine Q0h ?_|refine Q0c ?_);intro Ψ hΨ hΨ')|(refine Q0b ?_;intro R hR)|(refine hΨ _ ?_;clear hΨ hΨ' Ψ)|refine Q0d ?_|refine Q0j ?_|refine Q0e ?_)|((with_reducible refine hΨ' _ _ ?_ ?_);(focus(simp;done));clear hΨ hΨ' Ψ)|((with_reducible apply Q0f);rfl;rfl;all_goals(intro hc;first|(cases hc;done)|(try simp only at hc)))|((with_reducible refine Q0t ?_ ?_);kernel_rfl;(with_reducible refine hR _ ?_);clear hR R)|((first|((with_reducible apply Q0r);rfl;rfl;rfl;rfl)|((with_reducible apply Q0n);rfl;rfl;rfl)|((first|((with_reducible apply Q1m);rfl;rfl)|((with_reducible apply Q1p);rfl;rfl;rfl;rfl;rfl));((first|(apply Q1g (f3);rfl;rfl;rfl;rfl;exact Try.func34)|(apply Q1g (cm);rfl;rfl;rfl;rfl;exact Try.func32));kernel_rfl;rfl;(focus((simp only[go_sem,k0]);(try rfl);done));(first|rfl|simp[AV.inNL,AV.inN])))|((first|((with_reducible apply Q0u);rfl;rfl)|((with_reducible apply Q0s);rfl;rfl;rfl;rfl;rfl));(simp only[rdE,rdOf,go_sem,k0];rfl);(intro τ hA hQ hN;((try simp only[Q1h,Op.operands,Call.operands,go_sem,k0,go_sem,List.mem_cons,List.not_mem_nil,forall_eq_or_imp,forall_eq,List.append_toArray,Option.toArray] at hA);(try simp only[go_sem,k0,List.mem_cons,List.not_mem_nil,forall_eq_or_imp,forall_eq] at hQ hN);(first|(revert hA;intro hA)|have hA:=trivial);(first|(revert hQ;intro hQ)|have hQ:=trivial);(first|(revert hN;intro hN)|have hN:=trivial);simp only[go_sem,k0,go_sem,hA,hQ,hN];(repeat(refine ndI (by first|assumption|omega|rfl) ?_));(first|apply Q1b|apply Q1a|apply Q0w))))|((first|((with_reducible apply Q2l);rfl;rfl;rfl)|((with_reducible apply Q1r);rfl;rfl;rfl;rfl;rfl;rfl));(intro τ hA hQ hN;((try simp only[Q1h,Op.operands,Call.operands,go_sem,k0,go_sem,List.mem_cons,List.not_mem_nil,forall_eq_or_imp,forall_eq,List.append_toArray,Option.toArray] at hA);(try simp only[go_sem,k0,List.mem_cons,List.not_mem_nil,forall_eq_or_imp,forall_eq] at hQ);(first|(revert hA;intro hA)|have hA:=trivial);(first|(revert hQ;intro hQ)|have hQ:=trivial);simp only[go_sem,k0,go_sem,hA,hQ,hN];(repeat(refine ndI (by first|assumption|omega|rfl) ?_));exact Q0w _ _ _ _))));(simp only[St.eff,setO,Q0q,go_sem,k0]))|((with_reducible apply Q0o);rfl;rfl;rfl;all_goals intro hb;all_goals(simp only[St.eff,setO,Q0q,go_sem,k0]))|((with_reducible refine Q0p ?_ ?_ ?_ ?_);kernel_rfl;kernel_rfl;(first|kernel_rfl|simp[Q0m,Q1j,St.free,Q1i,AV.refsL,AV.refs]);intro R hR))))
      all_goals(refine⟨by simp,⟨_,?_,AV.le_refl _⟩,Q0y (by simp[leH,hget])⟩;simp only[Try.results33,resL,ldA,Q1o,go_sem])
      all_goals simp[h0]
     |false=>
      (repeat(any_goals(first|((with_reducible refine Q0g ?_ ?_);rfl;intro K hK;simp only[go_sem,k0];((repeat(refine ndI (by first|assumption|omega|rfl) ?_));refine hK _ ?_;clear hK K))|((with_reducible first|refine AWE.seqI ?_|refine AWE.blockI ?_);intro Ψ hΨ hΨ')|(with_reducible first|refine AWE.ofSkip ?_|refine AWE.ofRet ?_|refine AWE.ofExit ?_)|((with_reducible apply AWE.regionM);rfl;rfl;rfl;rfl;intro R hR;simp only[List.take_succ_cons,List.take_zero,List.drop_succ_cons,List.drop_zero,List.drop_nil] at hR ⊢)|(with_reducible refine AWE.ofR ?_)|(with_reducible refine AWE.ofRD ?_)|((with_reducible apply AWE.cond);rfl;rfl;all_goals(intro hc;first|(cases hc;done)|(try simp only at hc)))|((with_reducible apply Q3c);rfl;intro mb umb R hR;simp only[go_sem,k0])|(with_reducible first|(refine Q0i ?_;refine hR _ ?_;clear hR R)|((first|refine Q0h ?_|refine Q0c ?_);intro Ψ hΨ hΨ')|(refine Q0b ?_;intro R hR)|(refine hΨ _ ?_;clear hΨ hΨ' Ψ)|refine Q0d ?_|refine Q0j ?_|refine Q0e ?_)|((with_reducible refine hΨ' _ _ ?_ ?_);(focus(simp;done));clear hΨ hΨ' Ψ)|((with_reducible apply Q0f);rfl;rfl;all_goals(intro hc;first|(cases hc;done)|(try simp only at hc)))|((with_reducible refine Q0t ?_ ?_);kernel_rfl;(with_reducible refine hR _ ?_);clear hR R)|((first|((with_reducible apply Q0r);rfl;rfl;rfl;rfl)|((with_reducible apply Q0n);rfl;rfl;rfl)|((first|((with_reducible apply Q1m);rfl;rfl)|((with_reducible apply Q1p);rfl;rfl;rfl;rfl;rfl));((first|(apply Q1g (f3);rfl;rfl;rfl;rfl;exact Try.func34)|(apply Q1g (cm);rfl;rfl;rfl;rfl;exact Try.func32));kernel_rfl;rfl;(focus((simp only[go_sem,k0]);(try rfl);done));(first|rfl|simp[AV.inNL,AV.inN])))|((first|((with_reducible apply Q0u);rfl;rfl)|((with_reducible apply Q0s);rfl;rfl;rfl;rfl;rfl));(simp only[rdE,rdOf,go_sem,k0];rfl);(intro τ hA hQ hN;((try simp only[Q1h,Op.operands,Call.operands,go_sem,k0,go_sem,List.mem_cons,List.not_mem_nil,forall_eq_or_imp,forall_eq,List.append_toArray,Option.toArray] at hA);(try simp only[go_sem,k0,List.mem_cons,List.not_mem_nil,forall_eq_or_imp,forall_eq] at hQ hN);(first|(revert hA;intro hA)|have hA:=trivial);(first|(revert hQ;intro hQ)|have hQ:=trivial);(first|(revert hN;intro hN)|have hN:=trivial);simp only[go_sem,k0,go_sem,hA,hQ,hN];(repeat(refine ndI (by first|assumption|omega|rfl) ?_));(first|apply Q1b|apply Q1a|apply Q0w))))|((first|((with_reducible apply Q2l);rfl;rfl;rfl)|((with_reducible apply Q1r);rfl;rfl;rfl;rfl;rfl;rfl));(intro τ hA hQ hN;((try simp only[Q1h,Op.operands,Call.operands,go_sem,k0,go_sem,List.mem_cons,List.not_mem_nil,forall_eq_or_imp,forall_eq,List.append_toArray,Option.toArray] at hA);(try simp only[go_sem,k0,List.mem_cons,List.not_mem_nil,forall_eq_or_imp,forall_eq] at hQ);(first|(revert hA;intro hA)|have hA:=trivial);(first|(revert hQ;intro hQ)|have hQ:=trivial);simp only[go_sem,k0,go_sem,hA,hQ,hN];(repeat(refine ndI (by first|assumption|omega|rfl) ?_));exact Q0w _ _ _ _))));(simp only[St.eff,setO,Q0q,go_sem,k0]))|((with_reducible apply Q0o);rfl;rfl;rfl;all_goals intro hb;all_goals(simp only[St.eff,setO,Q0q,go_sem,k0]))|((with_reducible refine Q0p ?_ ?_ ?_ ?_);kernel_rfl;kernel_rfl;(first|kernel_rfl|simp[Q0m,Q1j,St.free,Q1i,AV.refsL,AV.refs]);intro R hR))))
      all_goals(refine⟨by simp,⟨_,?_,AV.le_refl _⟩,Q0y (by simp[leH,hget])⟩;simp only[Try.results33,resL,ldA,Q1o,go_sem])
      all_goals simp[h0]
end
section
open Go.RowKit
open Nat (reduceBEq)
set_option maxRecDepth 20000
set_option maxHeartbeats 4000000
def funcT(P:Program)(t:Nat):Bool:=match P.underlying t with|some (.func _ _ _)=>true|_=>false
section
variable {P:Program} {o:Oper} {σ : St} {K:St→Prop}
theorem X4v{t:Nat}(ht:funcT P t=true)(f:Go.Fn)(us vs:Array Value)(w:World):(Op.equal t (.func f us vs) .nilFunc).run P w = .ok false w∧(Op.equal t .nilFunc .nilFunc).run P w = .ok true w:=by
 obtain⟨a,b,c,hu⟩:∃a b c,P.underlying t=some (.func a b c):=by
  unfold funcT at ht
  cases hu:P.underlying t with
  |none=>simp[hu] at ht
  |some d=>cases d<;>simp[hu] at ht;exact⟨_,_,_,rfl⟩
 unfold Op.equal
 rw[show Op.maxDepth=9999+1 from rfl]
 unfold Op.equalIn
 rw[Sem.run_bind,run_underlying hu,Result.andThen_ok,Sem.run_bind,run_underlying hu,Result.andThen_ok]
 exact⟨rfl,rfl⟩
theorem opA_fnne{t t':TypeId}{x:Operand}{f:FuncId}{caps:List AV}(ho:o.op = .binOp .neq t x (.const .nilFunc) t')(hx:Q0v x=true)(ht:funcT P t=true)(h1:σ.ev x = .fn f caps)(hK:K (σ.put o.dst (vb true))):OpA P o σ K:=
 Q1y _ hK fun E ι a w h=>by
  have hxv:=h.ev x hx
  rw[h1] at hxv
  generalize he:a.eval x=v at hxv
  cases hxv with
  |fn f us cs hl hr=>
   refine⟨_,?_,Q2n _ rfl⟩
   have e2:a.eval (.const .nilFunc) = .nilFunc:=rfl
   have hg:(eqGuard .neq t x (.const .nilFunc) (.func (.func f) #[] us.toArray) .nilFunc).run P w = .ok () w:=Q3k rfl (by simp) t _ _ w
   have g2':binOp .neq t (.func (.func f) #[] us.toArray) .nilFunc=(do pure (.bool (!(←Op.equal t (.func (.func f) #[] us.toArray) .nilFunc)))):=rfl
   simp only[execOp,ho,he,e2,Sem.run_bind,hg,Result.andThen_ok,g2',(X4v ht _ _ _ w).1,Sem.run_pure,Bool.not_false]
theorem opA_fnni{t t':TypeId}{x:Operand}(ho:o.op = .binOp .neq t x (.const .nilFunc) t')(hx:Q0v x=true)(ht:funcT P t=true)(h1:σ.ev x = .c (.v .nilFunc))(hK:K (σ.put o.dst (vb false))):OpA P o σ K:=
 Q1y _ hK fun E ι a w h=>by
  have hxv:=h.ev x hx
  rw[h1] at hxv
  obtain⟨he,_⟩:=hxv.v_inv
  refine⟨_,?_,Q2n _ rfl⟩
  have e2:a.eval (.const .nilFunc) = .nilFunc:=rfl
  have hg:(eqGuard .neq t x (.const .nilFunc) .nilFunc .nilFunc).run P w = .ok () w:=Q3k rfl (by simp) t _ _ w
  have g2':binOp .neq t .nilFunc .nilFunc=(do pure (.bool (!(←Op.equal t .nilFunc .nilFunc)))):=rfl
  simp only[execOp,ho,he,e2,Sem.run_bind,hg,Result.andThen_ok,g2',(X4v ht (.func 0) #[] #[] w).2,Sem.run_pure,Bool.not_true]
end
def brk(t:Tn):Int:=if brkE t then 1 else if brkS t then 2 else if brkC t then 3 else if brkF t then 4 else 0
def jdN(t:Tn):Int:=if Q2e t.w&&Q2e t.v then brk t else 0
def jdE(t:Tn):Int:=if Q2e t.w&&Q2e t.v then 0 else 200
theorem judge_fn(t:Tn)(ht:t.ok):Fn Try.prog 11 [tnA t] [] (.tup [vi .i64 (jdN t),vi .i64 (jdE t)]) []:=by
 have m2:=may2_fn true t.w t.v ht.w ht.v
 have b1:=brk1_fn t ht
 have b2:=brk2_fn t ht
 have b3:=brk3_fn t ht
 have b4:=brk4_fn t ht
 unfold jdN jdE brk
 generalize (Q2e t.w&&Q2e t.v)=q at m2 ⊢
 generalize brkE t=q1 at b1 ⊢
 generalize brkS t=q2 at b2 ⊢
 generalize brkC t=q3 at b3 ⊢
 generalize brkF t=q4 at b4 ⊢
 cases q with
 |false=>
  simp only[Bool.false_eq_true,if_false]
  (refine Q1q Try.func11 rfl (by rfl) ?_;simp only[Try.ntmps11,List.length_cons,List.length_nil,Nat.reduceAdd,Nat.reduceSub,List.replicate,List.cons_append,List.nil_append])
  (repeat(any_goals(first|((with_reducible refine Q3t ?_ ?_);rfl;intro K hK;apply Q2c;rfl;rfl;(focus(simp only[go_sem];try rfl));(focus(simp only[go_sem];try rfl));rfl;(first|omega|(dsimp only;omega)|(simp only[Option.isSome_some,Option.isSome_none];omega)|(simp;omega)|(focus(simp;done)));(first|omega|(dsimp only;omega)|(simp only[Option.isSome_some,Option.isSome_none];omega)|(simp;omega)|(focus(simp;done)));(first|omega|(dsimp only;omega)|(simp only[Option.isSome_some,Option.isSome_none];omega)|(simp;omega)|(focus(simp;done)));(simp only[go_sem];rfl);rfl;(focus((simp only[unC,Option.map_some]);(try rfl)));(simp only[go_sem];refine hK _ ?_;clear hK K))|((with_reducible refine Q1d ?_ ?_ ?_);rfl;rfl;intro K hK;((apply Q0x (m2);rfl;rfl;rfl;rfl;exact Try.func24);kernel_rfl;rfl;(focus((simp only[go_sem]);(try rfl);done));(first|rfl|simp[AV.inNL,AV.inN]));(simp only[go_sem];refine hK _ ?_;clear hK K))|((with_reducible refine Q0g ?_ ?_);rfl;intro K hK;simp only[go_sem];((repeat(refine ndI (by first|assumption|omega|rfl) ?_));refine hK _ ?_;clear hK K))|(with_reducible first|(refine Q0i ?_;refine hR _ ?_;clear hR R)|((first|refine Q0h ?_|refine Q0c ?_);intro Ψ hΨ hΨ')|(refine Q0b ?_;intro R hR)|(refine hΨ _ ?_;clear hΨ hΨ' Ψ)|refine Q0d ?_|refine Q0j ?_|refine Q0e ?_)|((with_reducible refine hΨ' _ _ ?_ ?_);(focus(simp;done));clear hΨ hΨ' Ψ)|((with_reducible apply Q1e);rfl;rfl;rfl;(try simp only[go_sem]))|((with_reducible apply Q1l);rfl;rfl;rfl;all_goals(intro hb;first|(cases hb;done)|((try simp only[Bool.not_true,Bool.not_false] at hb);(first|((with_reducible intro K hK);simp only[go_sem];((repeat(refine ndI (by first|assumption|omega|rfl) ?_));refine hK _ ?_;clear hK K))|((fail_if_success (with_reducible intro _));simp only[go_sem])))))|((with_reducible apply Q0f);rfl;rfl;all_goals(intro hc;first|(cases hc;done)|(try simp only at hc))))))
  all_goals(refine⟨by simp,⟨_,?_,AV.le_refl _⟩,Q0y (by simp[leH,hget])⟩;simp only[Try.results11,resL,ldA,Q1o,go_sem])
 |true=>
  simp only[if_true]
  (refine Q1q Try.func11 rfl (by rfl) ?_;simp only[Try.ntmps11,List.length_cons,List.length_nil,Nat.reduceAdd,Nat.reduceSub,List.replicate,List.cons_append,List.nil_append])
  (repeat(any_goals(first|((with_reducible refine Q3t ?_ ?_);rfl;intro K hK;apply Q2c;rfl;rfl;(focus(simp only[go_sem];try rfl));(focus(simp only[go_sem];try rfl));rfl;(first|omega|(dsimp only;omega)|(simp only[Option.isSome_some,Option.isSome_none];omega)|(simp;omega)|(focus(simp;done)));(first|omega|(dsimp only;omega)|(simp only[Option.isSome_some,Option.isSome_none];omega)|(simp;omega)|(focus(simp;done)));(first|omega|(dsimp only;omega)|(simp only[Option.isSome_some,Option.isSome_none];omega)|(simp;omega)|(focus(simp;done)));(simp only[go_sem];rfl);rfl;(focus((simp only[unC,Option.map_some]);(try rfl)));(simp only[go_sem];refine hK _ ?_;clear hK K))|((with_reducible refine Q1d ?_ ?_ ?_);rfl;rfl;intro K hK;((apply Q0x (m2);rfl;rfl;rfl;rfl;exact Try.func24);kernel_rfl;rfl;(focus((simp only[go_sem]);(try rfl);done));(first|rfl|simp[AV.inNL,AV.inN]));(simp only[go_sem];refine hK _ ?_;clear hK K))|((with_reducible refine Q0g ?_ ?_);rfl;intro K hK;simp only[go_sem];((repeat(refine ndI (by first|assumption|omega|rfl) ?_));refine hK _ ?_;clear hK K))|(with_reducible first|(refine Q0i ?_;refine hR _ ?_;clear hR R)|((first|refine Q0h ?_|refine Q0c ?_);intro Ψ hΨ hΨ')|(refine Q0b ?_;intro R hR)|(refine hΨ _ ?_;clear hΨ hΨ' Ψ)|refine Q0d ?_|refine Q0j ?_|refine Q0e ?_)|((with_reducible refine hΨ' _ _ ?_ ?_);(focus(simp;done));clear hΨ hΨ' Ψ)|((with_reducible apply Q1e);rfl;rfl;rfl;(try simp only[go_sem]))|((with_reducible apply Q1l);rfl;rfl;rfl;all_goals(intro hb;first|(cases hb;done)|((try simp only[Bool.not_true,Bool.not_false] at hb);(first|((with_reducible intro K hK);simp only[go_sem];((repeat(refine ndI (by first|assumption|omega|rfl) ?_));refine hK _ ?_;clear hK K))|((fail_if_success (with_reducible intro _));simp only[go_sem])))))|((with_reducible apply Q0f);rfl;rfl;all_goals(intro hc;first|(cases hc;done)|(try simp only at hc))))))
  refine Q3u 6 ?_
  refine Q4z ?_
  intro Ψ hΨ hΨ'
  refine Q0h ?_
  intro Ψ hΨ hΨ'
  refine Q0b ?_
  intro R hR
  refine X4u rfl (St.to.frz 1 (pcs:=t.pv) (by simp[hget,Tn.pv])) ?_
  have hpl:t.pv.length=16:=rfl
  generalize t.pv=pv at *
  simp only[hpl,St.frz,AV.frzL,AV.frz,frzH,if_true,eq_self,↓reduceIte,Nat.reduceEqDiff,List.length_cons,List.length_nil,List.drop_zero,Nat.reduceAdd,Nat.reduceLT]
  have w1:IntKind.i64.wrap (0+1)=1:=rfl
  have w2:IntKind.i64.wrap (1+1)=2:=rfl
  have w3:IntKind.i64.wrap (2+1)=3:=rfl
  have w4:IntKind.i64.wrap (3+1)=4:=rfl
  have w5:IntKind.i64.wrap (4+1)=5:=rfl
  (have W:=ndI w1 (ndI w2 (ndI w3 (ndI w4 w5)));(repeat(any_goals(first|((with_reducible refine Q3t ?_ ?_);rfl;intro K hK;(first|(apply opA_fnne;rfl;rfl;kernel_rfl;rfl)|(apply opA_fnni;rfl;rfl;kernel_rfl;rfl));(simp only[go_sem,W];refine hK _ ?_;clear hK K))|((with_reducible refine Q0g ?_ ?_);rfl;intro K hK;simp only[go_sem,W];((repeat(refine ndI (by first|assumption|omega|rfl) ?_));refine hK _ ?_;clear hK K))|(with_reducible first|(refine Q0i ?_;refine hR _ ?_;clear hR R)|((first|refine Q0h ?_|refine Q0c ?_);intro Ψ hΨ hΨ')|(refine Q0b ?_;intro R hR)|(refine hΨ _ ?_;clear hΨ hΨ' Ψ)|refine Q0d ?_|refine Q0j ?_|refine Q0e ?_)|((with_reducible refine hΨ' _ _ ?_ ?_);(focus(simp;done));clear hΨ hΨ' Ψ)|((with_reducible apply Q1e);rfl;rfl;rfl;(try simp only[go_sem,W]))|((with_reducible apply Q1l);rfl;rfl;rfl;all_goals(intro hb;first|(cases hb;done)|((try simp only[Bool.not_true,Bool.not_false] at hb);(first|((with_reducible intro K hK);(first|((first|(apply Q0x (b1);rfl;rfl;rfl;rfl;exact Try.func25)|(apply Q0x (b2);rfl;rfl;rfl;rfl;exact Try.func28)|(apply Q0x (b3);rfl;rfl;rfl;rfl;exact Try.func29)|(apply Q0x (b4);rfl;rfl;rfl;rfl;exact Try.func33));kernel_rfl;rfl;(focus((simp only[go_sem,W]);(try rfl);done));(first|rfl|simp[AV.inNL,AV.inN]))|skip);simp only[go_sem,W];((repeat(refine ndI (by first|assumption|omega|rfl) ?_));refine hK _ ?_;clear hK K))|((fail_if_success (with_reducible intro _));simp only[go_sem,W])))))|((with_reducible apply Q0f);rfl;rfl;all_goals(intro hc;first|(cases hc;done)|(try simp only at hc)))|(with_reducible refine Q3u 5 ?_)|((with_reducible refine Q4z ?_);intro Ψ hΨ hΨ')))))
  all_goals(refine⟨by simp,⟨_,?_,AV.le_refl _⟩,Q0y (by simp[leH,hget])⟩;simp only[Try.results11,resL,ldA,Q1o,go_sem])
  all_goals clear b1 b2 b3 b4 m2
  all_goals(cases q1<;>cases q2<;>cases q3<;>cases q4<;>first|rfl|contradiction)
end
section
open Go.RowKit
open Nat (reduceBEq)
set_option maxRecDepth 20000
set_option maxHeartbeats 4000000
def exN(w:Wl):Nat:=if Q2e w&&decide (Q3e w≤hasN w) then hasN w-Q3e w else 0
def exB(w:Wl):Bool:=Q2e w&&decide (Q3e w≤hasN w)
theorem excess_fn(w:Wl)(hw:w.ok):Fn Try.prog 9 [wlA w] [] (.tup [wN (exN w),vb (exB w)]) []:=by
 have f1:=has_fn w hw
 have f2:=X3f w hw
 have f3:=Q8v false w hw
 have s:=sub_fn (hasN w) (Q3e w) (Q7i hw) (Q6q w)
 have e:¬hasN w<Q3e w→(hasN w+WW-Q3e w)%WW=hasN w-Q3e w:=fun h=>by
  have h1:=Q7i hw
  rw[show hasN w+WW-Q3e w=(hasN w-Q3e w)+WW by omega,Nat.add_mod_right,Nat.mod_eq_of_lt (by omega)]
 unfold exN exB
 by_cases h:hasN w<Q3e w
 · rw[decide_eq_true h] at s
   rw[decide_eq_false (show ¬Q3e w≤hasN w by omega),Bool.and_false]
   simp only[Bool.false_eq_true,if_false]
   generalize (hasN w+WW-Q3e w)%WW=m at s
   generalize hasN w=n1 at *
   generalize Q3e w=n2 at *
   (refine Q1q Try.func9 rfl (by rfl) ?_;simp only[Try.ntmps9,List.length_cons,List.length_nil,Nat.reduceAdd,Nat.reduceSub,List.replicate,List.cons_append,List.nil_append])
   (repeat(any_goals(first|((with_reducible refine Q0g ?_ ?_);rfl;intro K hK;simp only[go_sem];((repeat(refine ndI (by first|assumption|omega|rfl) ?_));refine hK _ ?_;clear hK K))|(with_reducible first|(refine Q0i ?_;refine hR _ ?_;clear hR R)|((first|refine Q0h ?_|refine Q0c ?_);intro Ψ hΨ hΨ')|(refine Q0b ?_;intro R hR)|(refine hΨ _ ?_;clear hΨ hΨ' Ψ)|refine Q0d ?_|refine Q0j ?_|refine Q0e ?_)|((with_reducible refine hΨ' _ _ ?_ ?_);(focus(simp;done));clear hΨ hΨ' Ψ)|((with_reducible apply Q1e);rfl;rfl;rfl;(try simp only[go_sem]))|((with_reducible apply Q1l);rfl;rfl;rfl;all_goals(intro hb;first|(cases hb;done)|((try simp only[Bool.not_true,Bool.not_false] at hb);(first|((with_reducible intro K hK);simp only[go_sem];((repeat(refine ndI (by first|assumption|omega|rfl) ?_));refine hK _ ?_;clear hK K))|((fail_if_success (with_reducible intro _));simp only[go_sem])))))|((with_reducible apply Q0f);rfl;rfl;all_goals(intro hc;first|(cases hc;done)|(try simp only at hc)))|((with_reducible refine Q0t ?_ ?_);kernel_rfl;(with_reducible refine hR _ ?_);clear hR R)|((first|((with_reducible apply Q1m);rfl;rfl;((first|(apply Q1g (f1);rfl;rfl;rfl;rfl;exact Try.func22)|(apply Q1g (f2);rfl;rfl;rfl;rfl;exact Try.func23)|(apply Q1g (s);rfl;rfl;rfl;rfl;exact Try.func21));kernel_rfl;rfl;(focus((simp only[go_sem]);(try rfl);done));(first|rfl|simp[AV.inNL,AV.inN])))|((with_reducible apply Q0u);rfl;rfl;(simp only[rdE,rdOf,go_sem];rfl);(intro τ hA hQ hN;((try simp only[Q1h,Op.operands,Call.operands,go_sem,List.mem_cons,List.not_mem_nil,forall_eq_or_imp,forall_eq,List.append_toArray,Option.toArray] at hA);(try simp only[go_sem,List.mem_cons,List.not_mem_nil,forall_eq_or_imp,forall_eq] at hQ hN);(first|(revert hA;intro hA)|have hA:=trivial);(first|(revert hQ;intro hQ)|have hQ:=trivial);(first|(revert hN;intro hN)|have hN:=trivial);simp only[go_sem,hA,hQ,hN];(repeat(refine ndI (by first|assumption|omega|rfl) ?_));(first|apply Q1b|apply Q1a|apply Q0w))))|((first|((with_reducible apply Q2l);rfl;rfl;rfl)|((with_reducible apply Q1r);rfl;rfl;rfl;rfl;rfl;rfl));(intro τ hA hQ hN;((try simp only[Q1h,Op.operands,Call.operands,go_sem,List.mem_cons,List.not_mem_nil,forall_eq_or_imp,forall_eq,List.append_toArray,Option.toArray] at hA);(try simp only[go_sem,List.mem_cons,List.not_mem_nil,forall_eq_or_imp,forall_eq] at hQ);(first|(revert hA;intro hA)|have hA:=trivial);(first|(revert hQ;intro hQ)|have hQ:=trivial);simp only[go_sem,hA,hQ,hN];(repeat(refine ndI (by first|assumption|omega|rfl) ?_));exact Q0w _ _ _ _))));(simp only[St.eff,setO,Q0q,go_sem]))|((with_reducible refine Q0p ?_ ?_ ?_ ?_);kernel_rfl;kernel_rfl;(first|kernel_rfl|simp[Q0m,Q1j,St.free,Q1i,AV.refsL,AV.refs]);intro R hR))))
   all_goals(refine⟨by simp,⟨_,?_,AV.le_refl _⟩,Q0y (by simp[leH,hget])⟩;simp only[Try.results9,resL,ldA,Q1o,go_sem])
   all_goals rfl
 · rw[decide_eq_false h,e h] at s
   rw[decide_eq_true (show Q3e w≤hasN w by omega),Bool.and_true]
   generalize hasN w-Q3e w=m at s ⊢
   generalize hasN w=n1 at *
   generalize Q3e w=n2 at *
   generalize Q2e w=q at *
   cases q
   all_goals simp only[Bool.false_eq_true,if_false,if_true]
   all_goals(refine Q1q Try.func9 rfl (by rfl) ?_;simp only[Try.ntmps9,List.length_cons,List.length_nil,Nat.reduceAdd,Nat.reduceSub,List.replicate,List.cons_append,List.nil_append])
   all_goals(repeat(any_goals(first|((with_reducible refine Q0g ?_ ?_);rfl;intro K hK;simp only[go_sem];((repeat(refine ndI (by first|assumption|omega|rfl) ?_));refine hK _ ?_;clear hK K))|(with_reducible first|(refine Q0i ?_;refine hR _ ?_;clear hR R)|((first|refine Q0h ?_|refine Q0c ?_);intro Ψ hΨ hΨ')|(refine Q0b ?_;intro R hR)|(refine hΨ _ ?_;clear hΨ hΨ' Ψ)|refine Q0d ?_|refine Q0j ?_|refine Q0e ?_)|((with_reducible refine hΨ' _ _ ?_ ?_);(focus(simp;done));clear hΨ hΨ' Ψ)|((with_reducible apply Q1e);rfl;rfl;rfl;(try simp only[go_sem]))|((with_reducible apply Q1l);rfl;rfl;rfl;all_goals(intro hb;first|(cases hb;done)|((try simp only[Bool.not_true,Bool.not_false] at hb);(first|((with_reducible intro K hK);(first|((apply Q5o (f3);rfl;rfl;rfl;rfl;exact Try.func24);kernel_rfl;rfl;(focus((simp only[AV.viewL,AV.view,Q3w,unC,Option.map_some,go_sem]);(try rfl)));rfl)|skip);simp only[go_sem];((repeat(refine ndI (by first|assumption|omega|rfl) ?_));refine hK _ ?_;clear hK K))|((fail_if_success (with_reducible intro _));simp only[go_sem])))))|((with_reducible apply Q0f);rfl;rfl;all_goals(intro hc;first|(cases hc;done)|(try simp only at hc)))|((with_reducible refine Q0t ?_ ?_);kernel_rfl;(with_reducible refine hR _ ?_);clear hR R)|((first|((with_reducible apply Q1m);rfl;rfl;((first|(apply Q1g (f1);rfl;rfl;rfl;rfl;exact Try.func22)|(apply Q1g (f2);rfl;rfl;rfl;rfl;exact Try.func23)|(apply Q1g (s);rfl;rfl;rfl;rfl;exact Try.func21));kernel_rfl;rfl;(focus((simp only[go_sem]);(try rfl);done));(first|rfl|simp[AV.inNL,AV.inN])))|((with_reducible apply Q0u);rfl;rfl;(simp only[rdE,rdOf,go_sem];rfl);(intro τ hA hQ hN;((try simp only[Q1h,Op.operands,Call.operands,go_sem,List.mem_cons,List.not_mem_nil,forall_eq_or_imp,forall_eq,List.append_toArray,Option.toArray] at hA);(try simp only[go_sem,List.mem_cons,List.not_mem_nil,forall_eq_or_imp,forall_eq] at hQ hN);(first|(revert hA;intro hA)|have hA:=trivial);(first|(revert hQ;intro hQ)|have hQ:=trivial);(first|(revert hN;intro hN)|have hN:=trivial);simp only[go_sem,hA,hQ,hN];(repeat(refine ndI (by first|assumption|omega|rfl) ?_));(first|apply Q1b|apply Q1a|apply Q0w))))|((first|((with_reducible apply Q2l);rfl;rfl;rfl)|((with_reducible apply Q1r);rfl;rfl;rfl;rfl;rfl;rfl));(intro τ hA hQ hN;((try simp only[Q1h,Op.operands,Call.operands,go_sem,List.mem_cons,List.not_mem_nil,forall_eq_or_imp,forall_eq,List.append_toArray,Option.toArray] at hA);(try simp only[go_sem,List.mem_cons,List.not_mem_nil,forall_eq_or_imp,forall_eq] at hQ);(first|(revert hA;intro hA)|have hA:=trivial);(first|(revert hQ;intro hQ)|have hQ:=trivial);simp only[go_sem,hA,hQ,hN];(repeat(refine ndI (by first|assumption|omega|rfl) ?_));exact Q0w _ _ _ _))));(simp only[St.eff,setO,Q0q,go_sem]))|((with_reducible refine Q0p ?_ ?_ ?_ ?_);kernel_rfl;kernel_rfl;(first|kernel_rfl|simp[Q0m,Q1j,St.free,Q1i,AV.refsL,AV.refs]);intro R hR))))
   all_goals(refine⟨by simp,⟨_,?_,AV.le_refl _⟩,Q0y (by simp[leH,hget])⟩;simp only[Try.results9,resL,ldA,Q1o,go_sem])
   all_goals rfl
theorem findP_lt{l:List lg.Hd}(ok:∀h∈l,h.ok)(a:Int):(lg.findP l a).p<WW∧(lg.findP l a).s<WW:=by
 unfold lg.findP
 split
 · exact⟨by decide,by decide⟩
 · split
   · unfold lg.findH
     split
     · rename_i y hy
       split
       · have:=ok y (List.mem_of_getElem? hy)
         exact⟨this.2.1,this.2.2.1⟩
       · exact⟨(by decide:0<WW),(by decide:0<WW)⟩
     · exact⟨(by decide:0<WW),(by decide:0<WW)⟩
   · exact⟨by decide,by decide⟩
theorem wealth_fn(w:Wl)(hw:w.ok)(a:Int)(ua:U a):Fn Try.prog 12 [wlA w,vi .u64 a] [] (wN (X2y w a)) []:=by
 have f1:=Q8v false w hw
 have f2:=X5a w hw a
 have f3:=lg.findF_fn false w.L (Nat.le_trans hw.l.1 (by decide)) hw.l.2 a
 have lt:=findP_lt hw.l.2 a
 have sm:=X1h false [(OfS w.S a).b,(lg.findP w.L a).p,(lg.findP w.L a).s] (by simp) (fun x hx=>by
  simp only[List.mem_cons,List.not_mem_nil,or_false] at hx
  rcases hx with rfl|rfl|rfl
  · exact of_lt hw a ua
  · exact lt.1
  · exact lt.2)
 unfold X2y
 by_cases h0:a=0
 · have k0:(a==0)=true:=by simpa using h0
   rw[if_pos h0]
   (refine Q1q Try.func12 rfl (by rfl) ?_;simp only[Try.ntmps12,List.length_cons,List.length_nil,Nat.reduceAdd,Nat.reduceSub,List.replicate,List.cons_append,List.nil_append])
   (repeat(any_goals(first|((with_reducible refine Q0g ?_ ?_);rfl;intro K hK;simp only[go_sem,k0];((repeat(refine ndI (by first|assumption|omega|rfl) ?_));refine hK _ ?_;clear hK K))|(with_reducible first|(refine Q0i ?_;refine hR _ ?_;clear hR R)|((first|refine Q0h ?_|refine Q0c ?_);intro Ψ hΨ hΨ')|(refine Q0b ?_;intro R hR)|(refine hΨ _ ?_;clear hΨ hΨ' Ψ)|refine Q0d ?_|refine Q0j ?_|refine Q0e ?_)|((with_reducible refine hΨ' _ _ ?_ ?_);(focus(simp;done));clear hΨ hΨ' Ψ)|((with_reducible apply Q1e);rfl;rfl;rfl;(try simp only[go_sem,k0]))|((with_reducible apply Q1l);rfl;rfl;rfl;all_goals(intro hb;first|(cases hb;done)|((try simp only[Bool.not_true,Bool.not_false] at hb);(first|((with_reducible intro K hK);simp only[go_sem,k0];((repeat(refine ndI (by first|assumption|omega|rfl) ?_));refine hK _ ?_;clear hK K))|((fail_if_success (with_reducible intro _));simp only[go_sem,k0])))))|((with_reducible apply Q0f);rfl;rfl;all_goals(intro hc;first|(cases hc;done)|(try simp only at hc)))|((with_reducible refine Q0t ?_ ?_);kernel_rfl;(with_reducible refine hR _ ?_);clear hR R)|((first|((with_reducible apply Q0u);rfl;rfl;(simp only[rdE,rdOf,go_sem,k0];rfl);(intro τ hA hQ hN;((try simp only[Q1h,Op.operands,Call.operands,go_sem,k0,go_sem,List.mem_cons,List.not_mem_nil,forall_eq_or_imp,forall_eq,List.append_toArray,Option.toArray] at hA);(try simp only[go_sem,k0,List.mem_cons,List.not_mem_nil,forall_eq_or_imp,forall_eq] at hQ hN);(first|(revert hA;intro hA)|have hA:=trivial);(first|(revert hQ;intro hQ)|have hQ:=trivial);(first|(revert hN;intro hN)|have hN:=trivial);simp only[go_sem,k0,go_sem,hA,hQ,hN];(repeat(refine ndI (by first|assumption|omega|rfl) ?_));(first|apply Q1b|apply Q1a|apply Q0w))))|((first|((with_reducible apply Q2l);rfl;rfl;rfl)|((with_reducible apply Q1r);rfl;rfl;rfl;rfl;rfl;rfl));(intro τ hA hQ hN;((try simp only[Q1h,Op.operands,Call.operands,go_sem,k0,go_sem,List.mem_cons,List.not_mem_nil,forall_eq_or_imp,forall_eq,List.append_toArray,Option.toArray] at hA);(try simp only[go_sem,k0,List.mem_cons,List.not_mem_nil,forall_eq_or_imp,forall_eq] at hQ);(first|(revert hA;intro hA)|have hA:=trivial);(first|(revert hQ;intro hQ)|have hQ:=trivial);simp only[go_sem,k0,go_sem,hA,hQ,hN];(repeat(refine ndI (by first|assumption|omega|rfl) ?_));exact Q0w _ _ _ _))));(simp only[St.eff,setO,Q0q,go_sem,k0]))|((with_reducible refine Q0p ?_ ?_ ?_ ?_);kernel_rfl;kernel_rfl;(first|kernel_rfl|simp[Q0m,Q1j,St.free,Q1i,AV.refsL,AV.refs]);intro R hR))))
   all_goals(refine⟨by simp,⟨_,?_,AV.le_refl _⟩,Q0y (by simp[leH,hget])⟩;simp only[Try.results12,resL,ldA,Q1o,go_sem])
   all_goals rfl
 have k0:(a==0)=false:=by simpa using h0
 rw[if_neg h0]
 generalize Q2e w=q at *
 cases q with
 |false=>
  simp only[Bool.false_eq_true,if_false]
  (refine Q1q Try.func12 rfl (by rfl) ?_;simp only[Try.ntmps12,List.length_cons,List.length_nil,Nat.reduceAdd,Nat.reduceSub,List.replicate,List.cons_append,List.nil_append])
  (repeat(any_goals(first|((with_reducible refine Q0g ?_ ?_);rfl;intro K hK;simp only[go_sem,k0];((repeat(refine ndI (by first|assumption|omega|rfl) ?_));refine hK _ ?_;clear hK K))|(with_reducible first|(refine Q0i ?_;refine hR _ ?_;clear hR R)|((first|refine Q0h ?_|refine Q0c ?_);intro Ψ hΨ hΨ')|(refine Q0b ?_;intro R hR)|(refine hΨ _ ?_;clear hΨ hΨ' Ψ)|refine Q0d ?_|refine Q0j ?_|refine Q0e ?_)|((with_reducible refine hΨ' _ _ ?_ ?_);(focus(simp;done));clear hΨ hΨ' Ψ)|((with_reducible apply Q1e);rfl;rfl;rfl;(try simp only[go_sem,k0]))|((with_reducible apply Q1l);rfl;rfl;rfl;all_goals(intro hb;first|(cases hb;done)|((try simp only[Bool.not_true,Bool.not_false] at hb);(first|((with_reducible intro K hK);(first|((apply Q5o (f1);rfl;rfl;rfl;rfl;exact Try.func24);kernel_rfl;rfl;(focus((simp only[AV.viewL,AV.view,Q3w,unC,Option.map_some,go_sem,k0]);(try rfl)));rfl)|skip);simp only[go_sem,k0];((repeat(refine ndI (by first|assumption|omega|rfl) ?_));refine hK _ ?_;clear hK K))|((fail_if_success (with_reducible intro _));simp only[go_sem,k0])))))|((with_reducible apply Q0f);rfl;rfl;all_goals(intro hc;first|(cases hc;done)|(try simp only at hc)))|((with_reducible refine Q0t ?_ ?_);kernel_rfl;(with_reducible refine hR _ ?_);clear hR R)|((first|((with_reducible apply Q0u);rfl;rfl;(simp only[rdE,rdOf,go_sem,k0];rfl);(intro τ hA hQ hN;((try simp only[Q1h,Op.operands,Call.operands,go_sem,k0,go_sem,List.mem_cons,List.not_mem_nil,forall_eq_or_imp,forall_eq,List.append_toArray,Option.toArray] at hA);(try simp only[go_sem,k0,List.mem_cons,List.not_mem_nil,forall_eq_or_imp,forall_eq] at hQ hN);(first|(revert hA;intro hA)|have hA:=trivial);(first|(revert hQ;intro hQ)|have hQ:=trivial);(first|(revert hN;intro hN)|have hN:=trivial);simp only[go_sem,k0,go_sem,hA,hQ,hN];(repeat(refine ndI (by first|assumption|omega|rfl) ?_));(first|apply Q1b|apply Q1a|apply Q0w))))|((first|((with_reducible apply Q2l);rfl;rfl;rfl)|((with_reducible apply Q1r);rfl;rfl;rfl;rfl;rfl;rfl));(intro τ hA hQ hN;((try simp only[Q1h,Op.operands,Call.operands,go_sem,k0,go_sem,List.mem_cons,List.not_mem_nil,forall_eq_or_imp,forall_eq,List.append_toArray,Option.toArray] at hA);(try simp only[go_sem,k0,List.mem_cons,List.not_mem_nil,forall_eq_or_imp,forall_eq] at hQ);(first|(revert hA;intro hA)|have hA:=trivial);(first|(revert hQ;intro hQ)|have hQ:=trivial);simp only[go_sem,k0,go_sem,hA,hQ,hN];(repeat(refine ndI (by first|assumption|omega|rfl) ?_));exact Q0w _ _ _ _))));(simp only[St.eff,setO,Q0q,go_sem,k0]))|((with_reducible refine Q0p ?_ ?_ ?_ ?_);kernel_rfl;kernel_rfl;(first|kernel_rfl|simp[Q0m,Q1j,St.free,Q1i,AV.refsL,AV.refs]);intro R hR))))
  all_goals(refine⟨by simp,⟨_,?_,AV.le_refl _⟩,Q0y (by simp[leH,hget])⟩;simp only[Try.results12,resL,ldA,Q1o,go_sem])
  all_goals rfl
 |true=>
  simp only[if_true]
  generalize [(OfS w.S a).b,(lg.findP w.L a).p,(lg.findP w.L a).s].sum%WW=m at sm ⊢
  generalize decide (WW≤[(OfS w.S a).b,(lg.findP w.L a).p,(lg.findP w.L a).s].sum)=qo at sm
  generalize (OfS w.S a).b=n1 at *
  generalize lg.findP w.L a=h at *
  obtain⟨ha,hp,hs,hd,hf⟩:=h
  dsimp only at *
  unfold wsl wpv at sm
  simp only[List.flatMap_cons,List.flatMap_nil,List.cons_append,List.nil_append,List.length_cons,List.length_nil,Nat.reduceAdd] at sm
  (refine Q1q Try.func12 rfl (by rfl) ?_;simp only[Try.ntmps12,List.length_cons,List.length_nil,Nat.reduceAdd,Nat.reduceSub,List.replicate,List.cons_append,List.nil_append])
  (repeat(any_goals(first|((with_reducible refine Q1d ?_ ?_ ?_);rfl;rfl;intro K hK;((apply Q0x (f3);rfl;rfl;rfl;rfl;exact Try.func35);kernel_rfl;rfl;(focus((simp only[go_sem,k0]);(try rfl);done));(first|rfl|simp[AV.inNL,AV.inN]));(simp only[go_sem,k0];refine hK _ ?_;clear hK K))|((with_reducible refine Q0g ?_ ?_);rfl;intro K hK;simp only[go_sem,k0];((repeat(refine ndI (by first|assumption|omega|rfl) ?_));refine hK _ ?_;clear hK K))|(with_reducible first|(refine Q0i ?_;refine hR _ ?_;clear hR R)|((first|refine Q0h ?_|refine Q0c ?_);intro Ψ hΨ hΨ')|(refine Q0b ?_;intro R hR)|(refine hΨ _ ?_;clear hΨ hΨ' Ψ)|refine Q0d ?_|refine Q0j ?_|refine Q0e ?_)|((with_reducible refine hΨ' _ _ ?_ ?_);(focus(simp;done));clear hΨ hΨ' Ψ)|((with_reducible apply Q1e);rfl;rfl;rfl;(try simp only[go_sem,k0]))|((with_reducible apply Q1l);rfl;rfl;rfl;all_goals(intro hb;first|(cases hb;done)|((try simp only[Bool.not_true,Bool.not_false] at hb);(first|((with_reducible intro K hK);(first|((apply Q5o (f1);rfl;rfl;rfl;rfl;exact Try.func24);kernel_rfl;rfl;(focus((simp only[AV.viewL,AV.view,Q3w,unC,Option.map_some,go_sem,k0]);(try rfl)));rfl)|skip);simp only[go_sem,k0];((repeat(refine ndI (by first|assumption|omega|rfl) ?_));refine hK _ ?_;clear hK K))|((fail_if_success (with_reducible intro _));simp only[go_sem,k0])))))|((with_reducible apply Q0f);rfl;rfl;all_goals(intro hc;first|(cases hc;done)|(try simp only at hc)))|((with_reducible refine Q0t ?_ ?_);kernel_rfl;(with_reducible refine hR _ ?_);clear hR R)|((first|((with_reducible apply Q1m);rfl;rfl;(first|((apply Q1g (f2);rfl;rfl;rfl;rfl;exact Try.func34);kernel_rfl;rfl;(focus((simp only[go_sem,k0]);(try rfl);done));(first|rfl|simp[AV.inNL,AV.inN]))|((apply X1t (sm);rfl;rfl;rfl;rfl;exact Try.func19);kernel_rfl;rfl;(focus((simp only[AV.viewL,AV.view,Q3w,unC,Option.map_some,go_sem,k0]);(try rfl)));rfl;(simp only[AV.rowsL,AV.rows,go_sem,k0];rfl))))|((with_reducible apply Q0u);rfl;rfl;(simp only[rdE,rdOf,go_sem,k0];rfl);(intro τ hA hQ hN;((try simp only[Q1h,Op.operands,Call.operands,go_sem,k0,go_sem,List.mem_cons,List.not_mem_nil,forall_eq_or_imp,forall_eq,List.append_toArray,Option.toArray] at hA);(try simp only[go_sem,k0,List.mem_cons,List.not_mem_nil,forall_eq_or_imp,forall_eq] at hQ hN);(first|(revert hA;intro hA)|have hA:=trivial);(first|(revert hQ;intro hQ)|have hQ:=trivial);(first|(revert hN;intro hN)|have hN:=trivial);simp only[go_sem,k0,go_sem,hA,hQ,hN];(repeat(refine ndI (by first|assumption|omega|rfl) ?_));(first|apply Q1b|apply Q1a|apply Q0w))))|((first|((with_reducible apply Q2l);rfl;rfl;rfl)|((with_reducible apply Q1r);rfl;rfl;rfl;rfl;rfl;rfl));(intro τ hA hQ hN;((try simp only[Q1h,Op.operands,Call.operands,go_sem,k0,go_sem,List.mem_cons,List.not_mem_nil,forall_eq_or_imp,forall_eq,List.append_toArray,Option.toArray] at hA);(try simp only[go_sem,k0,List.mem_cons,List.not_mem_nil,forall_eq_or_imp,forall_eq] at hQ);(first|(revert hA;intro hA)|have hA:=trivial);(first|(revert hQ;intro hQ)|have hQ:=trivial);simp only[go_sem,k0,go_sem,hA,hQ,hN];(repeat(refine ndI (by first|assumption|omega|rfl) ?_));exact Q0w _ _ _ _))));(simp only[St.eff,setO,Q0q,go_sem,k0]))|((with_reducible refine Q0p ?_ ?_ ?_ ?_);kernel_rfl;kernel_rfl;(first|kernel_rfl|simp[Q0m,Q1j,St.free,Q1i,AV.refsL,AV.refs]);intro R hR))))
  all_goals(refine⟨by simp,⟨_,?_,AV.le_refl _⟩,Q0y (by simp[leH,hget])⟩;simp only[Try.results12,resL,ldA,Q1o,go_sem])
end
section
open Go.RowKit
open Nat (reduceBEq)
set_option maxRecDepth 20000
set_option maxHeartbeats 4000000
def smW(d:Nat):Wl:=⟨[⟨1,9,0,[],[]⟩,⟨20,100,0,[],[]⟩],[⟨20,d,0,0,0⟩],[]⟩
abbrev nilA:AV:=.c (.v (.slice none 0 0))
abbrev smB(d:Nat):List PV:=[.v (.int .u64 20),.v (.int .u64 d),.v (.int .u64 0),.v (.int .u64 0),.v (.int .u64 0),.v (.int .u64 0),.v (.int .u64 0),.v (.int .u64 0),.v (.int .u64 0),.v (.int .u64 0),.v (.int .u64 0)]
theorem small_row(d:Nat):Fn Try.prog 10 [vi .u64 d] [] (.agg [.row 7 72 8 2,.row 12 74 11 1,nilA])
 [(7,[vi .u64 1,vi .u64 9,vi .u64 0,vi .u64 0,vi .u64 0,vi .u64 0,nilA,nilA,vi .u64 20,vi .u64 100,vi .u64 0,vi .u64 0,vi .u64 0,vi .u64 0,nilA,nilA]),(12,(smB d).map .c)]:=by
 (refine Q1q Try.func10 rfl (by rfl) ?_;simp only[Try.ntmps10,List.length_cons,List.length_nil,Nat.reduceAdd,Nat.reduceSub,List.replicate,List.cons_append,List.nil_append])
 (repeat(any_goals(first|((with_reducible refine Q0g ?_ ?_);rfl;intro K hK;simp only[go_sem];((repeat(refine ndI (by first|assumption|omega|rfl) ?_));refine hK _ ?_;clear hK K))|(with_reducible first|(refine Q0i ?_;refine hR _ ?_;clear hR R)|((first|refine Q0h ?_|refine Q0c ?_);intro Ψ hΨ hΨ')|(refine Q0b ?_;intro R hR)|(refine hΨ _ ?_;clear hΨ hΨ' Ψ)|refine Q0d ?_|refine Q0j ?_|refine Q0e ?_)|((with_reducible refine hΨ' _ _ ?_ ?_);(focus(simp;done));clear hΨ hΨ' Ψ)|((with_reducible apply Q0f);rfl;rfl;all_goals(intro hc;first|(cases hc;done)|(try simp only at hc))))))
 all_goals(refine⟨by simp,⟨_,?_,AV.le_refl _⟩,Q0y (by simp[leH,hget])⟩;simp only[Try.results10,resL,ldA,Q1o,go_sem])
theorem X4f(d:Nat)(hd:d<18446744073709551616):Fn Try.prog 10 [vi .u64 d] [] (wlA (smW d)) []:=by
 have k1:=(small_row d).to (St.to.cells 7 (ds:=((smW d).S.flatMap Ac.pv).map .c) rfl (by
  simp only[smW,List.flatMap_cons,List.flatMap_nil,Ac.pv,List.cons_append,List.nil_append,List.map_cons,List.map_nil,leL]
  exact⟨AV.le_refl _,AV.le_refl _,AV.le_refl _,AV.le_refl _,AV.le_refl _,AV.le_refl _,AV.le_nil _ _,AV.le_nil _ _,AV.le_refl _,AV.le_refl _,AV.le_refl _,AV.le_refl _,AV.le_refl _,AV.le_refl _,AV.le_nil _ _,AV.le_nil _ _,trivial⟩))
 have k2:=k1.frzN (d:=7) (pcs:=(smW d).S.flatMap Ac.pv) rfl
 have e:smB d=(smW d).L.flatMap lg.Hd.pv:=by
  have h0:l0 d=(d:Int):=by unfold l0;rw[Nat.mod_eq_of_lt hd]
  have h1:l1 d=0:=by unfold l1;rw[Nat.div_eq_of_lt hd];rfl
  have h2:l2 d=0:=by unfold l2;rw[Nat.div_eq_of_lt hd];rfl
  have h3:l3 d=0:=by unfold l3;rw[Nat.div_eq_of_lt hd];rfl
  simp[smW,lg.Hd.pv,h0,h1,h2,h3,Q4i,Q4h,Q4g,Q4f]
 have k3:=k2.frzN (d:=12) (pcs:=smB d) rfl
 refine k3.weaken ?_ (fun r cs h=>by cases h)
 simp only[AV.frz,AV.frzL,if_true,eq_self,↓reduceIte,Nat.reduceEqDiff]
 rw[e]
 exact AV.le_agg ⟨AV.le_refl _,AV.le_refl _,AV.le_nil _ _,trivial⟩
theorem X1k(d:Nat)(hd:d<WW):(smW d).ok:=by
 have hu:∀x:Int,0≤x→x≤18446744073709551615→U x:=fun x h1 h2=>⟨h1,h2⟩
 refine⟨⟨(by decide:2≤60),fun x hx=>?_⟩,⟨(by decide:1≤60),fun x hx=>?_⟩,⟨(by decide:0≤70),fun x hx=>by cases hx⟩⟩
 · simp only[smW,List.mem_cons,List.not_mem_nil,or_false] at hx
   rcases hx with rfl|rfl
   · exact⟨⟨hu 1 (by decide) (by decide),(by decide:9<WW),hu 0 (by decide) (by decide),⟨Nat.zero_le _,fun c h=>by cases h⟩,Nat.zero_le _,fun p h=>by cases h⟩,Nat.zero_le _,Nat.zero_le _⟩
   · exact⟨⟨hu 20 (by decide) (by decide),(by decide:100<WW),hu 0 (by decide) (by decide),⟨Nat.zero_le _,fun c h=>by cases h⟩,Nat.zero_le _,fun p h=>by cases h⟩,Nat.zero_le _,Nat.zero_le _⟩
 · simp only[smW,List.mem_cons,List.not_mem_nil,or_false] at hx
   subst hx
   exact⟨hu 20 (by decide) (by decide),hd,(by decide:0<WW),hu 0 (by decide) (by decide),hu 0 (by decide) (by decide)⟩
def smT(a b:Nat):Tn:=⟨smW a,smW b,[],0,0,0⟩
theorem smT_ok{a b:Nat}(ha:a<WW)(hb:b<WW):(smT a b).ok:=⟨X1k a ha,X1k b hb,⟨Nat.zero_le _,fun x h=>by cases h⟩,⟨Int.le_refl 0,by show(0:Int)≤_;decide⟩,(by decide:0<WW),(by decide:0<WW)⟩
abbrev i0:AV:=.c (.v (.int .u64 0))
theorem smJ(a b:Nat)(ha:a<WW)(hb:b<WW)(n:Int)(hn:jdN (smT a b)=n)(he:jdE (smT a b)=0):Fn Try.prog 11 [.agg [.c (acV (smW a).S),.c (hdV (smW a).L),.c (noV (smW a).N),.c (acV (smW b).S),.c (hdV (smW b).L),.c (noV (smW b).N),nilA,i0,i0,i0,i0,i0,i0,i0,i0,i0]] [] (.tup [vi .i64 n,vi .i64 0]) []:=by
 have h:=judge_fn (smT a b) (smT_ok ha hb)
 rw[hn,he] at h
 unfold tnA smT at h
 simp only[Q4i,Q4h,Q4g,Q4f] at h
 exact h.args ⟨AV.le_agg ⟨AV.le_refl _,AV.le_refl _,AV.le_refl _,AV.le_refl _,AV.le_refl _,AV.le_refl _,AV.le_nil _ _,AV.le_refl _,AV.le_refl _,AV.le_refl _,AV.le_refl _,AV.le_refl _,AV.le_refl _,AV.le_refl _,AV.le_refl _,AV.le_refl _,trivial⟩,trivial⟩
abbrev c4W(x:Int):AV:=.agg [vi .u64 x,vi .u64 0,vi .u64 0,vi .u64 0]
theorem wakesI_fn:Fn Try.prog 4 [] [] (vb true) []:=by
 have s7:=X4f 7 (by decide)
 have s8:=X4f 8 (by decide)
 have g1:Fn Try.prog 9 [wlA (smW 7)] [] (.tup [c4W 2,vb true]) []:=by
  have h:=excess_fn (smW 7) (X1k 7 (by decide))
  rw[show exN (smW 7)=2 by kernel_rfl,show exB (smW 7)=true by kernel_rfl] at h
  exact h
 have g2:=smJ 7 8 (by decide) (by decide) 1 (by kernel_rfl) (by kernel_rfl)
 have g3:=smJ 8 7 (by decide) (by decide) 0 (by kernel_rfl) (by kernel_rfl)
 have g4:Fn Try.prog 12 [wlA (smW 7),vi .u64 20] [] (c4W 107) []:=by
  have h:=wealth_fn (smW 7) (X1k 7 (by decide)) 20 ⟨by decide,by decide⟩
  rw[show X2y (smW 7) 20=107 by kernel_rfl] at h
  exact h
 have g5:Fn Try.prog 13 [wlA (smW 7)] [] (c4W 109) []:=by
  have h:=Q8d (smW 7) (X1k 7 (by decide))
  rw[show Q2i (smW 7)=109 by kernel_rfl] at h
  exact h
 generalize smW 7=a1 at *
 generalize smW 8=a2 at *
 (refine Q1q Try.func4 rfl (by rfl) ?_;simp only[Try.ntmps4,List.length_cons,List.length_nil,Nat.reduceAdd,Nat.reduceSub,List.replicate,List.cons_append,List.nil_append])
 (repeat(any_goals(first|((with_reducible refine Q1d ?_ ?_ ?_);rfl;rfl;intro K hK;(first|((apply Q0x (g1);rfl;rfl;rfl;rfl;exact Try.func9);kernel_rfl;rfl;(focus((simp only[go_sem]);(try rfl);done));(first|rfl|simp[AV.inNL,AV.inN]))|((apply Q0x (s7);rfl;rfl;rfl;rfl;exact Try.func10);kernel_rfl;rfl;(focus((simp only[go_sem]);(try rfl);done));(first|rfl|simp[AV.inNL,AV.inN]))|((apply Q0x (s8);rfl;rfl;rfl;rfl;exact Try.func10);kernel_rfl;rfl;(focus((simp only[go_sem]);(try rfl);done));(first|rfl|simp[AV.inNL,AV.inN]))|((apply Q0x (g2);rfl;rfl;rfl;rfl;exact Try.func11);kernel_rfl;rfl;(focus((simp only[go_sem]);(try rfl);done));(first|rfl|simp[AV.inNL,AV.inN]))|((apply Q0x (g3);rfl;rfl;rfl;rfl;exact Try.func11);kernel_rfl;rfl;(focus((simp only[go_sem]);(try rfl);done));(first|rfl|simp[AV.inNL,AV.inN])));(simp only[go_sem];refine hK _ ?_;clear hK K))|((with_reducible refine Q0g ?_ ?_);rfl;intro K hK;simp only[go_sem];((repeat(refine ndI (by first|assumption|omega|rfl) ?_));refine hK _ ?_;clear hK K))|(with_reducible first|(refine Q0i ?_;refine hR _ ?_;clear hR R)|((first|refine Q0h ?_|refine Q0c ?_);intro Ψ hΨ hΨ')|(refine Q0b ?_;intro R hR)|(refine hΨ _ ?_;clear hΨ hΨ' Ψ)|refine Q0d ?_|refine Q0j ?_|refine Q0e ?_)|((with_reducible refine hΨ' _ _ ?_ ?_);(focus(simp;done));clear hΨ hΨ' Ψ)|((with_reducible apply Q1e);rfl;rfl;rfl;(try simp only[go_sem]))|((with_reducible apply Q1l);rfl;rfl;rfl;all_goals(intro hb;first|(cases hb;done)|((try simp only[Bool.not_true,Bool.not_false] at hb);(first|((with_reducible intro K hK);(first|((first|(apply Q0x (g4);rfl;rfl;rfl;rfl;exact Try.func12)|(apply Q0x (g5);rfl;rfl;rfl;rfl;exact Try.func13));kernel_rfl;rfl;(focus((simp only[go_sem]);(try rfl);done));(first|rfl|simp[AV.inNL,AV.inN]))|((apply Q0x (s7);rfl;rfl;rfl;rfl;exact Try.func10);kernel_rfl;rfl;(focus((simp only[go_sem]);(try rfl);done));(first|rfl|simp[AV.inNL,AV.inN]))|((apply Q0x (s8);rfl;rfl;rfl;rfl;exact Try.func10);kernel_rfl;rfl;(focus((simp only[go_sem]);(try rfl);done));(first|rfl|simp[AV.inNL,AV.inN]))|skip);simp only[go_sem];((repeat(refine ndI (by first|assumption|omega|rfl) ?_));refine hK _ ?_;clear hK K))|((fail_if_success (with_reducible intro _));simp only[go_sem])))))|((with_reducible apply Q0f);rfl;rfl;all_goals(intro hc;first|(cases hc;done)|(try simp only at hc))))))
 all_goals(refine⟨by simp,⟨_,?_,AV.le_refl _⟩,Q0y (by simp[leH,hget])⟩;simp only[Try.results4,resL,ldA,Q1o,go_sem])
end
section
open Go.RowKit
open Nat (reduceBEq)
attribute [-go_sem] IntKind.bits
set_option maxRecDepth 20000
set_option maxHeartbeats 2000000
theorem X2e{V:Type}(k:Int)(v:V):∀m:List (Int×V),(mput m k v).map (·.1)=if k∈m.map (·.1) then m.map (·.1) else m.map (·.1)++[k]
 |[]=>by simp[mput]
 |p::m=>by
  have ih:=X2e k v m
  unfold mput
  by_cases h:k=p.1
  · rw[if_pos h,if_pos (by simp[h])]
    simp[h]
  · rw[if_neg h]
    simp only[List.map_cons,ih,List.mem_cons]
    by_cases h2:k∈m.map (·.1)
    · rw[if_pos h2,if_pos (.inr h2)]
    · rw[if_neg h2,if_neg (by rintro (e|e);exact h e;exact h2 e)]
      simp
theorem Q9t(l:List Rp):((Q6a l).map (·.1)).Nodup∧∀a,a∈(Q6a l).map (·.1)↔a∈l.map Rp.a:=by
 have key:∀(l:List Rp) (m:List (Int×Bl)),(m.map (·.1)).Nodup→((l.foldl (fun m r=>mput m r.a (Q5c r (mget bl0 m r.a))) m).map (·.1)).Nodup∧∀a,a∈(l.foldl (fun m r=>mput m r.a (Q5c r (mget bl0 m r.a))) m).map (·.1)↔a∈m.map (·.1)∨a∈l.map Rp.a:=by
  intro l
  induction l with
  |nil=>intro m h;exact⟨h,fun a=>by simp⟩
  |cons r l ih=>
   intro m h
   have h1:=X2e r.a (Q5c r (mget bl0 m r.a)) m
   have h2:((mput m r.a (Q5c r (mget bl0 m r.a))).map (·.1)).Nodup:=by
    rw[h1]
    split
    · exact h
    · rename_i hn
      refine List.nodup_append.2 ⟨h,by simp,fun x hx y hy e=>?_⟩
      simp at hy
      subst hy
      subst e
      exact hn hx
   have h3:∀a,a∈(mput m r.a (Q5c r (mget bl0 m r.a))).map (·.1)↔a∈m.map (·.1)∨a=r.a:=fun a=>by
    rw[h1]
    split
    · rename_i hy
      constructor
      · exact .inl
      · rintro (h|h)
        · exact h
        · rw[h];exact hy
    · rw[List.mem_append];simp
   obtain⟨g1,g2⟩:=ih _ h2
   refine⟨g1,fun a=>?_⟩
   rw[List.foldl_cons,g2 a,h3 a,List.map_cons,List.mem_cons,or_assoc]
 have:=key l [] .nil
 refine⟨this.1,fun a=>?_⟩
 rw[show a∈(Q6a l).map (·.1)↔_ from this.2 a]
 simp
theorem X2j{a:Int}:∀(l:List Rp) (b:Bl),a∉l.map Rp.a→l.foldl (Q5z a) b=b
 |[],b,_=>rfl
 |r::l,b,h=>by
  rw[List.map_cons,List.mem_cons,not_or] at h
  rw[List.foldl_cons,show Q5z a b r=b by unfold Q5z;rw[if_neg (fun e=>h.1 e.symm)]]
  exact X2j l b h.2
theorem Q9a(a:Int):∀(l:List Rp) (m:List (Int×Bl)),a∈l.map Rp.a→mget bl0 (l.foldl (fun m r=>mput m r.a (Q5c r (mget bl0 m r.a))) m) a=l.foldl (Q5z a) ⟨a,(mget bl0 m a).o,(mget bl0 m a).c⟩∨a∉l.map Rp.a
 |[],m,h=>by cases h
 |r::l,m,h=>by
  left
  rw[List.foldl_cons,List.foldl_cons]
  have e1:∀z:Bl,z=⟨a,(mget bl0 m a).o,(mget bl0 m a).c⟩→Q5z a z r=if r.a=a then⟨a,(mget bl0 m a).o+1,((mget bl0 m a).c+r.c)%WW⟩ else⟨a,(mget bl0 m a).o,(mget bl0 m a).c⟩:=fun z hz=>by
   subst hz;rfl
  rw[e1 _ rfl]
  by_cases ha:r.a=a
  · rw[if_pos ha]
    by_cases hl:a∈l.map Rp.a
    · rcases Q9a a l (mput m r.a (Q5c r (mget bl0 m r.a))) hl with h2|h2
      · rw[h2,Q6e,if_pos ha.symm,ha]
        rfl
      · exact absurd hl h2
    · rw[X2j l _ hl]
      have hk:∀(l:List Rp) (m:List (Int×Bl)),a∉l.map Rp.a→mget bl0 (l.foldl (fun m r=>mput m r.a (Q5c r (mget bl0 m r.a))) m) a=mget bl0 m a:=by
       intro l
       induction l with
       |nil=>intro m _;rfl
       |cons r l ih=>
        intro m h
        rw[List.map_cons,List.mem_cons,not_or] at h
        rw[List.foldl_cons,ih _ h.2,Q6e,if_neg h.1]
      rw[hk l _ hl,Q6e,if_pos ha.symm,ha]
      unfold Q5c
      rw[ha]
  · rw[if_neg ha]
    have hl:a∈l.map Rp.a:=by
     rw[List.map_cons,List.mem_cons] at h
     rcases h with h|h
     · exact absurd h.symm ha
     · exact h
    rcases Q9a a l (mput m r.a (Q5c r (mget bl0 m r.a))) hl with h2|h2
    · rw[h2,Q6e,if_neg (fun e=>ha e.symm)]
    · exact absurd hl h2
theorem srtI_lt{l:List Int}(h:l.Nodup):(srtI l).Pairwise (· < ·):=by
 have tr:∀a b c:Int,decide (a≤b)=true→decide (b≤c)=true→decide (a≤c)=true:=fun a b c h1 h2=>by simp only[decide_eq_true_eq] at *;omega
 have to:∀a b:Int,(decide (a≤b)||decide (b≤a))=true:=fun a b=>by simp only[Bool.or_eq_true,decide_eq_true_eq];omega
 have h1:=List.pairwise_mergeSort tr to l
 have h2:(srtI l).Nodup:=(List.mergeSort_perm l _).nodup_iff.2 h
 refine(h1.and h2).imp ?_
 rintro a b ⟨h3,h4⟩
 simp only[decide_eq_true_eq] at h3
 omega
theorem X2s(ex:Bool)(l:List Rp)(hl:l.length≤900)(ok:∀r∈l,r.ok):Fn Try.prog 8 [rsl ex l] [] (.tup [wN ((csL l).sum%WW),vb (!decide (WW≤(csL l).sum))]) []:=by
 have c:=costs_fn ex l hl
 have s:=X1h false (csL l) (by unfold csL;rw[List.length_map];omega) (csL_lt ok)
 generalize decide (WW≤(csL l).sum)=q at *
 generalize (csL l).sum%WW=n at *
 generalize csL l=cs at *
 (refine Q1q Try.func8 rfl (by rfl) ?_;simp only[Try.ntmps8,List.length_cons,List.length_nil,Nat.reduceAdd,Nat.reduceSub,List.replicate,List.cons_append,List.nil_append])
 (repeat(any_goals(first|((with_reducible refine Q1d ?_ ?_ ?_);rfl;rfl;intro K hK;((first|(apply Q0x (c);rfl;rfl;rfl;rfl;exact Try.func20)|(apply Q0x (s);rfl;rfl;rfl;rfl;exact Try.func19));kernel_rfl;rfl;(focus((simp only[go_sem]);(try rfl);done));(first|rfl|simp[AV.inNL,AV.inN]));(simp only[go_sem];refine hK _ ?_;clear hK K))|((with_reducible refine Q0g ?_ ?_);rfl;intro K hK;simp only[go_sem];((repeat(refine ndI (by first|assumption|omega|rfl) ?_));refine hK _ ?_;clear hK K))|(with_reducible first|(refine Q0i ?_;refine hR _ ?_;clear hR R)|((first|refine Q0h ?_|refine Q0c ?_);intro Ψ hΨ hΨ')|(refine Q0b ?_;intro R hR)|(refine hΨ _ ?_;clear hΨ hΨ' Ψ)|refine Q0d ?_|refine Q0j ?_|refine Q0e ?_)|((with_reducible refine hΨ' _ _ ?_ ?_);(focus(simp;done));clear hΨ hΨ' Ψ)|((with_reducible apply Q0f);rfl;rfl;all_goals(intro hc;first|(cases hc;done)|(try simp only at hc))))))
 all_goals(refine⟨by simp,⟨_,?_,AV.le_refl _⟩,Q0y (by simp[leH,hget])⟩;simp only[Try.results8,resL,ldA,Q1o,go_sem])
end
section
open Go.RowKit
def ownR(a:Int)(l:List Rp):List Rp:=l.filter fun r=>decide (r.a=a)
def sumC(l:List Rp):Nat:=(csL l).sum
theorem Q5e(r:Rp)(l:List Rp):sumC (r::l)=r.c+sumC l:=by simp[sumC,csL]
theorem X3z(a:Int):∀(l:List Rp) (o c:Nat),c<WW→l.foldl (Q5z a) ⟨a,o,c⟩=⟨a,o+(ownR a l).length,(c+sumC (ownR a l))%WW⟩
 |[],o,c,h=>by simp[ownR,sumC,csL,Nat.mod_eq_of_lt h]
 |r::l,o,c,h=>by
  rw[List.foldl_cons]
  by_cases ha:r.a=a
  · rw[show Q5z a ⟨a,o,c⟩ r=⟨a,o+1,(c+r.c)%WW⟩ by unfold Q5z;rw[if_pos ha],X3z a l _ _ (Nat.mod_lt _ (by decide))]
    have e:ownR a (r::l)=r::ownR a l:=by unfold ownR;rw[List.filter_cons,if_pos (by simpa using ha)]
    rw[e,List.length_cons,Q5e]
    congr 1
    · omega
    · rw[Nat.mod_add_mod,Nat.add_assoc]
  · rw[show Q5z a ⟨a,o,c⟩ r=⟨a,o,c⟩ by unfold Q5z;rw[if_neg ha],X3z a l _ _ h]
    have e:ownR a (r::l)=ownR a l:=by unfold ownR;rw[List.filter_cons,if_neg (by simpa using ha)]
    rw[e]
theorem blOf_own(a:Int)(l:List Rp):blOf a l=⟨a,(ownR a l).length,sumC (ownR a l)%WW⟩:=by
 have h:=X3z a l 0 0 (show 0<WW by decide)
 rw[Nat.zero_add,Nat.zero_add] at h
 exact h
def whoK(l:List Rp):List Int:=srtI ((Q6a l).map (·.1))
theorem whoK_lt(l:List Rp):(whoK l).Pairwise (· < ·):=srtI_lt (Q9t l).1
theorem Q7v(l:List Rp)(a:Int):a∈whoK l↔a∈l.map Rp.a:=by
 rw[←(Q9t l).2 a]
 exact(List.mergeSort_perm _ _).mem_iff
theorem X5p(l:List Rp):Q6i l=(whoK l).map fun a=>⟨a,(ownR a l).length,sumC (ownR a l)%WW⟩:=by
 unfold Q6i
 refine List.map_congr_left fun a ha=>?_
 rcases Q9a a l [] ((Q7v l a).1 ha) with h|h
 · exact h.trans (blOf_own a l)
 · exact absurd ((Q7v l a).1 ha) h
def upR(ks:List Int)(l:List Rp):List Rp:=l.filter fun r=>decide (r.a∈ks)
theorem X4d{ks:List Int}{k:Int}(h:k∉ks):∀l:List Rp,sumC (upR (ks++[k]) l)=sumC (upR ks l)+sumC (ownR k l)∧(upR (ks++[k]) l).length=(upR ks l).length+(ownR k l).length
 |[]=>by simp[upR,ownR,sumC,csL]
 |r::l=>by
  obtain⟨i1,i2⟩:=X4d h l
  by_cases h1:r.a=k
  · have n1:r.a∉ks:=by rw[h1];exact h
    have e1:upR (ks++[k]) (r::l)=r::upR (ks++[k]) l:=by unfold upR;rw[List.filter_cons,if_pos (by simp[h1])]
    have e2:upR ks (r::l)=upR ks l:=by unfold upR;rw[List.filter_cons,if_neg (by simpa using n1)]
    have e3:ownR k (r::l)=r::ownR k l:=by unfold ownR;rw[List.filter_cons,if_pos (by simpa using h1)]
    rw[e1,e2,e3,Q5e,Q5e,List.length_cons,List.length_cons]
    omega
  · have e3:ownR k (r::l)=ownR k l:=by unfold ownR;rw[List.filter_cons,if_neg (by simpa using h1)]
    by_cases h2:r.a∈ks
    · have e1:upR (ks++[k]) (r::l)=r::upR (ks++[k]) l:=by unfold upR;rw[List.filter_cons,if_pos (by simp[h2])]
      have e2:upR ks (r::l)=r::upR ks l:=by unfold upR;rw[List.filter_cons,if_pos (by simpa using h2)]
      rw[e1,e2,e3,Q5e,Q5e,List.length_cons,List.length_cons]
      omega
    · have e1:upR (ks++[k]) (r::l)=upR (ks++[k]) l:=by unfold upR;rw[List.filter_cons,if_neg (by simp[h1,h2])]
      have e2:upR ks (r::l)=upR ks l:=by unfold upR;rw[List.filter_cons,if_neg (by simpa using h2)]
      rw[e1,e2,e3]
      omega
theorem Q9w(l:List Rp):upR [] l=[]:=by unfold upR;simp
theorem upR_all(l:List Rp):upR (whoK l) l=l:=by
 unfold upR
 refine List.filter_eq_self.2 fun r hr=>decide_eq_true ((Q7v l r.a).2 (List.mem_map.2 ⟨r,hr,rfl⟩))
theorem bill_at{l:List Rp}{j:Nat}{k:Int}(hk:(whoK l)[j]? = some k) :
 1≤(ownR k l).length∧k∉(whoK l).take j∧(whoK l).take (j+1)=(whoK l).take j++[k]∧∀k0,0<j→(whoK l)[j-1]? = some k0→k0<k:=by
 have hm:=List.mem_of_getElem? hk
 have hlt:=(List.getElem?_eq_some_iff.1 hk).1
 refine⟨?_,?_,by rw[List.take_add_one,hk];rfl,fun k0 hj h0=>?_⟩
 · obtain⟨r,hr,ha⟩:=List.mem_map.1 ((Q7v l k).1 hm)
   exact List.length_pos_of_mem (List.mem_filter.2 ⟨hr,by simpa using ha⟩:r∈ownR k l)
 · intro hin
   obtain⟨i,hi⟩:=List.mem_iff_getElem?.1 hin
   rw[List.getElem?_take] at hi
   split at hi
   · rename_i hij
     have hil:=(List.getElem?_eq_some_iff.1 hi).1
     have:=List.pairwise_iff_getElem.1 (whoK_lt l) i j hil hlt hij
     rw[(List.getElem?_eq_some_iff.1 hi).2,(List.getElem?_eq_some_iff.1 hk).2] at this
     omega
   · cases hi
 · have h0l:=(List.getElem?_eq_some_iff.1 h0).1
   have:=List.pairwise_iff_getElem.1 (whoK_lt l) (j-1) j h0l hlt (by omega)
   rw[(List.getElem?_eq_some_iff.1 h0).2,(List.getElem?_eq_some_iff.1 hk).2] at this
   exact this
theorem X1r{a:Int}{l:List Rp}{i:Nat}{y:Rp}(h:l[i]? = some y):ownR a (l.take (i+1))=if y.a=a then ownR a (l.take i)++[y] else ownR a (l.take i):=by
 unfold ownR
 rw[List.take_add_one,h,List.filter_append]
 by_cases ha:y.a=a
 · rw[if_pos ha];simp[ha]
 · rw[if_neg ha];simp[ha]
theorem X0i(a:Int)(l:List Rp):(ownR a l).length≤l.length:=List.length_filter_le _ _
end
end Go.Proofs.Ytbmcdemnnbndeaa
