/-
  Addresses laid in one by one: what comes rises, and has just what was there; plain.
-/
import Derived.Test.YtgdjkkapgghdbaaGreatDoorRln
import Derived.Test.YtgdjkkapgghdbaaGreatDoorTrf
import Derived.Test.YtgdjkkapgghdbaaGreatDoorYd
import Derived.Test.YtgdjkkapgghdbaaGreatDoorAvO
namespace Go.Proofs.YtgdjkkapgghdbaaGreatDoor
set_option linter.unusedSimpArgs false
set_option linter.unusedVariables false
section
open Go.RowKit
open Nat (reduceBEq)
attribute [-go_sem] IntKind.bits
set_option maxRecDepth 20000
set_option maxHeartbeats 2000000
theorem X5y{α : Type}(p:α→Bool):∀(l:List α) (k:Nat),(idxF p l k = -1∧∀x∈l,p x=false)∨∃n,n<l.length∧idxF p l k=((k+n:Nat):Int)∧(∀x∈l.take n,p x=false)∧∃y,l[n]? = some y∧p y=true
 |[],k=>.inl ⟨rfl,fun x h=>by cases h⟩
 |y::l,k=>by
  unfold idxF
  by_cases hy:p y=true
  · rw[if_pos hy]
    exact .inr ⟨0,Nat.zero_lt_succ _,rfl,(fun x h=>by cases h),y,rfl,hy⟩
  · rw[if_neg hy]
    rcases X5y p l (k+1) with⟨h1,h2⟩|⟨n,h1,h2,h3,z,h4,h5⟩
    · refine .inl ⟨h1,fun x hx=>?_⟩
      rcases List.mem_cons.1 hx with rfl|hx
      · simpa using hy
      · exact h2 x hx
    · refine .inr ⟨n+1,Nat.succ_lt_succ h1,by rw[h2];congr 1;omega,fun x hx=>?_,z,h4,h5⟩
      rw[List.take_succ_cons] at hx
      rcases List.mem_cons.1 hx with rfl|hx
      · simpa using hy
      · exact h3 x hx
theorem raS_at{l:List Sp}{i:Nat}{y:Sp}(h:l[i]? = some y):((raS l).drop (i*5)).take 5=[vi .u64 y.a,vi .u64 (l0 y.k),vi .u64 (l1 y.k),vi .u64 (l2 y.k),vi .u64 (l3 y.k)]:=Q7b h
theorem raS_take(l:List Sp)(k:Nat):(raS l).take (k*5)=raS (l.take k):=Q9c l k
theorem raS_app(l r:List Sp):raS (l++r)=raS l++raS r:=Q5p l r
theorem raS_set(l:List Sp)(k:Nat)(x:Sp)(h:k<l.length):(raS l).take (k*5)++([vi .u64 x.a,vi .u64 (l0 x.k),vi .u64 (l1 x.k),vi .u64 (l2 x.k),vi .u64 (l3 x.k)]++(raS l).drop (k*5+5))=raS (l.set k x):=X7h l k x h
theorem zerosS_ra(k:Nat):Q4o [.int .u64 0,.int .u64 0,.int .u64 0,.int .u64 0,.int .u64 0] k=raS (List.replicate k ⟨0,0⟩):=Q9l k
theorem idxSc_fn (c:Nat) (ex:Bool) (l:List Sp) (hlc:l.length≤c) (hcm:c≤maxLen) (p:Sp→Bool) (cs:List PV) {g:FuncId} {fn:Func} (hl:l.length≤1000000) (hgf:Tryz.prog.funcs[g]? = some fn) (hgn:(fn.name == "runtime.NumGoroutine")=false) (hgb:fn.body.isNone=false)
 (hp:∀x∈l,Fn Tryz.prog g [spA x,.ptr 1001 0] [(1001,[.ep cs])] (vb (p x)) [(1001,[.ep cs])]) :
 Fn Tryz.prog 72 [.cut 1000 37 5 0 l.length c ex,.fn g [.ptr 1001 0]] [(1000,raS l),(1001,[.ep cs])] (vi .i64 (idxF p l 0)) [(1000,raS l),(1001,[.ep cs])]:=by
 obtain⟨r,hr⟩:∃r,idxF p l 0=r:=⟨_,rfl⟩
 rw[hr]
 (refine Q0v Tryz.func72 rfl (by rfl) ?_;simp only[Tryz.ntmps72,List.length_cons,List.length_nil,Nat.reduceAdd,Nat.reduceSub,List.replicate,List.cons_append,List.nil_append])
 (repeat(any_goals(first|((with_reducible refine Q0b ?_ ?_);rfl;intro K hK;simp only[go_sem];((repeat(refine ndI (by first|assumption) ?_));refine hK _ ?_;clear hK K))|(with_reducible first|(refine Q0c ?_;refine hR _ ?_;clear hR R)|((first|refine Q0d ?_|refine Q0f ?_);intro J hJ hJ')|(refine Q0a ?_;intro R hR)|(refine hJ _ ?_;clear hJ hJ' J)))))
 refine Q1m (α:={i:Nat // i≤l.length∧idxF p (l.drop i) i=r}) (fun q=>⟨[.cut 1000 37 5 0 l.length c ex,.fn g [.ptr 1001 0],.any,.any,.any,.any,.any,vi .i64 l.length,vi .i64 (q.1:Int),.any,.any,.any,.any,.any,.any,.any,.any,.any,.any],[(1000,raS l),(1001,[.ep cs])]⟩) (fun q=>l.length-q.1) ⟨0,Nat.zero_le _,hr⟩ (St.le_of (by simp[leT]) (by simp[leH,hget])) ?_
 rintro ⟨i,hi,hd⟩ J hJ hJ'
 (try dsimp only at hJ ⊢)
 rcases Nat.lt_or_ge i l.length with hlt|hge
 · obtain⟨y,hy⟩:∃y,l[i]? = some y:=⟨_,List.getElem?_eq_getElem hlt⟩
   have k1:(decide ((i:Int)<(l.length:Int)))=true:=by simp;omega
   have k2:=raS_at hy
   have k3:=Q6n l
   have k7:(i:Int)+1=((i+1:Nat):Int):=by omega
   have hdr:l.drop i=y::l.drop (i+1):=by
    rw[List.drop_eq_getElem_cons hlt]
    rw[List.getElem?_eq_getElem hlt] at hy
    rw[Option.some.inj hy]
   have hp1:=hp y (List.mem_of_getElem? hy)
   rw[hdr] at hd
   unfold idxF at hd
   have r9:∀r,AV.refsL r (raS l)=false:=fun r=>Q0n r _
   cases hxy:p y
   · rw[hxy] at hp1 hd
     rw[if_neg (by simp)] at hd
     have hJ1:=fun σ'=>hJ σ' ⟨i+1,hlt,hd⟩ (by dsimp only;omega)
     dsimp only at hJ1
     (have W:=ndI k1 (ndI k2 (ndI k3 (ndI k7 (ndI r9 @wrI))));(repeat(any_goals(first|((with_reducible refine Q0l ?_ ?_ ?_);rfl;rfl;intro K hK;(apply Q1g (hp1) (fun r=>r);rfl;rfl;rfl;rfl;exact hgf;exact hgn;exact hgb;rfl;(intro r hr q hq h;simp(disch:=omega) only[List.map_cons,List.map_nil,List.cons_append,List.nil_append,List.mem_cons,List.not_mem_nil,or_false] at hr hq;(try dsimp only at h);first|omega);(simp(disch:=omega) only[Q1d,Q2d,AV.ren,AV.renL,Q0q,List.mem_cons,List.not_mem_nil,forall_eq_or_imp,forall_eq,Q1w,List.contains_cons,List.contains_nil,AV.refsL,AV.refs,Q0n,AV.inN,AV.inNL,inH,Q0z,go_sem,W]));(simp(disch:=omega) only[Q0w,Q1u,renH,AV.ren,AV.renL,Q0q,go_sem,W];refine hK _ ?_;clear hK K))|((with_reducible refine Q0b ?_ ?_);rfl;intro K hK;simp(disch:=omega) only[go_sem,W];((repeat(refine ndI (by first|assumption|omega|rfl) ?_));refine hK _ ?_;clear hK K))|((with_reducible refine Q0b ?_ ?_);rfl;intro K hK;(try simp(disch:=omega) only[go_sem,W]);(repeat(refine ndI (by first|assumption|rfl) ?_));refine Q2o rfl rfl rfl rfl rfl ?_ ?_ ?_;(focus(simp only[go_sem];try rfl));(first|omega);(simp(disch:=omega) only[go_sem,W];refine hK _ ?_;clear hK K))|(with_reducible first|(refine Q0c ?_;refine hR _ ?_;clear hR R)|((first|refine Q0d ?_|refine Q0f ?_);intro J hJ hJ')|(refine Q0a ?_;intro R hR)|(refine hJ _ ?_;clear hJ hJ' J)|refine Q0g ?_)|((with_reducible refine hJ' _ _ ?_ ?_);(focus(simp;done));clear hJ hJ' J)|((with_reducible apply Q0e);rfl;rfl;all_goals(intro hc;first|(cases hc;done)|(try simp only at hc)))))))
     all_goals exact hJ1 _ (St.le_of (by simp[leT]) (by simp[leH,hget]))
   · rw[hxy] at hp1 hd
     rw[if_pos rfl] at hd
     (have W:=ndI k1 (ndI k2 (ndI k3 (ndI k7 (ndI r9 @wrI))));(repeat(any_goals(first|((with_reducible refine Q0l ?_ ?_ ?_);rfl;rfl;intro K hK;(apply Q1g (hp1) (fun r=>r);rfl;rfl;rfl;rfl;exact hgf;exact hgn;exact hgb;rfl;(intro r hr q hq h;simp(disch:=omega) only[List.map_cons,List.map_nil,List.cons_append,List.nil_append,List.mem_cons,List.not_mem_nil,or_false] at hr hq;(try dsimp only at h);first|omega);(simp(disch:=omega) only[Q1d,Q2d,AV.ren,AV.renL,Q0q,List.mem_cons,List.not_mem_nil,forall_eq_or_imp,forall_eq,Q1w,List.contains_cons,List.contains_nil,AV.refsL,AV.refs,Q0n,AV.inN,AV.inNL,inH,Q0z,go_sem,W]));(simp(disch:=omega) only[Q0w,Q1u,renH,AV.ren,AV.renL,Q0q,go_sem,W];refine hK _ ?_;clear hK K))|((with_reducible refine Q0b ?_ ?_);rfl;intro K hK;simp(disch:=omega) only[go_sem,W];((repeat(refine ndI (by first|assumption|omega|rfl) ?_));refine hK _ ?_;clear hK K))|((with_reducible refine Q0b ?_ ?_);rfl;intro K hK;(try simp(disch:=omega) only[go_sem,W]);(repeat(refine ndI (by first|assumption|rfl) ?_));refine Q2o rfl rfl rfl rfl rfl ?_ ?_ ?_;(focus(simp only[go_sem];try rfl));(first|omega);(simp(disch:=omega) only[go_sem,W];refine hK _ ?_;clear hK K))|(with_reducible first|(refine Q0c ?_;refine hR _ ?_;clear hR R)|((first|refine Q0d ?_|refine Q0f ?_);intro J hJ hJ')|(refine Q0a ?_;intro R hR)|(refine hJ _ ?_;clear hJ hJ' J)|refine Q0g ?_|refine Q0j ?_)|((with_reducible refine hJ' _ _ ?_ ?_);(focus(simp;done));clear hJ hJ' J)|((with_reducible apply Q0e);rfl;rfl;all_goals(intro hc;first|(cases hc;done)|(try simp only at hc)))))))
     all_goals rw[←hd]
     all_goals(refine⟨by simp,⟨_,?_,AV.le_refl _⟩,Q0h (by simp[leH,hget])⟩;simp only[Tryz.results72,resL,ldA,Q0o,go_sem])
 · have k1:(decide ((i:Int)<(l.length:Int)))=false:=by simp;omega
   rw[List.drop_eq_nil_of_le hge] at hd
   have hd:r = -1:=hd.symm
   (repeat(any_goals(first|((with_reducible refine Q0b ?_ ?_);rfl;intro K hK;simp only[go_sem,k1];((repeat(refine ndI (by first|assumption) ?_));refine hK _ ?_;clear hK K))|(with_reducible first|(refine Q0c ?_;refine hR _ ?_;clear hR R)|((first|refine Q0d ?_);intro J hJ hJ')|(refine Q0a ?_;intro R hR)|(refine hJ _ ?_;clear hJ hJ' J)|refine Q0j ?_|refine Q0p ?_)|((with_reducible refine hJ' _ _ ?_ ?_);(focus(simp;done));clear hJ hJ' J)|((with_reducible apply Q0e);rfl;rfl;all_goals(intro hc;first|(cases hc;done)|(try simp only at hc))))))
   all_goals rw[hd]
   all_goals(refine⟨by simp,⟨_,?_,AV.le_refl _⟩,Q0h (by simp[leH,hget])⟩;simp only[Tryz.results72,resL,ldA,Q0o,go_sem])
def Q3o{α : Type}(p:α→Bool)(l:List α):List α:=l.filter fun x=>!p x
theorem X5v{α : Type}{p:α→Bool}{l:List α}(h:∀x∈l,p x=false):Q3o p l=l:=List.filter_eq_self.2 fun x hx=>by simp[h x hx]
theorem X1u{α : Type}(p:α→Bool){l:List α}{j:Nat}{y:α}(h:l[j]? = some y):Q3o p (l.take (j+1))=if p y=true then Q3o p (l.take j) else Q3o p (l.take j)++[y]:=by
 unfold Q3o
 rw[List.take_add_one,h,List.filter_append]
 cases hp:p y<;>simp[hp]
theorem X5u{α : Type}(p:α→Bool)(l:List α):(Q3o p l).length≤l.length:=List.length_filter_le _ _
theorem delSc_fnE (c:Nat) (ex:Bool) (l:List Sp) (hlc:l.length≤c) (hcm:c≤maxLen) (p:Sp→Bool) (cs:List PV) {g:FuncId} {fn:Func} (hl:l.length≤1000000) (hgf:Tryz.prog.funcs[g]? = some fn) (hgn:(fn.name == "runtime.NumGoroutine")=false) (hgb:fn.body.isNone=false)
 (hp:∀x∈l,Fn Tryz.prog g [spA x,.ptr 1001 0] [(1001,[.ep cs])] (vb (p x)) [(1001,[.ep cs])]) :
 Fn Tryz.prog 44 [.cut 1000 37 5 0 l.length c ex,.fn g [.ptr 1001 0]] [(1000,raS l),(1001,[.ep cs])] (.cut 1000 37 5 0 (Q3o p l).length c ex) [(1000,raS (Q3o p l++List.replicate (l.length-(Q3o p l).length) ⟨0,0⟩)),(1001,[.ep cs])]:=by
 have ix:=idxSc_fn c ex l hlc hcm p cs hl hgf hgn hgb hp
 have e1:=Q6n l
 rcases X5y p l 0 with⟨hi,hno⟩|⟨n,hn,hi,hno,z,hz,hpz⟩
 · rw[hi] at ix
   rw[X5v hno,Nat.sub_self,List.replicate_zero,List.append_nil]
   have k1:((-1:Int) == -1)=true:=rfl
   (refine Q0v Tryz.func44 rfl (by rfl) ?_;simp only[Tryz.ntmps44,List.length_cons,List.length_nil,Nat.reduceAdd,Nat.reduceSub,List.replicate,List.cons_append,List.nil_append])
   (repeat(any_goals(first|((with_reducible refine Q0l ?_ ?_ ?_);rfl;rfl;intro K hK;(apply Q1g (ix) (fun r=>r);rfl;rfl;rfl;rfl;exact Tryz.func72;kernel_rfl;rfl;rfl;(intro r hr q hq h;simp(disch:=omega) only[List.map_cons,List.map_nil,List.cons_append,List.nil_append,List.mem_cons,List.not_mem_nil,or_false] at hr hq;(try dsimp only at h);first|omega);(simp(disch:=omega) only[Q1d,Q2d,AV.ren,AV.renL,Q0q,List.mem_cons,List.not_mem_nil,forall_eq_or_imp,forall_eq,Q1w,List.contains_cons,List.contains_nil,AV.refsL,AV.refs,Q0n,AV.inN,AV.inNL,inH,Q0z,go_sem,k1]));(simp(disch:=omega) only[Q0w,Q1u,renH,AV.ren,AV.renL,Q0q,go_sem,k1];refine hK _ ?_;clear hK K))|((with_reducible refine Q0b ?_ ?_);rfl;intro K hK;simp(disch:=omega) only[go_sem,k1];((repeat(refine ndI (by first|assumption) ?_));refine hK _ ?_;clear hK K))|(with_reducible first|(refine Q0c ?_;refine hR _ ?_;clear hR R)|((first|refine Q0d ?_);intro J hJ hJ')|(refine Q0a ?_;intro R hR)|(refine hJ _ ?_;clear hJ hJ' J)|refine Q0j ?_)|((with_reducible refine hJ' _ _ ?_ ?_);(focus(simp;done));clear hJ hJ' J)|((with_reducible apply Q0e);rfl;rfl;all_goals(intro hc;first|(cases hc;done)|(try simp only at hc))))))
   all_goals(refine⟨by simp,⟨_,?_,AV.le_refl _⟩,Q0h (by simp[leH,hget])⟩;simp only[Tryz.results44,resL,ldA,Q0o,go_sem])
 · rw[Nat.zero_add] at hi
   rw[hi] at ix
   have k1:((n:Int) == -1)=false:=by simp
   have k6:(n:Int)+1=((n+1:Nat):Int):=by omega
   obtain⟨r,hr⟩:∃r,Q3o p l=r:=⟨_,rfl⟩
   have hrl:r.length≤l.length:=by rw[←hr];exact X5u p l
   rw[hr]
   have hk0:Q3o p (l.take (n+1))=l.take n:=by
    rw[X1u p hz,if_pos hpz];exact X5v hno
   (refine Q0v Tryz.func44 rfl (by rfl) ?_;simp only[Tryz.ntmps44,List.length_cons,List.length_nil,Nat.reduceAdd,Nat.reduceSub,List.replicate,List.cons_append,List.nil_append])
   (have W:=ndI k1 (ndI k6 @wrI);(repeat(any_goals(first|((with_reducible refine Q0l ?_ ?_ ?_);rfl;rfl;intro K hK;(apply Q1g (ix) (fun r=>r);rfl;rfl;rfl;rfl;exact Tryz.func72;kernel_rfl;rfl;rfl;(intro r hr q hq h;simp(disch:=omega) only[List.map_cons,List.map_nil,List.cons_append,List.nil_append,List.mem_cons,List.not_mem_nil,or_false] at hr hq;(try dsimp only at h);first|omega);(simp(disch:=omega) only[Q1d,Q2d,AV.ren,AV.renL,Q0q,List.mem_cons,List.not_mem_nil,forall_eq_or_imp,forall_eq,Q1w,List.contains_cons,List.contains_nil,AV.refsL,AV.refs,Q0n,AV.inN,AV.inNL,inH,Q0z,go_sem,W]));(simp(disch:=omega) only[Q0w,Q1u,renH,AV.ren,AV.renL,Q0q,go_sem,W];refine hK _ ?_;clear hK K))|((with_reducible refine Q0b ?_ ?_);rfl;intro K hK;simp(disch:=omega) only[go_sem,W];((repeat(refine ndI (by first|assumption|rfl) ?_));refine hK _ ?_;clear hK K))|(with_reducible first|(refine Q0c ?_;refine hR _ ?_;clear hR R)|((first|refine Q0d ?_|refine Q0f ?_);intro J hJ hJ')|(refine Q0a ?_;intro R hR)|(refine hJ _ ?_;clear hJ hJ' J)|refine Q0g ?_)|((with_reducible apply Q0e);rfl;rfl;all_goals(intro hc;first|(cases hc;done)|(try simp only at hc)))))))
   refine Q1m (α:={q:Nat×List Sp // q.1≤l.length∧(Q3o p (l.take q.1)).length<q.1∧q.2.length=l.length∧q.2.take (Q3o p (l.take q.1)).length=Q3o p (l.take q.1)∧q.2.drop q.1=l.drop q.1}) (fun q=>⟨[.cut 1000 37 5 0 l.length c ex,.fn g [.ptr 1001 0],.any,.any,.any,vi .i64 ((Q3o p (l.take q.1.1)).length:Int),vi .i64 (q.1.1:Int),.any,.any,.any,.any,.any,.any,.any,.any,.any,.any,.any,.any,.any,.any,.any,.any,.any,.any,.any,.any,.any,.any,.any,.any,.any,.any,.any,.any,.any,.any,.any,.any,.any,.any,.any],[(1000,raS q.1.2),(1001,[.ep cs])]⟩) (fun q=>l.length-q.1.1) ⟨(n+1,l),by dsimp only;omega,by dsimp only;rw[hk0,List.length_take];omega,rfl,by dsimp only;rw[hk0,List.length_take,Nat.min_eq_left (by omega)],rfl⟩ (St.le_of (by simp[leT,hk0];try omega) (by simp[leH,hget])) ?_
   rintro ⟨⟨j,m⟩,c1,c2,c3,c4,c5⟩ J hJ hJ'
   dsimp only at c1 c2 c3 c4 c5
   (try dsimp only at hJ ⊢)
   have hml:(raS m).length=l.length*5:=by rw[Q6n,c3]
   have r9:∀r,AV.refsL r (raS m)=false:=fun r=>Q0n r _
   rcases Nat.lt_or_ge j l.length with hlt|hge
   · obtain⟨y,hy⟩:∃y,l[j]? = some y:=⟨_,List.getElem?_eq_getElem hlt⟩
     have n1:(decide ((j:Int)<(l.length:Int)))=true:=by simp;omega
     have hy':m[j]? = some y:=by
      rw[←hy,←Nat.add_zero j,←List.getElem?_drop,←List.getElem?_drop,c5]
     have n2:=raS_at hy'
     have n7:(j:Int)+1=((j+1:Nat):Int):=by omega
     have hp1:=hp y (List.mem_of_getElem? hy)
     have ks:=X1u p hy
     obtain⟨d,hd⟩:∃d,(Q3o p (l.take j)).length=d:=⟨_,rfl⟩
     rw[hd] at c2 c4
     rw[hd]
     cases hxy:p y
     · rw[hxy] at hp1 ks
       rw[if_neg (by simp)] at ks
       have hset:(raS m).take (d*5)++[vi .u64 y.a,vi .u64 (l0 y.k),vi .u64 (l1 y.k),vi .u64 (l2 y.k),vi .u64 (l3 y.k)]++(raS m).drop (d*5+5)=raS (m.set d y):=by
        rw[List.append_assoc]
        exact raS_set m d y (by omega)
       have n6:(d:Int)+1=((d+1:Nat):Int):=by omega
       have hl':(Q3o p (l.take (j+1))).length=d+1:=by rw[ks,List.length_append,hd];rfl
       have hJ1:=fun σ'=>hJ σ' ⟨(j+1,m.set d y),by dsimp only;omega,by dsimp only;omega,by dsimp only;rw[List.length_set];exact c3,by
        dsimp only
        rw[hl',ks,List.set_eq_take_append_cons_drop,if_pos (by omega),c4,List.take_append,hd]
        rw[List.take_of_length_le (by omega),show d+1-d=1 by omega]
        rfl,by
        dsimp only
        rw[List.drop_set,if_pos (by omega),←List.drop_drop,c5,List.drop_drop]⟩ (by dsimp only;omega)
       dsimp only at hJ1
       rw[hl'] at hJ1
       (have W:=ndI n1 (ndI n2 (ndI n6 (ndI n7 (ndI r9 @wrI))));(repeat(any_goals(first|((with_reducible refine Q0l ?_ ?_ ?_);rfl;rfl;intro K hK;(apply Q1g (hp1) (fun r=>r);rfl;rfl;rfl;rfl;exact hgf;exact hgn;exact hgb;rfl;(intro r hr q hq h;simp(disch:=omega) only[List.map_cons,List.map_nil,List.cons_append,List.nil_append,List.mem_cons,List.not_mem_nil,or_false] at hr hq;(try dsimp only at h);first|omega);(simp(disch:=omega) only[Q1d,Q2d,AV.ren,AV.renL,Q0q,List.mem_cons,List.not_mem_nil,forall_eq_or_imp,forall_eq,Q1w,List.contains_cons,List.contains_nil,AV.refsL,AV.refs,Q0n,AV.inN,AV.inNL,inH,Q0z,go_sem,W,hset,hml]));(simp(disch:=omega) only[Q0w,Q1u,renH,AV.ren,AV.renL,Q0q,go_sem,W,hset,hml];refine hK _ ?_;clear hK K))|((with_reducible refine Q0b ?_ ?_);rfl;intro K hK;simp(disch:=omega) only[go_sem,W,hset,hml];((repeat(refine ndI (by first|assumption|omega|rfl) ?_));refine hK _ ?_;clear hK K))|((with_reducible refine Q0b ?_ ?_);rfl;intro K hK;(try simp(disch:=omega) only[go_sem,W,hset,hml]);(repeat(refine ndI (by first|assumption|rfl) ?_));refine Q2o rfl rfl rfl rfl rfl ?_ ?_ ?_;(focus(simp only[go_sem];try rfl));(first|omega);(simp(disch:=omega) only[go_sem,W,hset,hml];refine hK _ ?_;clear hK K))|(with_reducible first|(refine Q0c ?_;refine hR _ ?_;clear hR R)|((first|refine Q0d ?_|refine Q0f ?_);intro J hJ hJ')|(refine Q0a ?_;intro R hR)|(refine hJ _ ?_;clear hJ hJ' J)|refine Q0g ?_)|((with_reducible refine hJ' _ _ ?_ ?_);(focus(simp;done));clear hJ hJ' J)|((with_reducible apply Q0e);rfl;rfl;all_goals(intro hc;first|(cases hc;done)|(try simp only at hc)))))))
       all_goals exact hJ1 _ (St.le_of (by simp[leT]) (by simp[leH,hget]))
     · rw[hxy] at hp1 ks
       rw[if_pos rfl] at ks
       have hl':(Q3o p (l.take (j+1))).length=d:=by rw[ks,hd]
       have hJ1:=fun σ'=>hJ σ' ⟨(j+1,m),by dsimp only;omega,by dsimp only;omega,c3,by
        dsimp only
        rw[hl',ks];exact c4,by
        dsimp only
        rw[←List.drop_drop,c5,List.drop_drop]⟩ (by dsimp only;omega)
       dsimp only at hJ1
       rw[hl'] at hJ1
       (have W:=ndI n1 (ndI n2 (ndI n7 (ndI r9 @wrI)));(repeat(any_goals(first|((with_reducible refine Q0l ?_ ?_ ?_);rfl;rfl;intro K hK;(apply Q1g (hp1) (fun r=>r);rfl;rfl;rfl;rfl;exact hgf;exact hgn;exact hgb;rfl;(intro r hr q hq h;simp(disch:=omega) only[List.map_cons,List.map_nil,List.cons_append,List.nil_append,List.mem_cons,List.not_mem_nil,or_false] at hr hq;(try dsimp only at h);first|omega);(simp(disch:=omega) only[Q1d,Q2d,AV.ren,AV.renL,Q0q,List.mem_cons,List.not_mem_nil,forall_eq_or_imp,forall_eq,Q1w,List.contains_cons,List.contains_nil,AV.refsL,AV.refs,Q0n,AV.inN,AV.inNL,inH,Q0z,go_sem,W,hml]));(simp(disch:=omega) only[Q0w,Q1u,renH,AV.ren,AV.renL,Q0q,go_sem,W,hml];refine hK _ ?_;clear hK K))|((with_reducible refine Q0b ?_ ?_);rfl;intro K hK;simp(disch:=omega) only[go_sem,W,hml];((repeat(refine ndI (by first|assumption|omega|rfl) ?_));refine hK _ ?_;clear hK K))|((with_reducible refine Q0b ?_ ?_);rfl;intro K hK;(try simp(disch:=omega) only[go_sem,W,hml]);(repeat(refine ndI (by first|assumption|rfl) ?_));refine Q2o rfl rfl rfl rfl rfl ?_ ?_ ?_;(focus(simp only[go_sem];try rfl));(first|omega);(simp(disch:=omega) only[go_sem,W,hml];refine hK _ ?_;clear hK K))|(with_reducible first|(refine Q0c ?_;refine hR _ ?_;clear hR R)|((first|refine Q0d ?_|refine Q0f ?_);intro J hJ hJ')|(refine Q0a ?_;intro R hR)|(refine hJ _ ?_;clear hJ hJ' J)|refine Q0g ?_)|((with_reducible refine hJ' _ _ ?_ ?_);(focus(simp;done));clear hJ hJ' J)|((with_reducible apply Q0e);rfl;rfl;all_goals(intro hc;first|(cases hc;done)|(try simp only at hc)))))))
       all_goals exact hJ1 _ (St.le_of (by simp[leT]) (by simp[leH,hget]))
   · have n1:(decide ((j:Int)<(l.length:Int)))=false:=by simp;omega
     have ej:l.take j=l:=List.take_of_length_le hge
     rw[ej,hr] at c2 c4
     rw[ej,hr]
     obtain⟨d,hd⟩:∃d,r.length=d:=⟨_,rfl⟩
     rw[hd] at hrl c2 c4
     rw[hd]
     have hfin:raS (r++List.replicate (l.length-d) ⟨0,0⟩)=spl (raS m) (d*5) (Q4o [.int .u64 0,.int .u64 0,.int .u64 0,.int .u64 0,.int .u64 0] (l.length-d)):=by
      unfold spl
      rw[zerosS_ra,Q6n,List.length_replicate,raS_app,raS_take,c4,List.drop_of_length_le (by rw[hml];omega)]
      show _=_++[]
      rw[List.append_nil]
     (have W:=ndI n1 (ndI r9 @wrI);(repeat(any_goals(first|((with_reducible refine Q0b ?_ ?_);rfl;intro K hK;simp(disch:=omega) only[go_sem,W,hml];((repeat(refine ndI (by first|assumption|rfl) ?_));refine hK _ ?_;clear hK K))|((with_reducible refine Q0b ?_ ?_);rfl;intro K hK;(try simp(disch:=omega) only[go_sem,W,hml]);(repeat(refine ndI (by first|assumption|rfl) ?_));refine Q4d rfl rfl rfl rfl rfl ?_ rfl rfl rfl rfl ?_ ?_ ?_;(focus(simp only[go_sem];try rfl));(intro h;first|rfl|cases h);(first|omega);(simp(disch:=omega) only[go_sem,W,hml];refine hK _ ?_;clear hK K))|((with_reducible refine Q0b ?_ ?_);rfl;intro K hK;(try simp(disch:=omega) only[go_sem,W,hml]);(repeat(refine ndI (by first|assumption) ?_));apply Q7k;rfl;rfl;(focus(simp only[go_sem];try rfl));(first|omega);(simp(disch:=omega) only[go_sem,Option.bind_some];rfl);rfl;rfl;rfl;rfl;(first|omega);(simp(disch:=omega) only[go_sem,W,hml];refine hK _ ?_;clear hK K))|(with_reducible first|(refine Q0c ?_;refine hR _ ?_;clear hR R)|((first|refine Q0d ?_);intro J hJ hJ')|(refine Q0a ?_;intro R hR)|(refine hJ _ ?_;clear hJ hJ' J)|refine Q0j ?_|refine Q0p ?_)|((with_reducible refine hJ' _ _ ?_ ?_);(focus(simp;done));clear hJ hJ' J)|((with_reducible apply Q0e);rfl;rfl;all_goals(intro hc;first|(cases hc;done)|(try simp only at hc)))))))
     all_goals rw[hd,hfin]
     all_goals refine⟨by simp,⟨_,rfl,AV.le_refl _⟩,Q0h ⟨?_,?_,trivial⟩⟩
     all_goals simp[Q2e,spl,List.append_assoc]
theorem delSc_fn (c:Nat) (ex:Bool) (l:List Sp) (hlc:l.length≤c) (hcm:c≤maxLen) (p:Sp→Bool) (cs:List PV) {g:FuncId} {fn:Func} (hl:l.length≤1000000) (hgf:Tryz.prog.funcs[g]? = some fn) (hgn:(fn.name == "runtime.NumGoroutine")=false) (hgb:fn.body.isNone=false)
 (hp:∀x∈l,Fn Tryz.prog g [spA x,.ptr 1001 0] [(1001,[.ep cs])] (vb (p x)) [(1001,[.ep cs])]) :
 Fn Tryz.prog 44 [.cut 1000 37 5 0 l.length c ex,.fn g [.ptr 1001 0]] [(1000,raS l),(1001,[.ep cs])] (.cut 1000 37 5 0 (Q3o p l).length c ex) [(1000,raS (Q3o p l))]:=
 (delSc_fnE c ex l hlc hcm p cs hl hgf hgn hgb hp).weaken (AV.le_refl _) (leHp (ds:=raS (List.replicate (l.length-(Q3o p l).length) ⟨0,0⟩)) (by rw[raS_app];simp[hget]))
end
section
open Go.RowKit
section
variable {P:Program} {o:Oper} {σ : St} {K:St→Prop}
theorem Q6p{s x:Operand}{t e r e0 lo sz by_ n c:Nat}{ex ex':Bool}{qs:List PV}(ho:o.op = .call {callee:=.builtin .append,args:=#[s,x],argTypes:=#[t,t]})(hs0:Q0k s=true)(hx0:Q0k x=true)(hz:slcZ P t=some (e,sz,by_))(h0:0<sz)
 (h1:σ.ev s = .cut r e0 sz lo n c ex) (h2:σ.ev x = .c (.sl ex' sz 0 qs)) (hK:K (σ.put o.dst (.cut r e0 sz lo n c ex))):OpA P o σ K:=by
 refine Q1f _ hK fun E ι a w h=>?_
 obtain⟨hu,i,z,hi,hiz,hsize,hbytes,hzs,hz1⟩:=Q4k hz
 have hsv:=h.ev s hs0
 have hxv:=h.ev x hx0
 rw[h1] at hsv
 rw[h2] at hxv
 generalize he:a.eval s=v at hsv
 generalize hex:a.eval x=y at hxv
 cases hxv with
 |c _ _ hq=>
  cases hq with
  |sl _ _ B _ c1 ws _ k1 k2 k3 kx kl kn k4 k5=>
   have hsrc:Src P i.size t (.slice B 0 c1) 0 [] w:=by
    cases B with
    |none=>
     obtain rfl:=k3 rfl
     exact Src.ofNil w hu 0
    |some a0=>exact Src.ofSlice w hu a0 0 c1 [] (by simp) (fun j u hu=>by cases hu) (fun u hu=>by cases hu)
   have hv:=hsv
   cases hsv with
   |cut _ _ _ _ _ _ _ g1 g2 g3 gx g4 g0=>
    refine⟨_,?_,hv⟩
    have hrun:=run_append_nothing w t t o.type e i hu hi (some ⟨(ι r).1,lo*sz,none⟩) n c g1 _ hsrc
    unfold execOp
    simp only[ho,resolve,invoke,builtin,Sem.run_bind,Sem.run_pure,Result.andThen_ok,List.map_toArray,List.map_cons,List.map_nil,he,hex,hrun]
   |cnil A _ _ _ _ _ g=>
    refine⟨_,?_,hv⟩
    have hrun:=run_append_nothing w t t o.type e i hu hi A 0 0 (Nat.le_refl _) _ hsrc
    unfold execOp
    simp only[ho,resolve,invoke,builtin,Sem.run_bind,Sem.run_pure,Result.andThen_ok,List.map_toArray,List.map_cons,List.map_nil,he,hex,hrun]
theorem Q6s{l0 rest:List Oper}{acc:List Ef}{s x:Operand}{t e r e0 lo sz by_ n c:Nat}{ex ex':Bool}{qs:List PV}(hg:o.guard=none)(ho:o.op = .call {callee:=.builtin .append,args:=#[s,x],argTypes:=#[t,t]})(hs0:Q0k s=true)(hx0:Q0k x=true)(hz:slcZ P t=some (e,sz,by_))(h0:0<sz)
 (h1:σ.ev s = .cut r e0 sz lo n c ex) (h2:σ.ev x = .c (.sl ex' sz 0 qs))
 (h:evD P l0 rest (σ.eff o.dst (.cut r e0 sz lo n c ex) []) (⟨.cut r e0 sz lo n c ex,[],[],[]⟩::acc) K):evD P l0 (o::rest) σ acc K:=by
 refine⟨⟨.cut r e0 sz lo n c ex,[],[],[]⟩,.inl ⟨hg,fun τ hA _ hN=>?_⟩,h⟩
 have hA':∀z,z=s∨z=x→τ.ev z = σ.ev z:=fun z hz=>hA z (by rw[ho];rcases hz with rfl|rfl<;>simp[Op.operands,Call.operands])
 refine Q6p ho hs0 hx0 hz h0 (by rw[hA' s (.inl rfl)];exact h1) (by rw[hA' x (.inr rfl)];exact h2) ?_
 cases o.dst<;>rfl
theorem St.to.noname{σ : St}(d e:Nat)(hf:σ.free d=true)(hd:d<1000):σ.to ⟨σ.T,hput σ.H d []⟩:=fun E ι a w hc'=>
 ⟨_,hc'.grow (w':=w) hf hd (World.grownBy.refl w none) none (fun b hb=>by cases hb) (0,0,e) (cs:=[]) (fun h=>absurd rfl h) rfl (.inl ⟨rfl,rfl⟩)⟩
theorem St.le_set{i:Nat}{y:AV}(h:(σ.T.getD i .any).le y):σ.le ⟨σ.T.set i y,σ.H⟩:=by
 refine⟨by simp,fun j=>?_,fun r cs h=>h⟩
 by_cases hj:j=i
 · subst hj
   rcases Nat.lt_or_ge j σ.T.length with h0|h0
   · have:(σ.T.set j y).getD j .any=y:=by simp[List.getD,List.getElem?_set,h0]
     rw[this];exact h
   · have:(σ.T.set j y).getD j .any = .any:=by rw[List.getD_eq_getElem?_getD,List.getElem?_eq_none (by simp;omega)];rfl
     rw[this]
     exact fun _ _ _ _ _=>.any _
 · have:(σ.T.set i y).getD j .any = σ.T.getD j .any:=by simp[List.getD,List.getElem?_set,Ne.symm hj]
   rw[this]
   exact AV.le_refl _
end
def St.toX(σ : St)(Q:St→Prop):Prop:=∀E ι a w,Conc E ι σ a w→∃ι' τ,Q τ∧Conc E ι' τ a w
theorem St.toX.of{σ τ : St}{Q:St→Prop}(h:σ.to τ)(hq:Q τ):σ.toX Q:=fun E ι a w hc=>by
 obtain⟨ι',hc'⟩:=h E ι a w hc
 exact⟨ι',τ,hq,hc'⟩
theorem St.toX.mono{σ : St}{Q R:St→Prop}(h:σ.toX Q)(hq:∀τ,Q τ→R τ):σ.toX R:=fun E ι a w hc=>by
 obtain⟨ι',τ,h1,h2⟩:=h E ι a w hc
 exact⟨ι',τ,hq τ h1,h2⟩
theorem St.toX.bind{σ : St}{Q R:St→Prop}(h:σ.toX Q)(hq:∀τ,Q τ→τ.toX R):σ.toX R:=fun E ι a w hc=>by
 obtain⟨ι',τ,h1,h2⟩:=h E ι a w hc
 exact hq τ h1 E ι' a w h2
theorem St.toX.cut{σ : St}{d r e sz n:Nat}(h:σ.T.getD d .any = .row r e sz n)(hd:d < σ.T.length):σ.toX fun τ=>∃k,n≤k∧k≤maxLen∧τ = ⟨σ.T.set d (.cut r e sz 0 n k true),σ.H⟩:=fun E ι a w hc=>by
 have hv:=hc.tmp d
 rw[h] at hv
 obtain⟨k,h1,h2,hcv⟩:=hv.row_cut
 refine⟨ι,_,⟨k,h1,h2,rfl⟩,hc.defers,by simpa using hc.size,fun j=>?_,hc.heap,hc.keep⟩
 show RV _ ι w _ ((σ.T.set d (.cut r e sz 0 n k true)).getD j .any)
 by_cases hj:j=d
 · subst hj
   have:(σ.T.set j (.cut r e sz 0 n k true)).getD j .any = .cut r e sz 0 n k true:=by simp[List.getD,List.getElem?_set,hd]
   rw[this];exact hcv
 · have:(σ.T.set d (.cut r e sz 0 n k true)).getD j .any = σ.T.getD j .any:=by simp[List.getD,List.getElem?_set,Ne.symm hj]
   rw[this];exact hc.tmp j
section
variable {P:Program}
theorem AW.loopX{c:Code}{σ : St}{Φ : Exit→St→Prop}{α : Type}(I:α→St)(μ : α→Nat)(x0:α)(h0:σ.to (I x0))
 (round:∀x,evC P c (I x) fun ex σ'=>match ex with | .normal=>σ'.toX (fun τ=>∃y,μ y < μ x∧τ = I y)|ex=>Φ ex σ'):AW P (.loop c) σ Φ:=by
 intro E ι a w hc b k cs
 have key:∀n x ι a w,μ x=n→Conc E ι (I x) a w→∃e a' w',(∃ι' σ',Conc E ι' σ' a' w'∧Φ e σ')∧Arrives P (lone (b.at a (.code c :: .inLoop c::k)) cs w) b k cs e a' w':=by
  intro n
  induction n using Nat.strongRecOn with
  |_ n ih=>
   intro x ι a w hn hI
   obtain⟨e,a₁,w₁,⟨ι₁,σ₁,hc₁,hq⟩,harr⟩:=Q2s c (I x) _ (round x) E ι a w hI b (.inLoop c::k) cs
   cases e with
   |normal=>
    obtain⟨ι2,τ,⟨y,hlt,rfl⟩,hc2⟩:=hq E ι₁ a₁ w₁ hc₁
    obtain⟨e₂,a₂,w₂,hq₂,harr₂⟩:=ih (μ y) (hn▸hlt) y ι2 a₁ w₁ rfl hc2
    exact⟨e₂,a₂,w₂,hq₂,.of_steps (Steps.trans harr (.one step_inLoop)) harr₂⟩
   |exit id=>exact⟨_,a₁,w₁,⟨ι₁,σ₁,hc₁,hq⟩,.pass (x:=.inLoop c) rfl (fun _ _=>.inl (by simp)) harr⟩
   |goto l=>exact⟨_,a₁,w₁,⟨ι₁,σ₁,hc₁,hq⟩,.pass (x:=.inLoop c) rfl (fun _ _=>.inl (by simp)) harr⟩
   |ret=>exact⟨_,a₁,w₁,⟨ι₁,σ₁,hc₁,hq⟩,.pass (x:=.inLoop c) rfl (fun _ _=>.inl (by simp)) harr⟩
   |panic ch=>exact⟨_,a₁,w₁,⟨ι₁,σ₁,hc₁,hq⟩,.pass (x:=.inLoop c) rfl (fun _ _=>.inl (by simp)) harr⟩
   |outgrown=>exact⟨_,a₁,w₁,⟨ι₁,σ₁,hc₁,hq⟩,.pass (x:=.inLoop c) rfl (fun _ _=>.inl (by simp)) harr⟩
 obtain⟨ι0,hc0⟩:=h0 E ι a w hc
 obtain⟨e,a',w',hq,harr⟩:=key _ x0 ι0 a w rfl hc0
 exact⟨e,a',w',hq,.of_steps (.one step_loop) harr⟩
theorem evC_loopX{c:Code}{σ : St}{Φ : Exit→St→Prop}{α : Type}(I:α→St)(μ : α→Nat)(x0:α)(h0:σ.to (I x0))
 (round:∀x,∀J:Exit→St→Prop,(∀σ',σ'.toX (fun τ=>∃y,μ y < μ x∧τ = I y)→J .normal σ')→(∀ex σ',ex≠.normal→Φ ex σ'→J ex σ')→evC P c (I x) J):evC P (.loop c) σ Φ:=by
 unfold evC
 refine AW.loopX I μ x0 h0 fun x=>round x _ (fun σ' h=>h) fun ex σ' hne h=>?_
 cases ex<;>first|exact absurd rfl hne|exact h
end
end
section
open Go.RowKit
open Nat (reduceBEq)
attribute [-go_sem] IntKind.bits
set_option maxRecDepth 20000
set_option maxHeartbeats 2000000
theorem lastNE(T:Ph→List Sp)(ph:List Ph):∀n,n≤ph.length→∃m,m≤n∧(∀i p,m≤i→i<n→ph[i]? = some p→T p=[])∧(m=0∨∃p,ph[m-1]? = some p∧T p≠[])
 |0,_=>⟨0,Nat.le_refl _,fun i p _ h=>absurd h (Nat.not_lt_zero _),.inl rfl⟩
 |n+1,hn=>by
  obtain⟨m,h1,h2,h3⟩:=lastNE T ph n (by omega)
  have hp:ph[n]? = some ph[n]:=List.getElem?_eq_getElem (by omega)
  by_cases h:T ph[n]=[]
  · refine⟨m,by omega,fun i p hi hlt he=>?_,h3⟩
    rcases Nat.lt_or_ge i n with h'|h'
    · exact h2 i p hi h' he
    · obtain rfl:i=n:=by omega
      rw[hp] at he;cases he;exact h
  · exact⟨n+1,Nat.le_refl _,fun i p hi hlt=>by omega,.inr ⟨ph[n],hp,h⟩⟩
def outT(T:Ph→List Sp)(ph:List Ph)(i:Nat):List Sp:=(ph.take i).flatMap T
theorem outT_succ(T:Ph→List Sp){ph:List Ph}{i:Nat}{p:Ph}(h:ph[i]? = some p):outT T ph (i+1)=outT T ph i++T p:=by
 unfold outT
 rw[List.take_add_one,h,List.flatMap_append]
 simp
theorem outT_len(T:Ph→List Sp)(ph:List Ph)(hT:∀p∈ph,(T p).length≤1000)(hl:ph.length≤1000):∀i,(outT T ph i).length≤1000000:=by
 have key:∀l:List Ph,(∀p∈l,(T p).length≤1000)→(l.flatMap T).length≤l.length*1000:=by
  intro l
  induction l with
  |nil=>intro _;exact Nat.le_refl _
  |cons p l ih=>
   intro h
   have h1:=h p (by simp)
   have h2:=ih fun q hq=>h q (by simp[hq])
   simp only[List.flatMap_cons,List.length_append,List.length_cons]
   omega
 intro i
 have h:=key (ph.take i) fun p hp=>hT p (List.mem_of_mem_take hp)
 have:(ph.take i).length≤1000:=by rw[List.length_take];omega
 unfold outT
 omega
abbrev stFa(ks:List PV)(ph:List Ph)(out:List Sp)(i:Nat):St:=⟨[.any,.any,.any,.ptr 3 0,spl5 false out,.any,.any,.any,.any,.any,.any,.any,.any,.any,.any,phs false ph,vi .i64 ph.length,vi .i64 i,.any,.any,.any,.any,.any,.any,.any,.any,.any,.any,.any,.any,.any,.any,.any,.any,.any,.any,.any,.any,.any],[(3,[.ep ks])]⟩
abbrev stFr(r:Nat)(ks:List PV)(ph:List Ph)(out:List Sp)(c:Nat)(ex:Bool)(i:Nat):St:=⟨[.any,.any,.any,.ptr 3 0,.cut r 37 5 0 out.length c ex,.any,.any,.any,.any,.any,.any,.any,.any,.any,.any,phs false ph,vi .i64 ph.length,vi .i64 i,.any,.any,.any,.any,.any,.any,.any,.any,.any,.any,.any,.any,.any,.any,.any,.any,.any,.any,.any,.any,.any],[(3,[.ep ks]),(r,raS out)]⟩
abbrev stFb:=stFr 500
theorem stFr_rn(ks:List PV)(ph:List Ph)(out:List Sp)(c:Nat)(ex:Bool)(i:Nat):(stFr 30 ks ph out c ex i).to (stFr 500 ks ph out c ex i):=by
 have h:=St.to.rn (σ:=stFr 30 ks ph out c ex i) (fun r=>if r=30 then 500 else r) (fun r=>if r=500 then 30 else r) [30,3] (by simp[AV.inNL,AV.inN]) (by simp) (by simp[inH,AV.inNL,AV.inN,Q0z]) (by simp) (by simp)
 simpa [AV.renL,AV.ren,renH] using h
theorem X7t(c:Cs)(cs:List PV)(T:Ph→List Sp)(hl:c.ph.length≤1000)(hT:∀p∈c.ph,(T p).length≤1000)(hto:∀p∈c.ph,∀s∈T p,s.ok)(tf:∀p∈c.ph,Fn Tryz.prog 28 [evs false p.tr] [] (spl5 false (T p)) [])
 (h:Fn Tryz.prog 43 [.agg [vi .u64 c.snd,phs false c.ph,asl false c.cd]] [] (.ep (.v (.int .u64 c.snd) :: .sl false 4 c.ph.length (c.ph.flatMap Ph.pv)::cs)) []) (q:Sp→Bool)
 (hq:∀s:Sp,s.ok→Fn Tryz.prog 45 [spA s,.ptr 1001 0] [(1001,[.ep (.v (.int .u64 c.snd) :: .sl false 4 c.ph.length (c.ph.flatMap Ph.pv)::cs)])] (vb (q s)) [(1001,[.ep (.v (.int .u64 c.snd) :: .sl false 4 c.ph.length (c.ph.flatMap Ph.pv)::cs)])]) :
 Fn Tryz.prog 13 [csA c] [] (spl5 false (canS (Q3o q (c.ph.flatMap T)))) []:=by
 obtain⟨res,hres⟩:∃res,canS (Q3o q (c.ph.flatMap T))=res:=⟨_,rfl⟩
 rw[hres]
 (refine Q0v Tryz.func13 rfl (by rfl) ?_;simp only[Tryz.ntmps13,List.length_cons,List.length_nil,Nat.reduceAdd,Nat.reduceSub,List.replicate,List.cons_append,List.nil_append])
 (repeat(any_goals(first|((with_reducible refine Q3g ?_ ?_);rfl;intro K hK;(first|(apply Q7j;rfl;rfl;kernel_rfl;rfl));(simp only[go_sem];refine hK _ ?_;clear hK K))|((with_reducible refine Q0l ?_ ?_ ?_);rfl;rfl;intro K hK;((apply Q0i (h);rfl;rfl;rfl;rfl;exact Tryz.func43);kernel_rfl;rfl;(focus((simp only[go_sem]);(try rfl);done));(first|rfl));(simp only[go_sem];refine hK _ ?_;clear hK K))|((with_reducible refine Q0b ?_ ?_);rfl;intro K hK;simp only[go_sem];((repeat(refine ndI (by first|assumption|omega) ?_));refine hK _ ?_;clear hK K))|(with_reducible first|(refine Q0c ?_;refine hR _ ?_;clear hR R)|((first|refine Q0d ?_|refine Q0f ?_);intro J hJ hJ')|(refine Q0a ?_;intro R hR)|(refine hJ _ ?_;clear hJ hJ' J)|refine Q0g ?_)|((with_reducible apply Q0e);rfl;rfl;all_goals(intro hc;first|(cases hc;done)|(try simp only at hc))))))
 obtain⟨ks,hks⟩:∃ks,(.v (.int .u64 c.snd) :: .sl false 4 c.ph.length (c.ph.flatMap Ph.pv)::cs)=ks:=⟨_,rfl⟩
 simp only[hks] at hq ⊢
 obtain⟨m,hm1,hm2,hm3⟩:=lastNE T c.ph c.ph.length (Nat.le_refl _)
 have hol:=outT_len T c.ph hT hl
 clear h
 refine evC_loopX (α:={q:Nat×Option (Nat×Bool) // q.1≤c.ph.length∧(match q.2 with|none=>q.1<m|some (k,_)=>m≤q.1∧(outT T c.ph q.1).length≤k∧k≤maxLen)}) (fun q=>match q.1.2 with|none=>stFa ks c.ph (outT T c.ph q.1.1) q.1.1|some (k,ex)=>stFb ks c.ph (outT T c.ph q.1.1) k ex q.1.1) (fun q=>c.ph.length-q.1.1) (if h0:m=0 then⟨(0,some (0,true)),Nat.zero_le _,by dsimp only;exact⟨by omega,Nat.le_refl _,Nat.zero_le _⟩⟩ else⟨(0,none),Nat.zero_le _,by dsimp only;omega⟩) ?_ ?_
 · by_cases h0:m=0
   · rw[dif_pos h0]
     refine St.to.trans (St.to.nilcut 4 500 37 5 rfl (by simp) (by simp[St.free,Q2f,AV.refsL,AV.refs]) (by decide)) (St.to.of_le (St.le_of (by simp[leT,outT]) (by simp[leH,hget,hput,outT])))
   · rw[dif_neg h0]
     exact St.to.trans (St.to.of_le (St.le_set (i:=4) (y:=spl5 false []) (AV.le_nil false 5))) (St.to.of_le (St.le_of (by simp[leT,outT]) (by simp[leH,hget,hput])))
 rintro ⟨⟨i,o⟩,hi,ho⟩ J hJ hJ'
 (try dsimp only at hi ho hJ ⊢)
 have hn:=hol i
 rcases Nat.lt_or_ge i c.ph.length with hlt|hge
 · obtain⟨y,hy⟩:∃y,c.ph[i]? = some y:=⟨_,List.getElem?_eq_getElem hlt⟩
   have k1:(decide ((i:Int)<(c.ph.length:Int)))=true:=by simp;omega
   have k2:=Q7e hy
   have k7:(i:Int)+1=((i+1:Nat):Int):=by omega
   have tf1:=tf y (List.mem_of_getElem? hy)
   have os:=outT_succ T hy
   have hTy:=hT y (List.mem_of_getElem? hy)
   cases o with
   |none=>
    dsimp only at ho ⊢
    by_cases him:i+1<m
    · have hJ1:∀σ':St,σ'.to (stFa ks c.ph (outT T c.ph (i+1)) (i+1))→J .normal σ':=fun σ' h=>hJ σ' (.of h ⟨⟨(i+1,none),hlt,him⟩,by dsimp only;omega,rfl⟩)
      rw[os] at hJ1
      generalize outT T c.ph i=out at hn hJ1 ⊢
      have k4:(out.flatMap Sp.pv).length=out.length*5:=Q0r Q8k _
      generalize T y=ty at tf1 hTy hJ1
      have k5:(ty.flatMap Sp.pv).length=ty.length*5:=Q0r Q8k _
      have k8:(out.flatMap Sp.pv).take (out.length*5)=out.flatMap Sp.pv:=List.take_of_length_le (by omega)
      clear hol hq tf hT hto os
      (have W:=ndI k1 (ndI k2 (ndI k4 (ndI k5 (ndI k7 (ndI k8 @wrI)))));(repeat(any_goals(first|((with_reducible refine Q0b ?_ ?_);rfl;intro K hK;simp(disch:=omega) only[go_sem,W];((repeat(refine ndI (by first|assumption|omega|rfl) ?_));refine hK _ ?_;clear hK K))|(with_reducible first|(refine Q0c ?_;refine hR _ ?_;clear hR R)|((first|refine Q0d ?_|refine Q0f ?_);intro J hJ hJ')|(refine Q0a ?_;intro R hR)|(refine hJ _ ?_;clear hJ hJ' J)|refine Q0g ?_)|((with_reducible refine hJ' _ _ ?_ ?_);(focus(simp;done));clear hJ hJ' J)|((with_reducible apply Q0e);rfl;rfl;all_goals(intro hc;first|(cases hc;done)|(try simp only at hc)))|((with_reducible refine Q0y ?_ ?_);kernel_rfl;(with_reducible refine hR _ ?_);clear hR R)|((first|((with_reducible apply Q1i);rfl;rfl;((apply Q0t (tf1);rfl;rfl;rfl;rfl;exact Tryz.func28);kernel_rfl;rfl;(focus((simp(disch:=omega) only[go_sem,W]);(try rfl);done));(first|rfl)))|((with_reducible apply Q0x);rfl;rfl;(simp(disch:=omega) only[rdE,rdOf,go_sem,W];rfl);(intro τ hA hQ hN;((try simp only[Q1h,Op.operands,Call.operands,go_sem,W,go_sem,List.mem_cons,List.not_mem_nil,forall_eq_or_imp,forall_eq,List.append_toArray,Option.toArray] at hA);(try simp only[go_sem,W,List.mem_cons,List.not_mem_nil,forall_eq_or_imp,forall_eq] at hQ hN);(first|(revert hA;intro hA));(first|(revert hQ;intro hQ));(first|(revert hN;intro hN));simp(disch:=omega) only[go_sem,W,go_sem,hA,hQ,hN];(repeat(refine ndI (by first|assumption|omega|rfl) ?_));(first|apply Q1b))))|((with_reducible apply Q4m);rfl;rfl;rfl;rfl;(focus(simp only[go_sem];try rfl));(first|omega);(first|omega);rfl;rfl;(focus(first|omega));(focus(first|omega));(focus(first|omega));rfl;(focus(first|omega))));(simp(disch:=omega) only[St.eff,setO,Q0w,go_sem,W]))|((with_reducible refine Q0u ?_ ?_ ?_ ?_);kernel_rfl;kernel_rfl;(first|kernel_rfl);intro R hR)))))
      all_goals exact hJ1 _ (St.to.of_le (St.le_of (by simp[leT]) (by simp[leH,hget])))
    · have hne:T y≠[]:=by
       rcases hm3 with h|⟨p,hp,h⟩
       · omega
       · have e:m-1=i:=by omega
         rw[e,hy] at hp
         cases hp
         exact h
      have hpos:0<(T y).length:=List.length_pos_iff.2 hne
      have hn1:=hol (i+1)
      have hJ1:∀σ':St,σ'.toX (fun τ=>∃k,(outT T c.ph (i+1)).length≤k∧k≤maxLen∧τ = stFb ks c.ph (outT T c.ph (i+1)) k true (i+1))→J .normal σ':=fun σ' h=>hJ σ' (h.mono fun τ ⟨k,h1,h2,h3⟩=>⟨⟨(i+1,some (k,true)),hlt,by dsimp only;omega,h1,h2⟩,by dsimp only;omega,h3⟩)
      rw[os] at hJ1 hn1
      generalize outT T c.ph i=out at hn hn1 hJ1 ⊢
      have k4:(out.flatMap Sp.pv).length=out.length*5:=Q0r Q8k _
      generalize T y=ty at tf1 hTy hJ1 hpos hn1
      have k5:(ty.flatMap Sp.pv).length=ty.length*5:=Q0r Q8k _
      have k8:(out.flatMap Sp.pv).take (out.length*5)=out.flatMap Sp.pv:=List.take_of_length_le (by omega)
      rw[List.length_append] at hn1
      clear hol hq tf hT hto os
      (have W:=ndI k1 (ndI k2 (ndI k4 (ndI k5 (ndI k7 (ndI k8 @wrI)))));(repeat(any_goals(first|((with_reducible refine Q0b ?_ ?_);rfl;intro K hK;simp(disch:=omega) only[go_sem,W];((repeat(refine ndI (by first|assumption|omega|rfl) ?_));refine hK _ ?_;clear hK K))|(with_reducible first|(refine Q0c ?_;refine hR _ ?_;clear hR R)|((first|refine Q0d ?_|refine Q0f ?_);intro J hJ hJ')|(refine Q0a ?_;intro R hR)|(refine hJ _ ?_;clear hJ hJ' J)|refine Q0g ?_)|((with_reducible refine hJ' _ _ ?_ ?_);(focus(simp;done));clear hJ hJ' J)|((with_reducible apply Q0e);rfl;rfl;all_goals(intro hc;first|(cases hc;done)|(try simp only at hc)))|((with_reducible refine Q0y ?_ ?_);kernel_rfl;(with_reducible refine hR _ ?_);clear hR R)|((first|((with_reducible apply Q1i);rfl;rfl;((apply Q0t (tf1);rfl;rfl;rfl;rfl;exact Tryz.func28);kernel_rfl;rfl;(focus((simp(disch:=omega) only[go_sem,W]);(try rfl);done));(first|rfl)))|((with_reducible apply Q0x);rfl;rfl;(simp(disch:=omega) only[rdE,rdOf,go_sem,W];rfl);(intro τ hA hQ hN;((try simp only[Q1h,Op.operands,Call.operands,go_sem,W,go_sem,List.mem_cons,List.not_mem_nil,forall_eq_or_imp,forall_eq,List.append_toArray,Option.toArray] at hA);(try simp only[go_sem,W,List.mem_cons,List.not_mem_nil,forall_eq_or_imp,forall_eq] at hQ hN);(first|(revert hA;intro hA));(first|(revert hQ;intro hQ));(first|(revert hN;intro hN));simp(disch:=omega) only[go_sem,W,go_sem,hA,hQ,hN];(repeat(refine ndI (by first|assumption|omega|rfl) ?_));(first|apply Q1b))))|((with_reducible apply X1d);rfl;rfl;rfl;rfl;(focus(simp only[go_sem];try rfl));(first|omega);(first|omega);rfl;rfl;(focus(first|omega));(focus(first|omega));(focus(first|omega));rfl;(focus(first|omega));(focus rfl)));(simp(disch:=omega) only[St.eff,setO,Q0w,go_sem,W]))|((with_reducible refine Q0u ?_ ?_ ?_ ?_);kernel_rfl;kernel_rfl;(first|kernel_rfl);intro R hR)))))
      all_goals refine hJ1 _ (St.toX.bind (St.toX.cut (d:=4) rfl (by simp)) ?_)
      rintro τ ⟨k,h1,h2,rfl⟩
      exact St.toX.of (St.to.trans (St.to.of_le (τ:=stFr 30 ks c.ph (out++ty) k true (i+1)) (St.le_of (by simp[leT]) (by simp[leH,hget,raS]))) (stFr_rn ks c.ph _ k true _)) ⟨k,by rw[List.length_append];exact h1,h2,rfl⟩
   |some kx=>
    obtain⟨k,ex⟩:=kx
    dsimp only at ho ⊢
    obtain⟨ho1,ho2,ho3⟩:=ho
    have hTn:T y=[]:=hm2 i y ho1 hlt hy
    have tf2:Fn Tryz.prog 28 [evs false y.tr] [] (.c (.sl false 5 0 [])) []:=by rw[hTn] at tf1;exact tf1
    rw[hTn,List.append_nil] at os
    have hJ1:∀σ':St,σ'.to (stFb ks c.ph (outT T c.ph (i+1)) (outT T c.ph (i+1)).length false (i+1))→J .normal σ':=fun σ' h=>hJ σ' (.of h ⟨⟨(i+1,some (_,false)),hlt,by dsimp only;omega,Nat.le_refl _,by have:=hol (i+1);unfold maxLen;omega⟩,by dsimp only;omega,rfl⟩)
    rw[os] at hJ1
    generalize outT T c.ph i=out at hn hJ1 ho2 ⊢
    have k4:(raS out).length=out.length*5:=Q6n out
    have k9:∀r,AV.refsL r (raS out)=false:=fun r=>Q0n r _
    clear hol hq tf tf1 hT hto os
    (have W:=ndI k1 (ndI k2 (ndI k4 (ndI k7 (ndI k9 @wrI))));(repeat(any_goals(first|((with_reducible refine Q0b ?_ ?_);rfl;intro K hK;simp(disch:=omega) only[go_sem,W];((repeat(refine ndI (by first|assumption|omega|rfl) ?_));refine hK _ ?_;clear hK K))|(with_reducible first|(refine Q0c ?_;refine hR _ ?_;clear hR R)|((first|refine Q0d ?_|refine Q0f ?_);intro J hJ hJ')|(refine Q0a ?_;intro R hR)|(refine hJ _ ?_;clear hJ hJ' J)|refine Q0g ?_)|((with_reducible refine hJ' _ _ ?_ ?_);(focus(simp;done));clear hJ hJ' J)|((with_reducible apply Q0e);rfl;rfl;all_goals(intro hc;first|(cases hc;done)|(try simp only at hc)))|((with_reducible refine Q0y ?_ ?_);kernel_rfl;(with_reducible refine hR _ ?_);clear hR R)|((first|((with_reducible apply Q1i);rfl;rfl;((apply Q0t (tf2);rfl;rfl;rfl;rfl;exact Tryz.func28);kernel_rfl;rfl;(focus((simp(disch:=omega) only[go_sem,W]);(try rfl);done));(first|rfl)))|((with_reducible apply Q0x);rfl;rfl;(simp(disch:=omega) only[rdE,rdOf,go_sem,W];rfl);(intro τ hA hQ hN;((try simp only[Q1h,Op.operands,Call.operands,go_sem,W,go_sem,List.mem_cons,List.not_mem_nil,forall_eq_or_imp,forall_eq,List.append_toArray,Option.toArray] at hA);(try simp only[go_sem,W,List.mem_cons,List.not_mem_nil,forall_eq_or_imp,forall_eq] at hQ hN);(first|(revert hA;intro hA));(first|(revert hQ;intro hQ));(first|(revert hN;intro hN));simp(disch:=omega) only[go_sem,W,go_sem,hA,hQ,hN];(repeat(refine ndI (by first|assumption|rfl) ?_));(first|apply Q1b))))|((first|((with_reducible apply Q3r);rfl));apply X2u;rfl;rfl;rfl;rfl;rfl;(focus(simp only[go_sem];try rfl));rfl;rfl;rfl;rfl;(intro h;first|rfl);(first|omega))|((with_reducible apply Q6s);rfl;rfl;rfl;rfl;(focus(simp only[go_sem];try rfl));(first|omega);rfl;rfl));(simp(disch:=omega) only[St.eff,setO,Q0w,go_sem,W]))|((with_reducible refine Q0u ?_ ?_ ?_ ?_);kernel_rfl;kernel_rfl;(simp[Q1y,Q5s,St.free,Q2f,AV.refsL,AV.refs,k9]);intro R hR)))))
    all_goals exact hJ1 _ (St.to.of_le (St.le_of (by simp[leT]) (by simp[leH,hget])))
 · cases o with
   |none=>
    dsimp only at ho
    omega
   |some kx=>
    obtain⟨k,ex⟩:=kx
    dsimp only at ho ⊢
    obtain⟨ho1,ho2,ho3⟩:=ho
    have k1:(decide ((i:Int)<(c.ph.length:Int)))=false:=by simpa using hge
    have eL:outT T c.ph i=c.ph.flatMap T:=by unfold outT;rw[List.take_of_length_le hge]
    rw[eL] at ho2 hn ⊢
    have oL:∀s∈c.ph.flatMap T,s.ok:=fun s hs=>by
     obtain⟨p,hp,h⟩:=List.mem_flatMap.1 hs
     exact hto p hp s h
    generalize c.ph.flatMap T=L at ho2 hn oL hres ⊢
    have oK:∀s∈Q3o q L,s.ok:=fun s hs=>oL s (List.mem_filter.1 hs).1
    have lK:(Q3o q L).length≤L.length:=X5u q L
    have de:=delSc_fn k ex L ho2 ho3 q ks hn Tryz.func45 (by kernel_rfl) rfl (fun s hs=>hq s (oL s hs))
    generalize hK:Q3o q L=K at de oK lK hres
    obtain⟨s,hp,hs,so⟩:=sortSc_fn K (by omega) oK
    have so:=so k ex
    have hlen:=hp.length_eq
    have os:∀x∈s,x.ok:=fun x hx=>oK x (hp.mem_iff.1 hx)
    have e:canS K=ddS s s.length:=(X6s oK (X9w s hs os _ (Nat.le_refl _)) fun x=>by rw[X0k s _ (Nat.le_refl _),List.take_length];exact hp.mem_iff).symm
    have e2:ddS s s.length=res:=by rw[←e];exact hres
    have co:Fn Tryz.prog 49 [.cut 1000 37 5 0 s.length k ex] [(1000,raS s)] (.cut 1000 37 5 0 (ddS s s.length).length k ex) [(1000,raS (ddS s s.length))]:=
     (X6n k ex s (by omega) ho3 (by omega) os).weaken (AV.le_refl _) (leHp (ds:=rcS (List.replicate (s.length-(ddS s s.length).length) ⟨0,0⟩)) (by rw[Q5p];simp[hget];rfl))
    rw[e2,hlen] at co
    clear hol hq tf hT hto e hs hp os eL e2 hres
    (repeat(any_goals(first|((with_reducible refine Q0l ?_ ?_ ?_);rfl;rfl;intro K hK;(first|(apply Q1g (de) (fun r=>if r=1000 then 500 else if r=1001 then 3 else r);rfl;rfl;rfl;rfl;exact Tryz.func44;kernel_rfl;rfl;rfl;(intro r hr q hq h;simp only[List.map_cons,List.map_nil,List.cons_append,List.nil_append,List.mem_cons,List.not_mem_nil,or_false] at hr hq;(try dsimp only at h);first|(rcases hr with rfl|rfl|rfl<;>rcases hq with rfl|rfl|rfl<;>simp at h ⊢));(simp only[Q1d,Q2d,AV.ren,AV.renL,Q0q,List.mem_cons,List.not_mem_nil,forall_eq_or_imp,forall_eq,Q1w,List.contains_cons,List.contains_nil,AV.refsL,AV.refs,Q0n,AV.inN,AV.inNL,inH,Q0z,go_sem,k1]))|(apply Q1g (so) (fun r=>500);rfl;rfl;rfl;rfl;exact Tryz.func47;kernel_rfl;rfl;rfl;(intro r hr q hq h;simp only[List.map_cons,List.map_nil,List.cons_append,List.nil_append,List.mem_cons,List.not_mem_nil,or_false] at hr hq;(try dsimp only at h);first|omega);(simp only[Q1d,Q2d,AV.ren,AV.renL,Q0q,List.mem_cons,List.not_mem_nil,forall_eq_or_imp,forall_eq,Q1w,List.contains_cons,List.contains_nil,AV.refsL,AV.refs,Q0n,AV.inN,AV.inNL,inH,Q0z,go_sem,k1])));(simp only[Q0w,Q1u,renH,AV.ren,AV.renL,Q0q,go_sem,k1];refine hK _ ?_;clear hK K))|((with_reducible refine Q0b ?_ ?_);rfl;intro K hK;simp only[go_sem,k1];((repeat(refine ndI (by first|assumption) ?_));refine hK _ ?_;clear hK K))|(with_reducible first|(refine Q0c ?_;refine hR _ ?_;clear hR R)|((first|refine Q0d ?_);intro J hJ hJ')|(refine Q0a ?_;intro R hR)|(refine hJ _ ?_;clear hJ hJ' J)|refine Q0p ?_)|((with_reducible refine hJ' _ _ ?_ ?_);(focus(simp;done));clear hJ hJ' J)|((with_reducible apply Q0e);rfl;rfl;all_goals(intro hc;first|(cases hc;done)|(try simp only at hc))))))
    (first|((with_reducible refine Q0l ?_ ?_ ?_);rfl;rfl;intro K hK;(apply Q1g (co) (fun r=>500);rfl;rfl;rfl;rfl;exact Tryz.func49;kernel_rfl;rfl;rfl;(intro r hr q hq h;simp only[List.map_cons,List.map_nil,List.cons_append,List.nil_append,List.mem_cons,List.not_mem_nil,or_false] at hr hq;(try dsimp only at h);first|omega);(simp only[Q1d,Q2d,AV.ren,AV.renL,Q0q,List.mem_cons,List.not_mem_nil,forall_eq_or_imp,forall_eq,Q1w,List.contains_cons,List.contains_nil,AV.refsL,AV.refs,Q0n,AV.inN,AV.inNL,inH,Q0z,go_sem]));(simp only[Q0w,Q1u,renH,AV.ren,AV.renL,Q0q,go_sem];refine hK _ ?_;clear hK K)))
    refine evL_to rfl (St.to.frz 500 (pcs:=res.flatMap Sp.pv) rfl) ?_
    have f1:(res.flatMap Sp.pv).length=res.length*5:=Q0r Q8k _
    have f2:(res.flatMap Sp.pv).take (res.length*5)=res.flatMap Sp.pv:=List.take_of_length_le (by omega)
    simp only[St.frz,AV.frz,AV.frzL,frzH,if_true,eq_self,↓reduceIte,Nat.zero_add,Nat.zero_mul,List.drop_zero,f1,f2,Nat.le_refl,Nat.reduceEqDiff,if_false]
    (repeat(any_goals(first|((with_reducible refine Q0b ?_ ?_);rfl;intro K hK;simp only[go_sem];((repeat(refine ndI (by first|assumption) ?_));refine hK _ ?_;clear hK K))|(with_reducible first|(refine Q0c ?_;refine hR _ ?_;clear hR R)|(refine hJ _ ?_;clear hJ hJ' J)|refine Q0j ?_))))
    all_goals(refine⟨by simp,⟨_,?_,AV.le_refl _⟩,Q0h (by simp[leH,hget])⟩;simp only[Tryz.results13,resL,ldA,Q0o,go_sem])
def Q7q(c:Cs):List Sp:=if Q5i c=true then canS (Q3o (fun s=>Q3w c s c.snd) (c.ph.flatMap fun p=>canS (Q5c [2,3] p.tr))) else[]
theorem canS_len(l:List Sp):(canS l).length≤l.length:=by
 unfold canS
 exact Nat.le_trans (X9x _ _) (Nat.le_of_eq (List.length_mergeSort l))
theorem Z1j(c:Cs)(hc:c.ok):Fn Tryz.prog 13 [csA c] [] (spl5 false (Q7q c)) []:=by
 unfold Q7q
 cases hr:Q5i c with
 |false=>
  have h:=X3w c hc hr
  change Fn _ _ [.agg [vi .u64 c.snd,phs false c.ph,asl false c.cd]] _ _ _ at h
  rw[if_neg (by simp)]
  clear hr hc
  (refine Q0v Tryz.func13 rfl (by rfl) ?_;simp only[Tryz.ntmps13,List.length_cons,List.length_nil,Nat.reduceAdd,Nat.reduceSub,List.replicate,List.cons_append,List.nil_append])
  (repeat(any_goals(first|((with_reducible refine Q3g ?_ ?_);rfl;intro K hK;(first|(apply X2w;rfl;rfl;kernel_rfl;rfl));(simp only[go_sem];refine hK _ ?_;clear hK K))|((with_reducible refine Q0l ?_ ?_ ?_);rfl;rfl;intro K hK;((apply Q0i (h);rfl;rfl;rfl;rfl;exact Tryz.func43);kernel_rfl;rfl;(focus((simp only[go_sem]);(try rfl);done));(first|rfl));(simp only[go_sem];refine hK _ ?_;clear hK K))|((with_reducible refine Q0b ?_ ?_);rfl;intro K hK;simp only[go_sem];((repeat(refine ndI (by first|assumption) ?_));refine hK _ ?_;clear hK K))|(with_reducible first|(refine Q0c ?_;refine hR _ ?_;clear hR R)|((first|refine Q0d ?_);intro J hJ hJ')|(refine Q0a ?_;intro R hR)|(refine hJ _ ?_;clear hJ hJ' J)|refine Q0j ?_)|((with_reducible refine hJ' _ _ ?_ ?_);(focus(simp;done));clear hJ hJ' J)|((with_reducible apply Q0e);rfl;rfl;all_goals(intro hc;first|(cases hc;done)|(try simp only at hc))))))
  all_goals exact⟨by simp,⟨_,rfl,AV.le_nil false 5⟩,Q0h (by simp[leH,hget])⟩
 |true=>
  rw[if_pos rfl]
  exact X7t c [.sl false 1 c.cd.length (c.cd.flatMap apv),.v (.bool (ofM c)),.v (.bool (ofF c))] (fun p=>canS (Q5c [2,3] p.tr)) hc.2.1.1
   (fun p hp=>by have h1:=canS_len (Q5c [2,3] p.tr);have h2:=X4q [2,3] p.tr;have h3:=(hc.2.1.2 p hp).2.1;omega)
   (fun p hp s hs=>by
     have ho:=Q8v (hc.2.1.2 p hp).2.2 [2,3]
     exact ho s (((X0q _ ho).2 s).1 hs))
   (fun p hp=>Z0o false p.tr (hc.2.1.2 p hp).2.1 (hc.2.1.2 p hp).2.2) (X3x c hc hr) _ fun s hs=>for1_fn c hc (ofM c) (ofF c) s hs
end
section
open Go.RowKit
open Nat (reduceBEq)
attribute [-go_sem] IntKind.bits
set_option maxRecDepth 20000
set_option maxHeartbeats 4000000
abbrev raE(l:List Ev):List AV:=(l.flatMap Ev.pv).map .c
theorem X2r(l:List Ev):(raE l).length=l.length*14:=by rw[List.length_map,Q0r X6e]
theorem cloneE_fn(ex:Bool)(l:List Ev)(hl:l.length≤1000000):Fn Tryz.prog 37 [evs ex l] [] (.row 7 58 14 l.length) [(7,raE l)]:=by
 have e1:=X2r l
 (refine Q0v Tryz.func37 rfl (by rfl) ?_;simp only[Tryz.ntmps37,List.length_cons,List.length_nil,Nat.reduceAdd,Nat.reduceSub,List.replicate,List.cons_append,List.nil_append])
 (repeat(any_goals(first|((have hz0:=hb0 hc);(with_reducible refine Q3g ?_ ?_);rfl;intro K hK;refine OpA.nilrow_after 2 7 58 14 (Q3q ?_);(simp(disch:=omega) only[go_sem,e1,Q0n]);(repeat(refine And.intro (by first|assumption|rfl) ?_));refine hK _ ?_;clear hK K;clear hb0)|((with_reducible refine Q0b ?_ ?_);rfl;intro K hK;simp(disch:=omega) only[go_sem,e1,Q0n];((repeat(refine ndI (by first|assumption|omega|rfl) ?_));refine hK _ ?_;clear hK K))|((with_reducible refine Q0b ?_ ?_);rfl;intro K hK;refine X0f rfl rfl (by first|exact .inl rfl) ?_ rfl ?_;(focus(simp(disch:=omega) only[go_sem];try rfl));(intro b hb0;simp(disch:=omega) only[eq_self,go_sem,e1,Q0n];(with_reducible refine hK _ ?_);clear hK K))|(with_reducible first|(refine Q0c ?_;refine hR _ ?_;clear hR R)|((first|refine Q0d ?_);intro J hJ hJ')|(refine Q0a ?_;intro R hR)|(refine hJ _ ?_;clear hJ hJ' J)|refine Q0g ?_|refine Q0j ?_)|((with_reducible refine hJ' _ _ ?_ ?_);(focus(simp;done));clear hJ hJ' J)|((with_reducible apply Q0e);rfl;rfl;all_goals(intro hc;first|(try simp only at hc))))))
 all_goals(try(obtain rfl:=List.eq_nil_of_length_eq_zero hz0))
 all_goals exact⟨by simp,⟨_,rfl,AV.le_refl _⟩,Q0h (by simp[leH,hget])⟩
theorem Z1r(ex:Bool)(l:List Nat)(hl:l.length≤1000000):Fn Tryz.prog 38 [bsl ex l] [] (.row 7 5 1 l.length) [(7,(l.flatMap bpv).map .c)]:=by
 have e1:((l.flatMap bpv).map AV.c).length=l.length*1:=by rw[List.length_map,Q0r Q3d]
 (refine Q0v Tryz.func38 rfl (by rfl) ?_;simp only[Tryz.ntmps38,List.length_cons,List.length_nil,Nat.reduceAdd,Nat.reduceSub,List.replicate,List.cons_append,List.nil_append])
 (repeat(any_goals(first|((have hz0:=hb0 hc);(with_reducible refine Q3g ?_ ?_);rfl;intro K hK;refine OpA.nilrow_after 2 7 5 1 (Q3q ?_);(simp(disch:=omega) only[go_sem,e1,Q0n]);(repeat(refine And.intro (by first|assumption|rfl) ?_));refine hK _ ?_;clear hK K;clear hb0)|((with_reducible refine Q0b ?_ ?_);rfl;intro K hK;simp(disch:=omega) only[go_sem,e1,Q0n];((repeat(refine ndI (by first|assumption|omega|rfl) ?_));refine hK _ ?_;clear hK K))|((with_reducible refine Q0b ?_ ?_);rfl;intro K hK;refine X0f rfl rfl (by first|exact .inl rfl) ?_ rfl ?_;(focus(simp(disch:=omega) only[go_sem];try rfl));(intro b hb0;simp(disch:=omega) only[eq_self,go_sem,e1,Q0n];(with_reducible refine hK _ ?_);clear hK K))|(with_reducible first|(refine Q0c ?_;refine hR _ ?_;clear hR R)|((first|refine Q0d ?_);intro J hJ hJ')|(refine Q0a ?_;intro R hR)|(refine hJ _ ?_;clear hJ hJ' J)|refine Q0g ?_|refine Q0j ?_)|((with_reducible refine hJ' _ _ ?_ ?_);(focus(simp;done));clear hJ hJ' J)|((with_reducible apply Q0e);rfl;rfl;all_goals(intro hc;first|(try simp only at hc))))))
 all_goals(try(obtain rfl:=List.eq_nil_of_length_eq_zero hz0))
 all_goals exact⟨by simp,⟨_,rfl,AV.le_refl _⟩,Q0h (by simp[leH,hget])⟩
theorem Z1q(ex:Bool)(l:List Nat)(hl:l.length≤1000000):Fn Tryz.prog 38 [bsl ex l] [] (bsl false l) []:=(Z1r ex l hl).frz (by rw[Q0r Q3d])
theorem X7i(A B:List Ev)(y:Ev):raE (A++y::B)=raE A++(c14 y.kind y.dep y.self y.to (y.op:Int) (l0 y.key) (l1 y.key) (l2 y.key) (l3 y.key) (l0 y.val) (l1 y.val) (l2 y.val) (l3 y.val) (bsl false y.data)++raE B):=by simp[raE,Ev.pv]
def Ev.with(e:Ev)(d:List Nat):Ev:={e with data:=d}
theorem ecell{A B:List Ev}{y:Ev}{k:Nat}(hA:A.length=k):(raE (A++y::B))[k*14+13]? = some (bsl false y.data):=by
 have hl:=X2r A
 rw[hA] at hl
 rw[X7i]
 rw[List.getElem?_append_right (by omega),hl,show k*14+13-k*14=13 by omega];rfl
theorem spl_data{A B:List Ev}{y:Ev}{k:Nat}(hA:A.length=k)(d:List Nat):spl (raE (A++y::B)) (k*14+13) [bsl false d]=raE (A++y.with d::B):=by
 have hl:=X2r A
 rw[hA] at hl
 rw[X7i,X7i]
 generalize raE A=X at hl
 unfold spl
 rw[List.take_append,List.drop_append]
 simp[hl,Ev.with,List.take_of_length_le,show k*14+13-k*14=13 by omega,show k*14+13+1-k*14=14 by omega,show X.length≤k*14+13 by omega,List.drop_eq_nil_of_le,show k*14≤k*14+13+1 by omega]
def cutE(e:Ev):Ev:=e.with (e.data.take 80)
def cutP(p:Ph):Ph:={p with tr:=(p.tr.take 60).map cutE}
def cutC(c:Cs):Cs:=⟨c.snd,(c.ph.take 4).map cutP,c.cd.take 60⟩
def Ev.raw(e:Ev):Prop:=e.key<WW∧e.val<WW∧e.data.length≤maxLen∧(∀b∈e.data,b<256)∧U e.self∧U e.to
def Ph.raw(p:Ph):Prop:=U p.who∧p.tr.length≤maxLen∧∀e∈p.tr,e.raw
def Cs.raw(c:Cs):Prop:=U c.snd∧(c.ph.length≤maxLen∧∀p∈c.ph,p.raw)∧c.cd.length≤maxLen∧∀a∈c.cd,U a
theorem Q5v{c:Cs}(h:c.raw):(cutC c).ok:=by
 obtain⟨h1,⟨h2,h3⟩,h4,h5⟩:=h
 refine⟨h1,⟨?_,fun p hp=>?_⟩,?_,fun a ha=>h5 a (List.mem_of_mem_take ha)⟩
 · show((c.ph.take 4).map cutP).length≤1000
   rw[List.length_map,List.length_take];omega
 · obtain⟨q,hq,rfl⟩:=List.mem_map.1 hp
   obtain⟨u1,u2,u3⟩:=h3 q (List.mem_of_mem_take hq)
   refine⟨u1,?_,fun e he=>?_⟩
   · show((q.tr.take 60).map cutE).length≤1000
     rw[List.length_map,List.length_take];omega
   · obtain⟨f,hf,rfl⟩:=List.mem_map.1 he
     obtain⟨v1,v2,v3,v4,v5,v6⟩:=u3 f (List.mem_of_mem_take hf)
     refine⟨v1,v2,?_,fun b hb=>v4 b (List.mem_of_mem_take hb),v5,v6⟩
     show(f.data.take 80).length≤1000
     rw[List.length_take];omega
 · show(c.cd.take 60).length≤1000
   rw[List.length_take];omega
theorem cutC_len(c:Cs):(cutC c).ph.length≤4:=by
 show((c.ph.take 4).map cutP).length≤4
 rw[List.length_map,List.length_take];omega
abbrev raP(l:List Ph):List AV:=(l.flatMap Ph.pv).map .c
abbrev phR(p:Ph):List AV:=[vi .i64 p.role,vi .u64 p.who,vb p.stk,.row 700 58 14 p.tr.length]
def Q1t:Nat→List Ph→List AV
 |_,[]=>[]
 |0,p::l=>phR p++raP l
 |k+1,p::l=>p.pv.map .c++Q1t k l
def Q3n(k:Nat)(l:List Ph):List AV:=match l[k]? with|some p=>raE p.tr|none=>[]
theorem X2e:∀(k:Nat) (l:List Ph),(Q1t k l).length=l.length*4
 |_,[]=>by unfold Q1t;rfl
 |0,p::l=>by
  unfold Q1t
  rw[List.length_append,List.length_map,Q0r X1q,List.length_cons]
  simp only[List.length_cons,List.length_nil]
  omega
 |k+1,p::l=>by
  unfold Q1t
  rw[List.length_append,List.length_map,X1q,X2e k l,List.length_cons]
  omega
theorem X0o:∀(k:Nat) (l:List Ph) (p:Ph),Q1t k (l++[p])=Q1t k l++if l.length=k then phR p else p.pv.map .c
 |0,[],p=>by simp[Q1t]
 |k+1,[],p=>by simp[Q1t]
 |0,q::l,p=>by simp[Q1t,raP]
 |k+1,q::l,p=>by
  have h:=X0o k l p
  simp only[List.cons_append,Q1t,h,List.append_assoc,List.length_cons,Nat.add_right_cancel_iff]
theorem X0p:∀(k:Nat) (l:List Ph),l.length≤k→Q1t k l=raP l
 |_,[],_=>by simp[Q1t]
 |0,p::l,h=>absurd h (by simp)
 |k+1,p::l,h=>by
  have h:=X0p k l (by simpa using h)
  simp[Q1t,h,raP]
theorem Q6x:∀(k:Nat) (l:List Ph) (d:Nat),d≠700→AV.refsL d (Q1t k l)=false
 |_,[],d,_=>by simp[Q1t,AV.refsL]
 |0,p::l,d,h=>by simp[Q1t,AV.refsL,AV.refs,Ne.symm h]
 |k+1,p::l,d,h=>by simp[Q1t,Q6x k l d h]
theorem X2d:∀(k:Nat) (l:List Ph) (ρ : Nat→Nat),ρ 700=700→AV.renL ρ (Q1t k l)=Q1t k l
 |_,[],ρ,_=>by simp[Q1t,AV.renL]
 |0,p::l,ρ,h=>by simp[Q1t,AV.renL,AV.ren,h]
 |k+1,p::l,ρ,h=>by
  simp only[Q1t]
  rw[X2p,Q0q,X2d k l ρ h]
theorem X3g(N:List Nat)(l r:List AV):AV.inNL N (l++r)=(AV.inNL N l&&AV.inNL N r):=by
 induction l with
 |nil=>simp[AV.inNL]
 |cons x l ih=>simp[AV.inNL,ih,Bool.and_assoc]
theorem X6r:∀(k:Nat) (l:List Ph) (N:List Nat),N.contains 700=true→AV.inNL N (Q1t k l)=true
 |_,[],N,_=>by simp[Q1t,AV.inNL]
 |0,p::l,N,h=>by simp[Q1t,AV.inNL,AV.inN,h];simpa using h
 |k+1,p::l,N,h=>by
  simp only[Q1t]
  rw[X3g,Q0z,X6r k l N h]
  rfl
end
section
open Go.RowKit
open Nat (reduceBEq)
attribute [-go_sem] IntKind.bits
set_option maxRecDepth 20000
set_option maxHeartbeats 4000000
abbrev phT:Nat:=54
abbrev evT:Nat:=58
abbrev zC:List AV:=[vi .u64 0,nilA,nilA]
abbrev stU(s:Int)(M:List Ph)(r rc:Nat)(m:Nat)(cd cs X:List AV)(n i:Nat):St:=⟨[.any,.any,.ptr 2 0,.ptr 3 0,.any,.any,.any,.any,.any,.any,.any,.any,.any,.any,.any,.any,.any,.any,.any,.any,.any,.any,.any,.any,phs false M,vi .i64 M.length,vi .i64 i,.any,.any,.any,.any,.any,.any,.any,.any,.any,.any,.any,.any,.any,.any,.any,.any,.any,.any,.any,.any,.any,.any,.any,.any,.any,.any,.any,.any,.any,.any,.any,.any,.any,.any,.any,.any,.any,.any,.any,.any,.any,.any,.any,.any,.any,.any,.any,.any],[(2,zC),(3,[vi .u64 s,.row r phT 4 n,.row rc 23 1 m]),(r,cs),(rc,cd),(700,X)]⟩
abbrev X6d(s:Int)(M:List Ph)(m:Nat)(cd cs:List AV)(y:Ph)(i n:Nat)(tc:AV)(j:Nat)(X E:List AV):St:=⟨[.any,.any,.ptr 2 0,.ptr 3 0,.any,.ptr 5 0,.any,.any,.any,.any,.any,.any,.any,.any,.any,.any,.any,.any,.any,.any,.any,.any,.any,.any,phs false M,vi .i64 M.length,vi .i64 i,.any,.any,.any,.any,.any,.any,.any,.any,.any,.any,.any,.any,.any,.any,vi .i64 n,vi .i64 j,.any,.any,.any,.any,.any,.any,.any,.any,.any,.any,.any,.any,.any,.any,.any,.any,.any,.any,.any,.any,.any,.any,.any,.any,.any,.any,.any,.any,.any,.any,.any,.any],[(2,zC),(3,[vi .u64 s,.row 600 phT 4 i,.row 601 23 1 m]),(5,[vi .i64 y.role,vi .u64 y.who,vb y.stk,tc]),(600,cs),(601,cd),(700,X),(37,E)]⟩
abbrev X3n(s:Int)(M:List Ph)(m:Nat)(cd cs:List AV)(y:Ph)(i n:Nat)(tc:AV)(j:Nat)(r:Nat)(E:List AV):St:=⟨[.any,.any,.ptr 2 0,.ptr 3 0,.any,.ptr 5 0,.any,.any,.any,.any,.any,.any,.any,.any,.any,.any,.any,.any,.any,.any,.any,.any,.any,.any,phs false M,vi .i64 M.length,vi .i64 i,.any,.any,.any,.any,.any,.any,.any,.any,.any,.any,.any,.any,.any,.any,vi .i64 n,vi .i64 j,.any,.any,.any,.any,.any,.any,.any,.any,.any,.any,.any,.any,.any,.any,.any,.any,.any,.any,.any,.any,.any,.any,.any,.any,.any,.any,.any,.any,.any,.any,.any,.any],[(2,zC),(3,[vi .u64 s,.row 600 phT 4 i,.row 601 23 1 m]),(5,[vi .i64 y.role,vi .u64 y.who,vb y.stk,tc]),(600,cs),(601,cd),(r,E)]⟩
theorem few_frz(s:Int)(M:List Ph)(m:Nat)(cd cs:List AV)(y:Ph)(i:Nat)(N:List Ev)(X:List AV)(h1:AV.frzL 37 (N.flatMap Ev.pv) cd=cd)(h2:AV.frzL 37 (N.flatMap Ev.pv) cs=cs)(h3:AV.frzL 37 (N.flatMap Ev.pv) X=X):(X6d s M m cd cs y i N.length (.row 37 evT 14 N.length) N.length X (raE N)).to (X3n s M m cd cs y i N.length (evs false N) N.length 700 X):=by
 have h:=St.to.frz (σ:=X6d s M m cd cs y i N.length (.row 37 evT 14 N.length) N.length X (raE N)) 37 (pcs:=N.flatMap Ev.pv) rfl
 have e:((X6d s M m cd cs y i N.length (.row 37 evT 14 N.length) N.length X (raE N)).frz 37 (N.flatMap Ev.pv))=X3n s M m cd cs y i N.length (evs false N) N.length 700 X:=by
  simp[St.frz,AV.frz,AV.frzL,frzH,Q0r X6e,h1,h2,h3]
 rwa [e] at h
theorem few_rn(s:Int)(M:List Ph)(m:Nat)(cd cs:List AV)(y:Ph)(i n:Nat)(X E:List AV)(h1:∀ρ,ρ 700=700→AV.renL ρ cs=cs)(h2:∀ρ,AV.renL ρ cd=cd)(h3:∀ρ,AV.renL ρ E=E)(g2:∀N,AV.inNL N cd=true)(g3:∀N,AV.inNL N E=true)(gi:∀N,AV.inNL N cs=true):(X6d s M m cd cs y i n (.row 37 evT 14 n) n X E).to (X3n s M m cd cs y i n (.row 700 evT 14 n) n 700 E):=by
 refine St.to.trans (St.to.of_le (τ:=X3n s M m cd cs y i n (.row 37 evT 14 n) n 37 E) (St.le_of (by simp[leT]) (by simp[leH,hget]))) ?_
 have h:=St.to.rn (σ:=X3n s M m cd cs y i n (.row 37 evT 14 n) n 37 E) (fun r=>if r=37 then 700 else r) (fun r=>if r=700 then 37 else r) [2,3,5,600,601,37] (by simp[AV.inNL,AV.inN]) (by simp) (by simp[inH,AV.inNL,AV.inN,Q0z,g2,g3,gi]) (by simp) (by simp)
 simp[AV.renL,AV.ren,renH,h1,h2,h3] at h
 exact h
theorem stU_rn(s:Int)(M:List Ph)(m:Nat)(cd cs X:List AV)(n i:Nat)(h1:∀ρ,ρ 700=700→AV.renL ρ cs=cs)(h2:∀ρ,AV.renL ρ cd=cd)(h3:∀ρ,AV.renL ρ X=X)(g1:∀N:List Nat,N.contains 700=true→AV.inNL N cs=true)(g2:∀N,AV.inNL N cd=true)(g3:∀N,AV.inNL N X=true):(stU s M 71 601 m cd cs X n i).to (stU s M 600 601 m cd cs X n i):=by
 have h:=St.to.rn (σ:=stU s M 71 601 m cd cs X n i) (fun r=>if r=71 then 600 else r) (fun r=>if r=600 then 71 else r) [2,3,71,601,700] (by simp[AV.inNL,AV.inN]) (by simp) (by simp[inH,AV.inNL,AV.inN,Q0z,g1,g2,g3]) (by simp) (by simp)
 simp[AV.renL,AV.ren,renH,h1,h2,h3] at h
 exact h
theorem X9f(n k:Nat):(if (k:Int)<(n:Int) then(k:Int) else(n:Int))=((min n k:Nat):Int):=by split<;>omega
theorem Q7a{α : Type}(l:List α)(k:Nat):l.take (min l.length k)=l.take k:=by
 rcases Nat.le_total l.length k with h|h
 · rw[Nat.min_eq_left h,List.take_length,List.take_of_length_le h]
 · rw[Nat.min_eq_right h]
theorem X0n(k:Nat)(l:List Ph)(d:Nat):AV.refsL d (Q3n k l)=false:=by
 unfold Q3n
 split
 · exact Q0n d _
 · rfl
theorem Z1s(k:Nat)(l:List Ph)(ρ : Nat→Nat):AV.renL ρ (Q3n k l)=Q3n k l:=by
 unfold Q3n
 split
 · exact Q0q ρ _
 · rfl
theorem cellsX_in(k:Nat)(l:List Ph)(N:List Nat):AV.inNL N (Q3n k l)=true:=by
 unfold Q3n
 split
 · exact Q0z N _
 · rfl
theorem Z1t(k:Nat)(l:List Ph)(pcs:List PV):AV.frzL 37 pcs (Q3n k l)=Q3n k l:=by
 unfold Q3n
 split
 · exact Q7o _ _ _
 · rfl
theorem frzL_app2(r:Nat)(pcs:List PV)(a b:List AV):AV.frzL r pcs (a++b)=AV.frzL r pcs a++AV.frzL r pcs b:=by
 induction a with
 |nil=>simp[AV.frzL]
 |cons x a ih=>simp[AV.frzL,ih]
theorem X2f:∀(k:Nat) (l:List Ph) (pcs:List PV),AV.frzL 37 pcs (Q1t k l)=Q1t k l
 |_,[],pcs=>by simp[Q1t,AV.frzL]
 |0,p::l,pcs=>by simp[Q1t,AV.frzL,AV.frz]
 |k+1,p::l,pcs=>by
  simp only[Q1t]
  rw[frzL_app2,Q7o,X2f k l pcs]
theorem few_fnK(k:Nat)(c:Cs)(hc:c.raw):Fn Tryz.prog 9 [csA c] [] (.agg [vi .u64 c.snd,.row 600 phT 4 (cutC c).ph.length,.row 601 23 1 (cutC c).cd.length]) [(600,Q1t k (cutC c).ph),(601,raA (cutC c).cd),(700,Q3n k (cutC c).ph)]:=by
 obtain⟨s,ph,cd⟩:=c
 obtain⟨hs,⟨hpl,hpo⟩,hcl,hco⟩:=hc
 dsimp only at hs hpl hpo hcl hco
 have p8:ph.length<9223372036854775808:=Nat.lt_succ_of_le hpl
 have c8:cd.length<9223372036854775808:=Nat.lt_succ_of_le hcl
 have c1:=X6q false (cd.take 60) (by rw[List.length_take];omega)
 have e1:(if (60:Int)<(cd.length:Int) then(60:Int) else(cd.length:Int))=((min cd.length 60:Nat):Int):=X9f cd.length 60
 have e2:(cd.flatMap apv).take (min cd.length 60*1)=(cd.take 60).flatMap apv:=by rw[Q4y Q3e,Q7a]
 have e3:(cd.take 60).length=min cd.length 60:=by rw[List.length_take,Nat.min_comm]
 have e4:(if (4:Int)<(ph.length:Int) then(4:Int) else(ph.length:Int))=((min ph.length 4:Nat):Int):=X9f ph.length 4
 have e5:(ph.flatMap Ph.pv).take (min ph.length 4*4)=(ph.take 4).flatMap Ph.pv:=by rw[Q4y X1q,Q7a]
 have e6:(ph.take 4).length=min ph.length 4:=by rw[List.length_take,Nat.min_comm]
 have hpo':∀p∈ph.take 4,p.raw:=fun p hp=>hpo p (List.mem_of_mem_take hp)
 show Fn Tryz.prog 9 [.agg [vi .u64 s,phs false ph,asl false cd]] [] (.agg [vi .u64 s,.row 600 phT 4 ((ph.take 4).map cutP).length,.row 601 23 1 (cd.take 60).length]) [(600,Q1t k ((ph.take 4).map cutP)),(601,raA (cd.take 60)),(700,Q3n k ((ph.take 4).map cutP))]
 have h4:(ph.take 4).length≤4:=by rw[List.length_take];omega
 rw[e3] at c1
 rw[←e3] at e1 e2 c1
 rw[Nat.mul_one] at e2
 rw[←e6] at e4 e5
 generalize cd.take 60=D at *
 generalize ph.take 4=M at *
 unfold rcA at c1
 have f1:∀d,AV.refsL d ((D.flatMap apv).map .c)=false:=fun d=>Q0n d _
 have f4:((D.flatMap apv).map AV.c).length=D.length:=by rw[List.length_map,Q0r Q3e,Nat.mul_one]
 rw[show(M.map cutP).length=M.length from List.length_map _]
 (refine Q0v Tryz.func9 rfl (by rfl) ?_;simp only[Tryz.ntmps9,List.length_cons,List.length_nil,Nat.reduceAdd,Nat.reduceSub,List.replicate,List.cons_append,List.nil_append])
 (repeat(any_goals(first|((with_reducible refine Q0b ?_ ?_);rfl;intro K hK;simp(disch:=omega) only[go_sem,e1,e2,Bool.false_and,Nat.mul_one];((repeat(refine ndI (by first|assumption|rfl) ?_));refine hK _ ?_;clear hK K))|(with_reducible first|(refine Q0c ?_;refine hR _ ?_;clear hR R)|((first|refine Q0d ?_);intro J hJ hJ')|(refine Q0a ?_;intro R hR)|(refine hJ _ ?_;clear hJ hJ' J))|((first|((with_reducible apply Q0x);rfl;rfl;(simp(disch:=omega) only[rdE,rdOf,go_sem,e1,e2,Bool.false_and,Nat.mul_one];rfl);(intro τ hA hQ hN;((try simp only[Q1h,Op.operands,Call.operands,go_sem,e1,e2,Bool.false_and,Nat.mul_one,go_sem,List.mem_cons,List.not_mem_nil,forall_eq_or_imp,forall_eq,List.append_toArray,Option.toArray] at hA);(try simp only[go_sem,e1,e2,Bool.false_and,Nat.mul_one,List.mem_cons,List.not_mem_nil,forall_eq_or_imp,forall_eq] at hQ hN);(first|(revert hA;intro hA));(first|(revert hQ;intro hQ));(first|(revert hN;intro hN));simp(disch:=omega) only[go_sem,e1,e2,Bool.false_and,Nat.mul_one,go_sem,hA,hQ,hN];(repeat(refine ndI (by first|assumption|omega|rfl) ?_));(first|apply Q1b)))));(simp(disch:=omega) only[St.eff,setO,Q0w,go_sem,e1,e2,Bool.false_and,Nat.mul_one]))|((with_reducible refine Q0u ?_ ?_ ?_ ?_);kernel_rfl;kernel_rfl;(first|kernel_rfl);intro R hR))))
 refine X6g c1 rfl rfl rfl rfl rfl Tryz.func36 (by kernel_rfl) rfl ?_ rfl (by omega) ?_
 · simp only[Q1d,Q2d,AV.ren,go_sem]
 simp only[St.eff,setO,Q0w,go_sem]
 (have W:=ndI e4 (ndI e5 (ndI f1 f4));(repeat(any_goals(first|((with_reducible refine Q0b ?_ ?_);rfl;intro K hK;simp(disch:=omega) only[go_sem,W,Bool.false_and];((repeat(refine ndI (by first|assumption|omega|rfl) ?_));refine hK _ ?_;clear hK K))|(with_reducible first|(refine Q0c ?_;refine hR _ ?_;clear hR R)|((first|refine Q0d ?_|refine Q0f ?_);intro J hJ hJ')|(refine Q0a ?_;intro R hR)|(refine hJ _ ?_;clear hJ hJ' J))|((with_reducible refine Q0y ?_ ?_);(apply Q2b);(focus(repeat(first|exact Sims.nil|((apply Sims.cons);(focus(first|((apply Ef.sim_row);assumption)|exact Ef.sim_refl _))))));kernel_rfl;(with_reducible refine hR _ ?_);clear hR R)|((first|((with_reducible apply Q0x);rfl;rfl;(simp(disch:=omega) only[rdE,rdOf,go_sem,W,Bool.false_and];rfl);(intro τ hA hQ hN;((try simp only[Q1h,Op.operands,Call.operands,go_sem,W,Bool.false_and,go_sem,List.mem_cons,List.not_mem_nil,forall_eq_or_imp,forall_eq,List.append_toArray,Option.toArray] at hA);(try simp only[go_sem,W,Bool.false_and,List.mem_cons,List.not_mem_nil,forall_eq_or_imp,forall_eq] at hQ hN);(first|(revert hA;intro hA));(first|(revert hQ;intro hQ));(first|(revert hN;intro hN));simp(disch:=omega) only[go_sem,W,Bool.false_and,go_sem,hA,hQ,hN];(repeat(refine ndI (by first|assumption|rfl) ?_));(first|apply Q1b|apply Q5b))))|((first|((with_reducible apply evD_new);rfl;rfl;rfl));(intro τ hA hQ hN;((try simp(disch:=omega) only[Q1h,Op.operands,Call.operands,go_sem,W,Bool.false_and,go_sem,List.mem_cons,List.not_mem_nil,forall_eq_or_imp,forall_eq,List.append_toArray,Option.toArray] at hA);(try simp(disch:=omega) only[go_sem,W,Bool.false_and,List.mem_cons,List.not_mem_nil,forall_eq_or_imp,forall_eq] at hQ);(first|(revert hA;intro hA));(first|(revert hQ;intro hQ));simp(disch:=omega) only[go_sem,W,Bool.false_and,go_sem,hA,hQ,hN];(repeat(refine ndI (by first|assumption|rfl) ?_));exact eff_nw _ _ _ _))));(simp(disch:=omega) only[St.eff,setO,Q0w,go_sem,W,Bool.false_and]))))))
 have snoc:∀{i:Nat} {y:Ph},M[i]? = some y→(M.take (i+1)).map cutP=(M.take i).map cutP++[cutP y]:=fun h=>by
  rw[List.take_add_one,h,List.map_append];rfl
 have tl:∀i,i≤M.length→((M.take i).map cutP).length=i:=fun i h=>by rw[List.length_map,List.length_take];omega
 refine Q5a M.length (fun i=>stU s M 600 601 D.length (raA D) (Q1t k ((M.take i).map cutP)) (Q3n k ((M.take i).map cutP)) i i) ?_ ?_
 · refine St.to.trans (St.to.nilcell 3 600 phT 4 1 (cs:=[vi .u64 s,nilA,.row 16 23 1 D.length]) (by simp[hget]) rfl (by simp[St.free,Q2f,AV.refsL,AV.refs]) (by decide) (by decide)) ?_
   refine St.to.trans (St.to.noname 700 evT (by simp[St.free,Q2f,hput,AV.refsL,AV.refs]) (by decide)) ?_
   refine St.to.trans (St.to.of_le (τ:=stU s M 600 16 D.length (raA D) [] [] 0 0) (St.le_of (by simp[leT]) (by simp[leH,hget,hput]))) ?_
   have h:=St.to.rn (σ:=stU s M 600 16 D.length (raA D) [] [] 0 0) (fun r=>if r=16 then 601 else r) (fun r=>if r=601 then 16 else r) [2,3,600,16,700] (by simp[AV.inNL,AV.inN]) (by simp) (by simp[inH,AV.inNL,AV.inN,Q0z]) (by simp) (by simp)
   have e0:Q3n k ([]:List Ph)=[]:=rfl
   have e9:Q1t k ([]:List Ph)=[]:=by unfold Q1t;rfl
   simp only[List.take_zero,List.map_nil,e0,e9]
   simp[AV.renL,AV.ren,renH] at h
   exact h
 intro i hi J hJ hJ'
 (try dsimp only at hJ ⊢)
 have k8:M.length<9223372036854775808:=by omega
 rcases Nat.lt_or_ge i M.length with hlt|hge
 · obtain⟨y,hy⟩:∃x,M[i]? = some x:=⟨_,List.getElem?_eq_getElem hlt⟩
   have k1:(decide ((i:Int)<(M.length:Int)))=true:=decide_eq_true (by omega)
   have k2:=Q7e hy
   have k7:(i:Int)+1=((i+1:Nat):Int):=by omega
   have yo:=hpo' y (List.mem_of_getElem? hy)
   have y8:y.tr.length<9223372036854775808:=Nat.lt_succ_of_le yo.2.1
   have ce:=cloneE_fn false (y.tr.take 60) (by rw[List.length_take];omega)
   have g1:(if (60:Int)<(y.tr.length:Int) then(60:Int) else(y.tr.length:Int))=((min y.tr.length 60:Nat):Int):=X9f y.tr.length 60
   have g2:(y.tr.flatMap Ev.pv).take (min y.tr.length 60*14)=(y.tr.take 60).flatMap Ev.pv:=by rw[Q4y X6e,Q7a]
   have g3:(y.tr.take 60).length=min y.tr.length 60:=by rw[List.length_take,Nat.min_comm]
   have yo':∀e∈y.tr.take 60,e.raw:=fun e he=>yo.2.2 e (List.mem_of_mem_take he)
   have ey:cutP y={y with tr:=(y.tr.take 60).map cutE}:=rfl
   have sn:=snoc hy
   have tli:=tl i hi
   have ck:=X0o k ((M.take i).map cutP) (cutP y)
   rw[←sn,tli] at ck
   have cx:Q3n k ((M.take (i+1)).map cutP)=if i=k then raE ((y.tr.take 60).map cutE) else Q3n k ((M.take i).map cutP):=by
    rw[sn]
    unfold Q3n
    rcases Nat.lt_trichotomy k i with h|h|h
    · rw[if_neg (by omega),List.getElem?_append_left (by omega)]
    · rw[if_pos h.symm,List.getElem?_append_right (by omega),tli,h,Nat.sub_self];rfl
    · rw[if_neg (by omega),List.getElem?_eq_none (by rw[List.length_append,tli];simp;omega),List.getElem?_eq_none (by omega)]
   have cz:i=k→Q3n k ((M.take i).map cutP)=[]:=fun h=>by
    unfold Q3n
    rw[List.getElem?_eq_none (by omega)]
   have q1:=fun d h=>Q6x k ((M.take i).map cutP) d h
   have q2:=fun ρ h=>X2d k ((M.take i).map cutP) ρ h
   have q3:=fun N h=>X6r k ((M.take i).map cutP) N h
   have q5:=fun pcs=>X2f k ((M.take i).map cutP) pcs
   have q4:=X2e k ((M.take i).map cutP)
   rw[tli] at q4
   have x1:=fun d=>X0n k ((M.take i).map cutP) d
   have x2:=fun ρ=>Z1s k ((M.take i).map cutP) ρ
   have x4:=fun pcs=>Z1t k ((M.take i).map cutP) pcs
   have x3:=fun N=>cellsX_in k ((M.take i).map cutP) N
   have hP:i=k→∀N,AV.inNL N (Q1t k ((M.take i).map cutP))=true:=fun h N=>by
    rw[X0p _ _ (by omega)];exact Q0z N _
   rw[ck,cx] at hJ
   generalize Q1t k ((M.take i).map cutP)=cs at q1 q2 q3 q4 q5 hP hJ ck ⊢
   generalize Q3n k ((M.take i).map cutP)=X at x1 x2 x3 x4 cx cz hJ ⊢
   have hcp:cutP y=⟨y.role,y.who,y.stk,(y.tr.take 60).map cutE⟩:=rfl
   rw[hcp] at hJ
   rw[←g3] at g1 g2
   clear snoc sn ck cx hcp ey tl
   generalize y.tr.take 60=N at *
   have hJ0:=fun σ'=>hJ σ' (by omega)
   (have W:=ndI k1 (ndI k2 (ndI k7 (ndI g1 (ndI g2 (ndI q1 (ndI q2 (ndI q3 (ndI q4 (ndI x1 (ndI x2 x3))))))))));(repeat(any_goals(first|((with_reducible refine Q0l ?_ ?_ ?_);rfl;rfl;intro K hK;(apply Q1g (ce) (fun r=>37);rfl;rfl;rfl;rfl;exact Tryz.func37;kernel_rfl;rfl;rfl;(intro r hr q hq h;simp(disch:=omega) only[List.map_cons,List.map_nil,List.cons_append,List.nil_append,List.mem_cons,List.not_mem_nil,or_false] at hr hq;(try dsimp only at h);first|omega);(simp(disch:=omega) only[Q1d,Q2d,AV.ren,AV.renL,Q0q,List.mem_cons,List.not_mem_nil,forall_eq_or_imp,forall_eq,Q1w,List.contains_cons,List.contains_nil,AV.refsL,AV.refs,Q0n,AV.inN,AV.inNL,inH,Q0z,go_sem,W,Bool.false_and]));(simp(disch:=omega) only[Q0w,Q1u,renH,AV.ren,AV.renL,Q0q,go_sem,W,Bool.false_and];refine hK _ ?_;clear hK K))|((with_reducible refine Q0b ?_ ?_);rfl;intro K hK;simp(disch:=omega) only[go_sem,W,Bool.false_and];((repeat(refine ndI (by first|assumption|omega|rfl) ?_));refine hK _ ?_;clear hK K))|(with_reducible first|(refine Q0c ?_;refine hR _ ?_;clear hR R)|((first|refine Q0d ?_|refine Q0f ?_);intro J hJ hJ')|(refine Q0a ?_;intro R hR)|(refine hJ _ ?_;clear hJ hJ' J)|refine Q0g ?_)|((with_reducible apply Q0e);rfl;rfl;all_goals(intro hc;first|(cases hc;done)|(try simp only at hc)))))))
   refine Q5a N.length (fun j=>if j<N.length then X6d s M D.length (raA D) cs y i N.length (.row 37 evT 14 N.length) j X (raE ((N.take j).map cutE++N.drop j)) else if i=k then X3n s M D.length (raA D) cs y i N.length (.row 700 evT 14 N.length) j 700 (raE (N.map cutE)) else X3n s M D.length (raA D) cs y i N.length (evs false (N.map cutE)) j 700 X) ?_ ?_
   · have r0:∀ρ,AV.renL ρ (raA D)=raA D:=fun ρ=>Q0q ρ _
     by_cases h0:0<N.length
     · rw[if_pos h0]
       exact St.to.of_le (St.le_of (by simp[leT]) (by simp[leH,hget]))
     · obtain rfl:N=[]:=List.eq_nil_of_length_eq_zero (by omega)
       rw[if_neg h0]
       by_cases hik:i=k
       · rw[if_pos hik]
         exact St.to.trans (St.to.of_le (τ:=X6d s M D.length (raA D) cs y i 0 (.row 37 evT 14 0) 0 X (raE [])) (St.le_of (by simp[leT]) (by simp[leH,hget]))) (few_rn s M D.length (raA D) cs y i 0 X (raE []) q2 r0 (fun ρ=>Q0q ρ _) (fun N=>Q0z N _) (fun N=>Q0z N _) (hP hik))
       · rw[if_neg hik]
         exact St.to.trans (St.to.of_le (τ:=X6d s M D.length (raA D) cs y i 0 (.row 37 evT 14 0) 0 X (raE [])) (St.le_of (by simp[leT]) (by simp[leH,hget]))) (few_frz s M D.length (raA D) cs y i [] X (Q7o _ _ _) (q5 _) (x4 _))
   intro j hj J hJ hJ'
   (try dsimp only at hJ ⊢)
   have n8:N.length<9223372036854775808:=by omega
   have r0:∀ρ,AV.renL ρ (raA D)=raA D:=fun ρ=>Q0q ρ _
   rcases Nat.lt_or_ge j N.length with hjt|hje
   · obtain⟨e,he⟩:∃e,N[j]? = some e:=⟨N[j],List.getElem?_eq_getElem hjt⟩
     have c1:(decide ((j:Int)<(N.length:Int)))=true:=by simpa using hjt
     have c7:(j:Int)+1=((j+1:Nat):Int):=by omega
     rw[if_pos hjt]
     have hA:((N.take j).map cutE).length=j:=by rw[List.length_map,List.length_take];omega
     have d1:N.drop j=e::N.drop (j+1):=by
      rw[List.drop_eq_getElem_cons hjt]
      congr 1
      exact(List.getElem?_eq_some_iff.1 he).2
     have d2:(N.take (j+1)).map cutE++N.drop (j+1)=(N.take j).map cutE++(e.with (e.data.take 80))::N.drop (j+1):=by
      rw[List.take_add_one,he,List.map_append];simp[cutE]
     have eo:=yo' e (List.mem_of_getElem? he)
     have e8:e.data.length<9223372036854775808:=Nat.lt_succ_of_le eo.2.2.1
     have cb:=Z1q false (e.data.take 80) (by rw[List.length_take];omega)
     have m1:(if (80:Int)<(e.data.length:Int) then(80:Int) else(e.data.length:Int))=((min e.data.length 80:Nat):Int):=X9f e.data.length 80
     have m2:(e.data.flatMap bpv).take (min e.data.length 80)=(e.data.take 80).flatMap bpv:=by
      have:=Q4y (f:=bpv) Q3d e.data (min e.data.length 80)
      rw[Nat.mul_one] at this
      rw[this,Q7a]
     have m3:(e.data.take 80).length=min e.data.length 80:=by rw[List.length_take,Nat.min_comm]
     have fin:∀σ':St,σ'.to (X6d s M D.length (raA D) cs y i N.length (.row 37 evT 14 N.length) (j+1) X (raE ((N.take (j+1)).map cutE++N.drop (j+1))))→J .normal σ':=fun σ' h=>hJ σ' (by omega) (by
      by_cases hl:j+1<N.length
      · rw[if_pos hl];exact h
      · have ej:j+1=N.length:=by omega
        rw[if_neg hl]
        rw[ej,List.take_length,List.drop_length,List.append_nil] at h
        rw[ej]
        have lm:(N.map cutE).length=N.length:=List.length_map _
        by_cases hik:i=k
        · rw[if_pos hik]
          exact h.trans (few_rn s M D.length (raA D) cs y i N.length X (raE (N.map cutE)) q2 r0 (fun ρ=>Q0q ρ _) (fun N=>Q0z N _) (fun N=>Q0z N _) (hP hik))
        · rw[if_neg hik]
          have hf:=few_frz s M D.length (raA D) cs y i (N.map cutE) X (Q7o _ _ _) (q5 _) (x4 _)
          rw[lm] at hf
          exact h.trans hf)
     rw[d2] at fin
     rw[d1]
     generalize (N.take j).map cutE=A at hA fin ⊢
     generalize N.drop (j+1)=B at fin ⊢
     have u1:=ecell (B:=B) (y:=e) hA
     have u3:=spl_data (B:=B) (y:=e) hA (e.data.take 80)
     have u5:=X2r (A++e::B)
     have v1:j*14+14≤(raE (A++e::B)).length:=by rw[u5,List.length_append,List.length_cons];omega
     rw[←m3] at m1 m2
     generalize e.data.take 80=D8 at *
     have w1:∀d,AV.refsL d (raE (A++e::B))=false:=fun d=>Q0n d _
     have w2:∀d,AV.refsL d (raE (A++e.with D8::B))=false:=fun d=>Q0n d _
     (have W:=ndI c1 (ndI c7 (ndI m1 (ndI m2 (ndI u1 (ndI u3 (ndI w1 (ndI w2 (ndI q1 (ndI x1 @wrI)))))))));(repeat(any_goals(first|((with_reducible refine Q0b ?_ ?_);rfl;intro K hK;simp(disch:=omega) only[go_sem,W,Bool.false_and,Nat.mul_one];((repeat(refine ndI (by first|assumption|rfl) ?_));refine hK _ ?_;clear hK K))|(with_reducible first|(refine Q0c ?_;refine hR _ ?_;clear hR R)|((first|refine Q0d ?_|refine Q0f ?_);intro J hJ hJ')|(refine Q0a ?_;intro R hR)|(refine hJ _ ?_;clear hJ hJ' J)|refine Q0g ?_)|((with_reducible refine hJ' _ _ ?_ ?_);(focus(simp;done));clear hJ hJ' J)|((with_reducible apply Q0e);rfl;rfl;all_goals(intro hc;first|(cases hc;done)|(try simp only at hc)))|((with_reducible refine Q0y ?_ ?_);(apply Q2b);(focus(repeat(first|exact Sims.nil|((apply Sims.cons);(focus(first|((apply Ef.sim_row);assumption)|exact Ef.sim_refl _))))));kernel_rfl;(with_reducible refine hR _ ?_);clear hR R)|((first|((with_reducible apply Q1i);rfl;rfl;((apply Q0t (cb);rfl;rfl;rfl;rfl;exact Tryz.func38);kernel_rfl;rfl;(focus((simp(disch:=omega) only[go_sem,W,Bool.false_and,Nat.mul_one]);(try rfl);done));(first|rfl)))|((with_reducible apply Q0x);rfl;rfl;(simp(disch:=omega) only[rdE,rdOf,go_sem,W,Bool.false_and,Nat.mul_one];rfl);(intro τ hA hQ hN;((try simp only[Q1h,Op.operands,Call.operands,go_sem,W,Bool.false_and,Nat.mul_one,go_sem,List.mem_cons,List.not_mem_nil,forall_eq_or_imp,forall_eq,List.append_toArray,Option.toArray] at hA);(try simp only[go_sem,W,Bool.false_and,Nat.mul_one,List.mem_cons,List.not_mem_nil,forall_eq_or_imp,forall_eq] at hQ hN);(first|(revert hA;intro hA));(first|(revert hQ;intro hQ));(first|(revert hN;intro hN));simp(disch:=omega) only[go_sem,W,Bool.false_and,Nat.mul_one,go_sem,hA,hQ,hN];(repeat(refine ndI (by first|assumption|omega|rfl) ?_));(first|apply Q1b|apply Q5b)))));(simp(disch:=omega) only[St.eff,setO,Q0w,go_sem,W,Bool.false_and,Nat.mul_one]))|((with_reducible refine Q0u ?_ ?_ ?_ ?_);kernel_rfl;kernel_rfl;(simp[Q1y,Q5s,St.free,Q2f,AV.refsL,AV.refs,q1,x1,w1]);intro R hR)))))
     all_goals exact fin _ (St.to.of_le (St.le_of (by simp[leT]) (by simp[leH,hget])))
   · have c1:(decide ((j:Int)<(N.length:Int)))=false:=by simpa using hje
     rw[if_neg (by omega)]
     have f5:(raA D).length=D.length:=by rw[List.length_map,Q0r Q3e,Nat.mul_one]
     have w3:∀d,AV.refsL d (raA D)=false:=fun d=>Q0n d _
     have w4:∀d,AV.refsL d (raE (N.map cutE))=false:=fun d=>Q0n d _
     have q6:cs.length=i*4:=q4
     have lm:(N.map cutE).length=N.length:=List.length_map _
     by_cases hik:i=k
     · rw[if_pos hik]
       rw[if_pos hik,if_pos hik] at hJ0
       dsimp only[X3n]
       (repeat(any_goals(first|((with_reducible refine Q0b ?_ ?_);rfl;intro K hK;simp(disch:=omega) only[go_sem,c1,k7,q1,q6,w3,w4,wrI];((repeat(refine ndI (by first|assumption|omega|rfl) ?_));refine hK _ ?_;clear hK K))|(with_reducible first|(refine Q0c ?_;refine hR _ ?_;clear hR R)|((first|refine Q0d ?_);intro J hJ hJ')|(refine Q0a ?_;intro R hR)|(refine hJ _ ?_;clear hJ hJ' J)|refine Q0p ?_)|((with_reducible refine hJ' _ _ ?_ ?_);(focus(simp;done));clear hJ hJ' J)|((with_reducible apply Q0e);rfl;rfl;all_goals(intro hc;first|(cases hc;done)|(try simp only at hc))))))
       all_goals refine hJ0 _ (St.to.trans (St.to.of_le (τ:=stU s M 71 601 D.length (raA D) (cs++phR ⟨y.role,y.who,y.stk,N.map cutE⟩) (raE (N.map cutE)) (i+1) (i+1)) (St.le_of (by simp[leT]) (by simp[leH,hget]))) (stU_rn s M D.length (raA D) _ _ _ _ ?_ r0 (fun ρ=>Q0q ρ _) ?_ (fun N=>Q0z N _) (fun N=>Q0z N _)))
       · intro ρ h
         rw[X2p,q2 ρ h]
         simp[AV.renL,AV.ren,h]
       · intro N h
         rw[X3g,q3 N h]
         simp[AV.inNL,AV.inN]
         simpa using h
     · rw[if_neg hik]
       rw[if_neg hik,if_neg hik] at hJ0
       dsimp only[X3n]
       (repeat(any_goals(first|((with_reducible refine Q0b ?_ ?_);rfl;intro K hK;simp(disch:=omega) only[go_sem,c1,k7,q1,q6,w3,x1,wrI];((repeat(refine ndI (by first|assumption|omega|rfl) ?_));refine hK _ ?_;clear hK K))|(with_reducible first|(refine Q0c ?_;refine hR _ ?_;clear hR R)|((first|refine Q0d ?_);intro J hJ hJ')|(refine Q0a ?_;intro R hR)|(refine hJ _ ?_;clear hJ hJ' J)|refine Q0p ?_)|((with_reducible refine hJ' _ _ ?_ ?_);(focus(simp;done));clear hJ hJ' J)|((with_reducible apply Q0e);rfl;rfl;all_goals(intro hc;first|(cases hc;done)|(try simp only at hc))))))
       all_goals refine hJ0 _ (St.to.trans (St.to.of_le (τ:=stU s M 71 601 D.length (raA D) (cs++(Ph.pv ⟨y.role,y.who,y.stk,N.map cutE⟩).map .c) X (i+1) (i+1)) (St.le_of (by simp[leT]) (by simp[leH,hget,Ph.pv]))) (stU_rn s M D.length (raA D) _ _ _ _ ?_ r0 x2 ?_ (fun N=>Q0z N _) x3))
       · intro ρ h
         rw[X2p,q2 ρ h,Q0q]
       · intro N h
         rw[X3g,q3 N h,Q0z]
         rfl
 · have k1:(decide ((i:Int)<(M.length:Int)))=false:=decide_eq_false (by omega)
   have ei:i=M.length:=by omega
   rw[ei,List.take_length]
   have w3:∀d,AV.refsL d (raA D)=false:=fun d=>Q0n d _
   have q1:=fun d h=>Q6x k (M.map cutP) d h
   have x1:=fun d=>X0n k (M.map cutP) d
   rw[ei] at k1
   (repeat(any_goals(first|((with_reducible refine Q0b ?_ ?_);rfl;intro K hK;simp(disch:=omega) only[go_sem,k1,q1,x1,w3,wrI];((repeat(refine ndI (by first|assumption|rfl) ?_));refine hK _ ?_;clear hK K))|(with_reducible first|(refine Q0c ?_;refine hR _ ?_;clear hR R)|((first|refine Q0d ?_);intro J hJ hJ')|(refine Q0a ?_;intro R hR)|(refine hJ _ ?_;clear hJ hJ' J)|refine Q0j ?_|refine Q0p ?_)|((with_reducible refine hJ' _ _ ?_ ?_);(focus(simp;done));clear hJ hJ' J)|((with_reducible apply Q0e);rfl;rfl;all_goals(intro hc;first|(cases hc;done)|(try simp only at hc))))))
   all_goals(refine⟨by simp,⟨_,?_,AV.le_refl _⟩,Q0h (by simp[leH,hget])⟩;simp only[Tryz.results9,resL,ldA,Q0o,go_sem])
end
section
open Go.RowKit
open Nat (reduceBEq)
attribute [-go_sem] IntKind.bits
set_option maxRecDepth 20000
set_option maxHeartbeats 2000000
theorem few_row(c:Cs)(hc:c.raw):Fn Tryz.prog 9 [csA c] [] (.agg [vi .u64 c.snd,.row 600 phT 4 (cutC c).ph.length,asl false (cutC c).cd]) [(600,raP (cutC c).ph)]:=by
 have h:=few_fnK 10 c hc
 have h4:=cutC_len c
 rw[X0p 10 _ (by omega)] at h
 have h1:=h.frzN (d:=601) (pcs:=(cutC c).cd.flatMap apv) (by simp[hget])
 have h2:=h1.weaken (H2:=[(600,raP (cutC c).ph)]) (AV.le_refl _) (fun r cs hr=>by
  rw[Q2e] at hr
  split at hr
  · rename_i e
    subst e;cases hr
    exact⟨[],by simp[frzH,hget]⟩
  · cases hr)
 have e1:((cutC c).cd.flatMap apv).length=(cutC c).cd.length*1:=Q0r Q3e _
 simpa [-List.length_flatMap,AV.frz,AV.frzL,e1] using h2
theorem few_fn(c:Cs)(hc:c.raw):Fn Tryz.prog 9 [csA c] [] (csA (cutC c)) []:=by
 have h1:=(few_row c hc).frzN (d:=600) (pcs:=(cutC c).ph.flatMap Ph.pv) (by simp[hget])
 have e1:((cutC c).ph.flatMap Ph.pv).length=(cutC c).ph.length*4:=Q0r X1q _
 have e2:(cutC c).snd=c.snd:=rfl
 rw[←e2] at h1
 simpa [-List.length_flatMap,AV.frz,AV.frzL,frzH,e1] using h1
def PV.le(p q:PV):Prop:=∀S w v,RVp S w v p→RVp S w v q
theorem PV.le_refl(p:PV):p.le p:=fun _ _ _ h=>h
theorem PV.le_nil(ex:Bool)(sz:Nat):(PV.v (.slice none 0 0)).le (.sl ex sz 0 []):=fun S w v h=>by
 cases h with
 |v _ h=>exact .sl ex sz none 0 0 [] [] (Nat.le_refl _) (Nat.zero_le _) (fun _=>rfl) (fun _=>rfl) rfl (by simp) (fun h=>absurd rfl h) fun j u x hu=>by cases hu
def PV.leL:List PV→List PV→Prop
 |[],[]=>True
 |p::l,q::m=>p.le q∧PV.leL l m
 |_,_=>False
theorem PV.leL_len:∀{l m:List PV},PV.leL l m→l.length=m.length
 |[],[],_=>rfl
 |p::l,q::m,h=>by simp[PV.leL_len h.2]
theorem PV.leL_get:∀{l m:List PV},PV.leL l m→∀(j:Nat) (p q:PV),l[j]? = some p→m[j]? = some q→p.le q
 |[],[],_,j,p,q,h,_=>by simp at h
 |x::l,y::m,h,0,p,q,h1,h2=>by simp at h1 h2;subst h1 h2;exact h.1
 |x::l,y::m,h,j+1,p,q,h1,h2=>PV.leL_get h.2 j p q (by simpa using h1) (by simpa using h2)
theorem PV.le_sl{ex ex':Bool}(he:ex'=true→ex=true){sz n:Nat}{ps qs:List PV}(h:PV.leL ps qs):(PV.sl ex sz n ps).le (.sl ex' sz n qs):=fun S w v hv=>by
 cases hv with
 |sl _ _ A _ c us _ h1 h2 h3 hx hl hn h4 h5=>
  have hlen:=PV.leL_len h
  refine .sl ex' sz A n c us qs h1 h2 h3 (fun e=>hx (he e)) (hl.trans hlen) (by rw[←hlen];exact hn) h4 fun j u x hu hx'=>?_
  have hj:=(List.getElem?_eq_some_iff.1 hx').1
  have hp:ps[j]? = some ps[j]:=List.getElem?_eq_getElem (by omega)
  exact PV.leL_get h j _ _ hp hx' S w u (h5 j u _ hu hp)
theorem AV.le_pv{p q:PV}(h:p.le q):(AV.c p).le (.c q):=fun S ι w v hv=>by
 cases hv with
 |c _ _ hp=>exact .c _ _ (h S w v hp)
def plainE:Ev:=⟨2,0,30,0,0,5,0,[]⟩
def Q2w(b:Bool):Cs:=⟨20,[⟨2,20,false,[]⟩,⟨3,30,b,[plainE]⟩],[]⟩
theorem X8z(b:Bool):Fn Tryz.prog 35 [vb b] [] (csA (Q2w b)) []:=by
 have h:Fn Tryz.prog 35 [vb b] [] (.agg [vi .u64 20,.c (.sl true 4 2 [.v (.int .i64 2),.v (.int .u64 20),.v (.bool false),.v (.slice none 0 0),.v (.int .i64 3),.v (.int .u64 30),.v (.bool b),.sl true 14 1 [.v (.int .i64 2),.v (.int .i64 0),.v (.int .u64 30),.v (.int .u64 0),.v (.int .u8 0),.v (.int .u64 5),.v (.int .u64 0),.v (.int .u64 0),.v (.int .u64 0),.v (.int .u64 0),.v (.int .u64 0),.v (.int .u64 0),.v (.int .u64 0),.v (.slice none 0 0)]]),nilA]) []:=by
  (refine Q0v Tryz.func35 rfl (by rfl) ?_;simp only[Tryz.ntmps35,List.length_cons,List.length_nil,Nat.reduceAdd,Nat.reduceSub,List.replicate,List.cons_append,List.nil_append])
  (repeat(any_goals(first|((with_reducible refine Q3g ?_ ?_);rfl;intro K hK;apply Q2i;rfl;rfl;(focus(simp only[go_sem];try rfl));(focus(simp only[go_sem];try rfl));rfl;(first|omega);(first|omega);(first|omega);(simp only[go_sem];rfl);rfl;(focus((simp only[unC,Option.map_some]);(try rfl)));(simp only[go_sem];refine hK _ ?_;clear hK K))|((with_reducible refine Q0b ?_ ?_);rfl;intro K hK;simp only[go_sem];((repeat(refine ndI (by first|assumption) ?_));refine hK _ ?_;clear hK K))|(with_reducible first|(refine Q0c ?_;refine hR _ ?_;clear hR R)|((first|refine Q0d ?_);intro J hJ hJ')|(refine Q0a ?_;intro R hR)|(refine hJ _ ?_;clear hJ hJ' J)|refine Q0j ?_))))
  all_goals(refine⟨by simp,⟨_,?_,AV.le_refl _⟩,Q0h (by simp[leH,hget])⟩;simp only[Tryz.results35,resL,ldA,Q0o,go_sem])
 have hle:(AV.agg [vi .u64 20,.c (.sl true 4 2 [.v (.int .i64 2),.v (.int .u64 20),.v (.bool false),.v (.slice none 0 0),.v (.int .i64 3),.v (.int .u64 30),.v (.bool b),.sl true 14 1 [.v (.int .i64 2),.v (.int .i64 0),.v (.int .u64 30),.v (.int .u64 0),.v (.int .u8 0),.v (.int .u64 5),.v (.int .u64 0),.v (.int .u64 0),.v (.int .u64 0),.v (.int .u64 0),.v (.int .u64 0),.v (.int .u64 0),.v (.int .u64 0),.v (.slice none 0 0)]]),nilA]).le (csA (Q2w b)):=by
  refine AV.le_agg ⟨AV.le_refl _,AV.le_pv (PV.le_sl (by simp) ?_),AV.le_nil false 1,trivial⟩
  refine⟨PV.le_refl _,PV.le_refl _,PV.le_refl _,PV.le_nil false 14,PV.le_refl _,PV.le_refl _,PV.le_refl _,PV.le_sl (by simp) ?_,trivial⟩
  exact⟨PV.le_refl _,PV.le_refl _,PV.le_refl _,PV.le_refl _,PV.le_refl _,PV.le_refl _,PV.le_refl _,PV.le_refl _,PV.le_refl _,PV.le_refl _,PV.le_refl _,PV.le_refl _,PV.le_refl _,PV.le_nil false 1,trivial⟩
 exact h.weaken hle (fun r cs hr=>by cases hr)
theorem Q9d(b:Bool):(Q2w b).ok:=by
 refine⟨by cases b<;>decide,⟨by cases b<;>decide,fun p hp=>?_⟩,by cases b<;>decide,fun a ha=>by cases ha⟩
 rcases List.mem_cons.1 hp with rfl|hp
 · exact⟨by decide,by decide,fun e he=>by cases he⟩
 · rcases List.mem_cons.1 hp with rfl|hp
   · refine⟨by cases b<;>decide,by cases b<;>decide,fun e he=>?_⟩
     rcases List.mem_cons.1 he with rfl|he
     · exact⟨by decide,by decide,by decide,fun b hb=>(by cases hb),by decide,by decide⟩
     · cases he
   · cases hp
theorem Q4h(b:Bool):Q5i (Q2w b)=true:=by cases b<;>rfl
theorem X9b:brkC (Q2w false)=[⟨1,0,7⟩]:=by rfl
theorem X9a:brkC (Q2w true)=[]:=by rfl
theorem plain_for:(Q7q (Q2w true)).length=1:=by
 unfold Q7q
 rw[if_pos (Q4h true)]
 have e:canS (Q3o (fun s=>Q3w (Q2w true) s (Q2w true).snd) ((Q2w true).ph.flatMap fun p=>canS (Q5c [2,3] p.tr)))=[⟨30,5⟩]:=by
  have e1:((Q2w true).ph.flatMap fun p=>canS (Q5c [2,3] p.tr))=[⟨30,5⟩]:=by
   show canS []++(canS [(⟨30,5⟩:Sp)]++[])=_
   simp[canS,ddS]
  rw[e1]
  have e2:Q3o (fun s=>Q3w (Q2w true) s (Q2w true).snd) [⟨30,5⟩]=[⟨30,5⟩]:=by rfl
  rw[e2]
  simp[canS,ddS]
 rw[e]
 rfl
theorem wakes_fn:Fn Tryz.prog 8 [] [] (vb true) []:=by
 have p0:=X8z false
 have p1:=X8z true
 have h0:=X9j (Q2w false) (Q9d false)
 have h1:=X9j (Q2w true) (Q9d true)
 obtain⟨r,hr1,hr2,en⟩:=Q8r (Q2w true) (Q9d true) (Q4h true)
 have fo:=Z1j (Q2w true) (Q9d true)
 have e0:X1w (Q2w false)=⟨1,0,7⟩:=by unfold X1w X4d;rw[if_pos (Q4h false),X9b]
 have e1:X1v (Q2w false)=321:=by unfold X1v;rw[if_pos (Q4h false),X9b]
 have e2:X1w (Q2w true)=⟨0,0,0⟩:=by unfold X1w X4d;rw[if_pos (Q4h true),X9a]
 have e3:X1v (Q2w true)=0:=by unfold X1v;rw[if_pos (Q4h true),X9a]
 rw[e0,e1] at h0
 rw[e2,e3] at h1
 have er:r=[20,30]:=X2n hr1 (by decide) fun x=>by rw[hr2];rfl
 subst er
 have ef:=plain_for
 generalize Q7q (Q2w true)=F at fo ef
 clear e0 e1 e2 e3 hr1 hr2
 generalize Q2w false=P0 at p0 h0
 generalize Q2w true=P1 at p1 h1 en fo
 have k1:((F.length:Int)==1)=true:=by rw[ef];rfl
 (refine Q0v Tryz.func8 rfl (by rfl) ?_;simp only[Tryz.ntmps8,List.length_cons,List.length_nil,Nat.reduceAdd,Nat.reduceSub,List.replicate,List.cons_append,List.nil_append])
 (repeat(any_goals(first|((with_reducible refine Q0l ?_ ?_ ?_);rfl;rfl;intro K hK;(first|((apply Q0i (p0);rfl;rfl;rfl;rfl;exact Tryz.func35);kernel_rfl;rfl;(focus((simp only[go_sem,k1]);(try rfl);done));(first|rfl))|((apply Q0i (p1);rfl;rfl;rfl;rfl;exact Tryz.func35);kernel_rfl;rfl;(focus((simp only[go_sem,k1]);(try rfl);done));(first|rfl))|((apply Q0i (h0);rfl;rfl;rfl;rfl;exact Tryz.func27);kernel_rfl;rfl;(focus((simp only[go_sem,k1]);(try rfl);done));(first|rfl))|((apply Q0i (h1);rfl;rfl;rfl;rfl;exact Tryz.func27);kernel_rfl;rfl;(focus((simp only[go_sem,k1]);(try rfl);done));(first|rfl)));(simp only[go_sem,k1];refine hK _ ?_;clear hK K))|((with_reducible refine Q0b ?_ ?_);rfl;intro K hK;simp only[go_sem,k1];((repeat(refine ndI (by first|assumption) ?_));refine hK _ ?_;clear hK K))|(with_reducible first|(refine Q0c ?_;refine hR _ ?_;clear hR R)|((first|refine Q0d ?_);intro J hJ hJ')|(refine Q0a ?_;intro R hR)|(refine hJ _ ?_;clear hJ hJ' J)|refine Q0j ?_)|((with_reducible apply Q0s);rfl;rfl;rfl;all_goals(intro hb;first|(cases hb;done)|((try simp only[Bool.not_true,Bool.not_false] at hb);(first|((with_reducible intro K hK);(first|((first|(apply Q0i (en);rfl;rfl;rfl;rfl;exact Tryz.func17)|(apply Q0i (fo);rfl;rfl;rfl;rfl;exact Tryz.func13));kernel_rfl;rfl;(focus((simp only[go_sem,k1]);(try rfl);done));(first|rfl))|((apply Q0i (p1);rfl;rfl;rfl;rfl;exact Tryz.func35);kernel_rfl;rfl;(focus((simp only[go_sem,k1]);(try rfl);done));(first|rfl))|skip);simp only[go_sem,k1];((repeat(refine ndI (by first|assumption) ?_));refine hK _ ?_;clear hK K)))))))))
 all_goals(refine⟨by simp,⟨_,?_,AV.le_refl _⟩,Q0h (by simp[leH,hget])⟩;simp only[Tryz.results8,resL,ldA,Q0o,go_sem])
end
section
open Go.RowKit
open Nat (reduceBEq)
attribute [-go_sem] IntKind.bits
set_option maxRecDepth 20000
set_option maxHeartbeats 2000000
end
section
open Go.RowKit
open Nat (reduceBEq)
attribute [-go_sem] IntKind.bits
set_option maxRecDepth 100000
set_option maxHeartbeats 4000000
end
section
open Go.RowKit
open Nat (reduceBEq)
attribute [-go_sem] IntKind.bits
set_option maxRecDepth 20000
set_option maxHeartbeats 2000000
end
section
open Go.RowKit
open Nat (reduceBEq)
attribute [-go_sem] IntKind.bits
set_option maxRecDepth 20000
set_option maxHeartbeats 2000000
end
section
open Go.RowKit
open Nat (reduceBEq)
attribute [-go_sem] IntKind.bits
set_option maxRecDepth 100000
set_option maxHeartbeats 4000000
end
section
open Go.RowKit
open Nat (reduceBEq)
set_option maxRecDepth 20000
set_option maxHeartbeats 2000000
theorem St.le_setD{T:List AV}{H:List (Nat×List AV)}{k:Nat}{x y:AV}(hx:T.getD k .any=x)(hk:k<T.length)(h:x.le y):(St.mk T H).le (St.mk (T.set k y) H):=
 ⟨by simp,fun i=>by
   show(T.getD i .any).le ((T.set k y).getD i .any)
   rw[List.getD_eq_getElem?_getD,List.getD_eq_getElem?_getD]
   by_cases e:k=i
   · subst e
     rw[List.getElem?_set_self hk,←List.getD_eq_getElem?_getD,hx]
     exact h
   · rw[List.getElem?_set_ne e]
     exact AV.le_refl _,fun _ _ h=>h⟩
theorem St.le_trans{a b c:St}(h:a.le b)(g:b.le c):a.le c:=
 ⟨h.1.trans g.1,fun i S ι w v hv=>g.2 i S ι w v (h.2 i S ι w v hv),fun r cs hr=>h.3 r cs (g.3 r cs hr)⟩
def posD:List Int→Int→Nat
 |[],_=>0
 |y::l,x=>if y<x then posD l x+1 else 0
theorem X7j:∀(l:List Int) (x:Int),posD l x≤l.length
 |[],_=>Nat.le_refl _
 |y::l,x=>by
  have:=X7j l x
  unfold posD
  split
  · rw[List.length_cons];omega
  · exact Nat.zero_le _
theorem posD_lt:∀{l:List Int} {x:Int} {i:Nat} {y:Int},i<posD l x→l[i]? = some y→y<x
 |[],x,i,y,h,hy=>by cases hy
 |z::l,x,i,y,h,hy=>by
  unfold posD at h
  split at h
  · rename_i hz
    cases i with
    |zero=>cases hy;exact hz
    |succ i=>exact posD_lt (Nat.lt_of_succ_lt_succ h) hy
  · omega
theorem posD_ge:∀{l:List Int} {x:Int} {y:Int},l[posD l x]? = some y→x≤y
 |[],x,y,hy=>by cases hy
 |z::l,x,y,hy=>by
  unfold posD at hy
  split at hy
  · exact posD_ge (l:=l) hy
  · rename_i hz
    cases hy
    omega
def insD(l:List Int)(x:Int):List Int:=if l[posD l x]? = some x then l else l.take (posD l x)++([x]++l.drop (posD l x))
def resD(l:List Int):Nat→List Int
 |0=>[]
 |i+1=>match l[i]? with
  |none=>resD l i
  |some x=>insD (resD l i) x
theorem insD_len(l:List Int)(x:Int):(insD l x).length≤l.length+1:=by
 unfold insD
 split
 · omega
 · simp;have:=X7j l x;omega
theorem Q8z(l:List Int):∀i,(resD l i).length≤i
 |0=>Nat.le_refl _
 |i+1=>by
  have ih:=Q8z l i
  unfold resD
  split
  · omega
  · have:=insD_len (resD l i) ‹Int›;omega
theorem asl_map(l:List Int):l.flatMap apv=l.map fun a=>PV.v (.int .u64 a):=by
 induction l with
 |nil=>rfl
 |cons a l ih=>rw[List.flatMap_cons,ih];rfl
theorem asl_drop(l:List Int)(k:Nat):(l.flatMap apv).drop k=(l.drop k).flatMap apv:=by
 rw[asl_map,asl_map,List.map_drop]
theorem X1j(ex:Bool)(l:List Int)(hl:l.length≤100000):Fn Tryz.prog 40 [asl ex l] [] (asl false (resD l l.length)) []:=by
 obtain⟨tot,htot⟩:∃t,resD l l.length=t:=⟨_,rfl⟩
 rw[htot]
 (refine Q0v Tryz.func40 rfl (by rfl) ?_;simp only[Tryz.ntmps40,List.length_cons,List.length_nil,Nat.reduceAdd,Nat.reduceSub,List.replicate,List.cons_append,List.nil_append])
 (repeat(any_goals(first|((with_reducible refine Q0b ?_ ?_);rfl;intro K hK;simp only[go_sem];((repeat(refine ndI (by first|assumption) ?_));refine hK _ ?_;clear hK K))|(with_reducible first|(refine Q0c ?_;refine hR _ ?_;clear hR R)|((first|refine Q0d ?_|refine Q0f ?_);intro J hJ hJ')|(refine Q0a ?_;intro R hR)|(refine hJ _ ?_;clear hJ hJ' J)))))
 refine Q2a l.length (fun i=>⟨[asl ex l,.any,.any,asl false (resD l i),vi .i64 (i:Int),.any,.any,.any,.any,.any,.any,.any,.any,.any,.any,.any,.any,.any,.any,.any,.any,.any,.any,.any,.any,.any,.any,.any,.any,.any,.any,.any,.any,.any,.any,.any,.any,.any,.any,.any,.any,.any,.any,.any,.any,.any,.any,.any,.any,.any,.any,.any,.any,.any,.any,.any,.any,.any,.any],[]⟩) (St.le_trans (St.le_setD (k:=3) (x:=.c (.v (.slice none 0 0))) rfl (by simp) (AV.le_nil false 1)) (St.le_of (by simp[leT,resD]) (by simp[leH]))) ?_
 intro i hi J hJ hJ'
 (try dsimp only at hJ ⊢)
 rcases Nat.lt_or_ge i l.length with hlt|hge
 · have k1:(decide ((i:Int)<(l.length:Int)))=true:=by simp;omega
   have k7:(i:Int)+1=((i+1:Nat):Int):=by omega
   obtain⟨x,hx⟩:∃x,l[i]? = some x:=⟨_,List.getElem?_eq_getElem hlt⟩
   have k2:=Q7x hx
   have hol:=Q8z l i
   have hrs:resD l (i+1)=insD (resD l i) x:=by
    show(match l[i]? with|none=>_|some x=>_)=_
    rw[hx]
   rw[hrs] at hJ
   generalize resD l i=out at hol hJ ⊢
   obtain⟨p,hp⟩:∃p,posD out x=p:=⟨_,rfl⟩
   obtain⟨nxt,hnx⟩:∃r,insD out x=r:=⟨_,rfl⟩
   have hpl:p≤out.length:=by rw[←hp];exact X7j out x
   have hlow:∀a y,a<p→out[a]? = some y→y<x:=fun a y ha hy=>posD_lt (by rw[hp];exact ha) hy
   have hge':∀y,out[p]? = some y→x≤y:=fun y hy=>posD_ge (by rw[hp];exact hy)
   have hdup:out[p]? = some x→nxt=out:=fun h=>by rw[←hnx];unfold insD;rw[hp,if_pos h]
   have hnew:out[p]?≠some x→nxt=out.take p++([x]++out.drop p):=fun h=>by rw[←hnx];unfold insD;rw[hp,if_neg h]
   rw[hnx] at hJ
   clear hrs hp hnx
   (repeat(any_goals(first|((with_reducible refine Q0b ?_ ?_);rfl;intro K hK;simp(disch:=omega) only[go_sem,k1];((repeat(refine ndI (by first|assumption|rfl) ?_));refine hK _ ?_;clear hK K))|(with_reducible first|(refine Q0c ?_;refine hR _ ?_;clear hR R)|((first|refine Q0d ?_|refine Q0f ?_);intro J hJ hJ')|(refine Q0a ?_;intro R hR)|(refine hJ _ ?_;clear hJ hJ' J)|refine Q0g ?_)|((with_reducible apply Q0e);rfl;rfl;all_goals(intro hc;first|(cases hc;done)|(try simp only at hc))))))
   refine Q2a p (fun a=>⟨[asl ex l,.any,.any,asl false out,vi .i64 (i:Int),vi .i64 (a:Int),.any,.any,.any,.any,.any,.any,.any,.any,.any,.any,.any,.any,.any,.any,.any,.any,.any,.any,.any,.any,.any,.any,.any,.any,.any,.any,.any,.any,.any,.any,.any,.any,.any,.any,.any,.any,.any,.any,.any,.any,.any,.any,.any,.any,.any,.any,.any,.any,.any,.any,.any,.any,.any],[]⟩) (St.le_of (by simp[leT]) (by simp[leH])) ?_
   intro a ha J hJ hJ'
   (try dsimp only at hJ ⊢)
   rcases Nat.lt_or_ge a p with halt|hage
   · obtain⟨y,hy⟩:∃y,out[a]? = some y:=⟨_,List.getElem?_eq_getElem (by omega)⟩
     have n1:(decide ((a:Int)<(out.length:Int)))=true:=by simp;omega
     have n2:(decide (y<x))=true:=decide_eq_true (hlow a y halt hy)
     have n3:=Q7x hy
     have n7:(a:Int)+1=((a+1:Nat):Int):=by omega
     have hal:a<out.length:=by omega
     (have W:=ndI n1 (ndI n2 (ndI n3 (ndI n7 (ndI k2 @wrI))));(repeat(any_goals(first|((with_reducible refine Q0b ?_ ?_);rfl;intro K hK;simp(disch:=omega) only[go_sem,W,Nat.mul_one];((repeat(refine ndI (by first|assumption|rfl) ?_));refine hK _ ?_;clear hK K))|(with_reducible first|(refine Q0c ?_;refine hR _ ?_;clear hR R)|((first|refine Q0d ?_|refine Q0f ?_);intro J hJ hJ')|(refine Q0a ?_;intro R hR)|(refine hJ _ ?_;clear hJ hJ' J)|refine Q0g ?_)|((with_reducible refine hJ' _ _ ?_ ?_);(focus(simp;done));clear hJ hJ' J)|((with_reducible apply Q0e);rfl;rfl;all_goals(intro hc;first|(cases hc;done)|(try simp only at hc)))|((with_reducible refine Q0y ?_ ?_);kernel_rfl;(with_reducible refine hR _ ?_);clear hR R)|((first|((first|((with_reducible apply Q0x);rfl;rfl)|((with_reducible apply Q3b);rfl;rfl;rfl;rfl;rfl));(simp(disch:=omega) only[rdE,rdOf,go_sem,W,Nat.mul_one];rfl);(intro τ hA hQ hN;((try simp only[Q1h,Op.operands,Call.operands,go_sem,W,Nat.mul_one,go_sem,List.mem_cons,List.not_mem_nil,forall_eq_or_imp,forall_eq,List.append_toArray,Option.toArray] at hA);(try simp only[go_sem,W,Nat.mul_one,List.mem_cons,List.not_mem_nil,forall_eq_or_imp,forall_eq] at hQ hN);(first|(revert hA;intro hA));(first|(revert hQ;intro hQ));(first|(revert hN;intro hN));simp(disch:=omega) only[go_sem,W,Nat.mul_one,go_sem,hA,hQ,hN];(repeat(refine ndI (by first|assumption|omega|rfl) ?_));(first|apply Q1b)))));(simp(disch:=omega) only[St.eff,setO,Q0w,go_sem,W,Nat.mul_one]))|((with_reducible refine Q0u ?_ ?_ ?_ ?_);kernel_rfl;kernel_rfl;(first|kernel_rfl);intro R hR)))))
     all_goals exact hJ _ halt (St.le_of (by simp[leT]) (by simp[leH]))
   · have eap:a=p:=by omega
     rw[eap]
     obtain⟨T,hT⟩:∃T,(out.take p).flatMap apv=T:=⟨_,rfl⟩
     obtain⟨D,hD⟩:∃D,(out.drop p).flatMap apv=D:=⟨_,rfl⟩
     have f1:(out.flatMap apv).take p=T:=by rw[asl_take,hT]
     have f2:((out.flatMap apv).drop p).take (out.length-p)=D:=by
      rw[asl_drop,hD,List.take_of_length_le]
      rw[←hD,Q0r Q3e,List.length_drop]
      omega
     have f3:T.length=p:=by rw[←hT,Q0r Q3e,List.length_take];omega
     have f4:D.length=out.length-p:=by rw[←hD,Q0r Q3e,List.length_drop];omega
     have heq:out[p]?≠some x→AV.c (.sl false 1 (p+(1+(out.length-p))) (T++(PV.v (.int .u64 x)::D)))=asl false nxt:=fun h=>by
      rw[hnew h]
      unfold asl
      rw[List.flatMap_append,List.flatMap_append,hT,hD,List.length_append,List.length_append,List.length_take,List.length_drop,Nat.min_eq_left hpl]
      rfl
     rcases Nat.lt_or_ge p out.length with hpL|hpL
     · obtain⟨y,hy⟩:∃y,out[p]? = some y:=⟨_,List.getElem?_eq_getElem hpL⟩
       have n1:(decide ((p:Int)<(out.length:Int)))=true:=by simp;omega
       have n2:(decide (y<x))=false:=decide_eq_false (by have:=hge' y hy;omega)
       have n3:=Q7x hy
       by_cases hyx:y=x
       · have n4:(y==x)=true:=by simp[hyx]
         have en:=hdup (by rw[hy,hyx])
         (have W:=ndI n1 (ndI n2 (ndI n3 (ndI n4 (ndI k2 (ndI k7 @wrI)))));(repeat(any_goals(first|((with_reducible refine Q0b ?_ ?_);rfl;intro K hK;simp(disch:=omega) only[go_sem,W,Nat.mul_one];((repeat(refine ndI (by first|assumption|rfl) ?_));refine hK _ ?_;clear hK K))|(with_reducible first|(refine Q0c ?_;refine hR _ ?_;clear hR R)|((first|refine Q0d ?_);intro J hJ hJ')|(refine Q0a ?_;intro R hR)|(refine hJ _ ?_;clear hJ hJ' J)|refine Q0p ?_)|((with_reducible refine hJ' _ _ ?_ ?_);(focus(simp;done));clear hJ hJ' J)|((with_reducible apply Q0e);rfl;rfl;all_goals(intro hc;first|(cases hc;done)|(try simp only at hc)))|((with_reducible refine Q0y ?_ ?_);kernel_rfl;(with_reducible refine hR _ ?_);clear hR R)|((first|((first|((with_reducible apply Q0x);rfl;rfl)|((with_reducible apply Q3b);rfl;rfl;rfl;rfl;rfl));(simp(disch:=omega) only[rdE,rdOf,go_sem,W,Nat.mul_one];rfl);(intro τ hA hQ hN;((try simp only[Q1h,Op.operands,Call.operands,go_sem,W,Nat.mul_one,go_sem,List.mem_cons,List.not_mem_nil,forall_eq_or_imp,forall_eq,List.append_toArray,Option.toArray] at hA);(try simp only[go_sem,W,Nat.mul_one,List.mem_cons,List.not_mem_nil,forall_eq_or_imp,forall_eq] at hQ hN);(first|(revert hA;intro hA));(first|(revert hQ;intro hQ));(first|(revert hN;intro hN));simp(disch:=omega) only[go_sem,W,Nat.mul_one,go_sem,hA,hQ,hN];(repeat(refine ndI (by first|assumption|omega|rfl) ?_));(first|apply Q1b)))));(simp(disch:=omega) only[St.eff,setO,Q0w,go_sem,W,Nat.mul_one]))|((with_reducible refine Q0u ?_ ?_ ?_ ?_);kernel_rfl;kernel_rfl;(first|kernel_rfl);intro R hR)))))
         all_goals exact hJ _ hlt (St.le_of (by simp[leT,en]) (by simp[leH]))
       · have n4:(y==x)=false:=by simp[hyx]
         have en:=heq (by rw[hy];exact fun e=>hyx (Option.some.inj e))
         (have W:=ndI n1 (ndI n2 (ndI n3 (ndI n4 (ndI k2 (ndI k7 (ndI f1 (ndI f2 @wrI)))))));(repeat(any_goals(first|((with_reducible refine Q0b ?_ ?_);rfl;intro K hK;simp(disch:=omega) only[go_sem,W,en,eq_self,decide_true,Nat.mul_one];((repeat(refine ndI (by first|assumption|rfl) ?_));refine hK _ ?_;clear hK K))|(with_reducible first|(refine Q0c ?_;refine hR _ ?_;clear hR R)|((first|refine Q0d ?_);intro J hJ hJ')|(refine Q0a ?_;intro R hR)|(refine hJ _ ?_;clear hJ hJ' J)|refine Q0g ?_|refine Q0p ?_)|((with_reducible refine hJ' _ _ ?_ ?_);(focus(simp;done));clear hJ hJ' J)|((with_reducible apply Q0e);rfl;rfl;all_goals(intro hc;first|(cases hc;done)|(try simp only at hc)))|((with_reducible refine Q0y ?_ ?_);kernel_rfl;(with_reducible refine hR _ ?_);clear hR R)|((first|((first|((with_reducible apply Q0x);rfl;rfl)|((with_reducible apply Q3b);rfl;rfl;rfl;rfl;rfl));(simp(disch:=omega) only[rdE,rdOf,go_sem,W,en,eq_self,decide_true,Nat.mul_one];rfl);(intro τ hA hQ hN;((try simp only[Q1h,Op.operands,Call.operands,go_sem,W,en,eq_self,decide_true,Nat.mul_one,go_sem,List.mem_cons,List.not_mem_nil,forall_eq_or_imp,forall_eq,List.append_toArray,Option.toArray] at hA);(try simp only[go_sem,W,en,eq_self,decide_true,Nat.mul_one,List.mem_cons,List.not_mem_nil,forall_eq_or_imp,forall_eq] at hQ hN);(first|(revert hA;intro hA));(first|(revert hQ;intro hQ));(first|(revert hN;intro hN));simp(disch:=omega) only[go_sem,W,en,eq_self,decide_true,Nat.mul_one,go_sem,hA,hQ,hN];(repeat(refine ndI (by first|assumption|omega|rfl) ?_));(first|apply Q1b))))|((with_reducible apply Q4m);rfl;rfl;rfl;rfl;(focus(simp only[go_sem];try rfl));(first|omega);(first|omega);rfl;rfl;(focus(first|omega|(simp(disch:=omega) only[go_sem,W,en,eq_self,decide_true,Nat.mul_one,spl,List.length_append,List.length_map,List.length_take,List.length_drop,List.length_replicate];omega)));(focus(first|omega|(focus(simp[spl];done))));(focus(first|omega));rfl;(focus(first|omega)))|((first|((with_reducible apply Q3r);rfl));apply Q3k;rfl;rfl;(focus(simp only[go_sem];try rfl));(focus(simp only[go_sem];try rfl));rfl;(first|omega);(first|omega);(first|omega);(simp(disch:=omega) only[go_sem,W,en,eq_self,decide_true,Nat.mul_one];rfl);rfl;(focus((simp(disch:=omega) only[unC,Option.map_some]);(try rfl)))));(simp(disch:=omega) only[St.eff,setO,Q0w,go_sem,W,en,eq_self,decide_true,Nat.mul_one]))|((with_reducible refine Q0u ?_ ?_ ?_ ?_);kernel_rfl;kernel_rfl;(first|kernel_rfl);intro R hR)))))
         all_goals exact hJ _ hlt (St.le_of (by simp[leT]) (by simp[leH]))
     · have n1:(decide ((p:Int)<(out.length:Int)))=false:=by simp;omega
       have en:=heq (by rw[List.getElem?_eq_none hpL];exact fun e=>by cases e)
       (have W:=ndI n1 (ndI k2 (ndI k7 (ndI f1 (ndI f2 @wrI))));(repeat(any_goals(first|((with_reducible refine Q0b ?_ ?_);rfl;intro K hK;simp(disch:=omega) only[go_sem,W,en,eq_self,decide_true,Nat.mul_one];((repeat(refine ndI (by first|assumption|rfl) ?_));refine hK _ ?_;clear hK K))|(with_reducible first|(refine Q0c ?_;refine hR _ ?_;clear hR R)|((first|refine Q0d ?_);intro J hJ hJ')|(refine Q0a ?_;intro R hR)|(refine hJ _ ?_;clear hJ hJ' J)|refine Q0g ?_|refine Q0p ?_)|((with_reducible refine hJ' _ _ ?_ ?_);(focus(simp;done));clear hJ hJ' J)|((with_reducible apply Q0e);rfl;rfl;all_goals(intro hc;first|(cases hc;done)|(try simp only at hc)))|((with_reducible refine Q0y ?_ ?_);kernel_rfl;(with_reducible refine hR _ ?_);clear hR R)|((first|((with_reducible apply Q3v);rfl;rfl;rfl;rfl)|((first|((with_reducible apply Q0x);rfl;rfl));(simp(disch:=omega) only[rdE,rdOf,go_sem,W,en,eq_self,decide_true,Nat.mul_one];rfl);(intro τ hA hQ hN;((try simp only[Q1h,Op.operands,Call.operands,go_sem,W,en,eq_self,decide_true,Nat.mul_one,go_sem,List.mem_cons,List.not_mem_nil,forall_eq_or_imp,forall_eq,List.append_toArray,Option.toArray] at hA);(try simp only[go_sem,W,en,eq_self,decide_true,Nat.mul_one,List.mem_cons,List.not_mem_nil,forall_eq_or_imp,forall_eq] at hQ hN);(first|(revert hA;intro hA));(first|(revert hQ;intro hQ));(first|(revert hN;intro hN));simp(disch:=omega) only[go_sem,W,en,eq_self,decide_true,Nat.mul_one,go_sem,hA,hQ,hN];(repeat(refine ndI (by first|assumption|omega|rfl) ?_));(first|apply Q1b))))|((with_reducible apply Q4m);rfl;rfl;rfl;rfl;(focus(simp only[go_sem];try rfl));(first|omega);(first|omega);rfl;rfl;(focus(first|omega|(simp(disch:=omega) only[go_sem,W,en,eq_self,decide_true,Nat.mul_one,spl,List.length_append,List.length_map,List.length_take,List.length_drop,List.length_replicate];omega)));(focus(first|omega|(focus(simp[spl];done))));(focus(first|omega));rfl;(focus(first|omega)))|((first|((with_reducible apply Q3r);rfl));apply Q3k;rfl;rfl;(focus(simp only[go_sem];try rfl));(focus(simp only[go_sem];try rfl));rfl;(first|omega);(first|omega);(first|omega);(simp(disch:=omega) only[go_sem,W,en,eq_self,decide_true,Nat.mul_one];rfl);rfl;(focus((simp(disch:=omega) only[unC,Option.map_some]);(try rfl)))));(simp(disch:=omega) only[St.eff,setO,Q0w,go_sem,W,en,eq_self,decide_true,Nat.mul_one]))|((with_reducible refine Q0u ?_ ?_ ?_ ?_);kernel_rfl;kernel_rfl;(first|kernel_rfl);intro R hR)))))
       all_goals exact hJ _ hlt (St.le_of (by simp[leT]) (by simp[leH]))
 · have k1:(decide ((i:Int)<(l.length:Int)))=false:=by simp;omega
   obtain rfl:i=l.length:=by omega
   rw[htot]
   (repeat(any_goals(first|((with_reducible refine Q0b ?_ ?_);rfl;intro K hK;simp only[go_sem,k1];((repeat(refine ndI (by first|assumption) ?_));refine hK _ ?_;clear hK K))|(with_reducible first|(refine Q0c ?_;refine hR _ ?_;clear hR R)|((first|refine Q0d ?_);intro J hJ hJ')|(refine Q0a ?_;intro R hR)|(refine hJ _ ?_;clear hJ hJ' J)|refine Q0j ?_|refine Q0p ?_)|((with_reducible refine hJ' _ _ ?_ ?_);(focus(simp;done));clear hJ hJ' J)|((with_reducible apply Q0e);rfl;rfl;all_goals(intro hc;first|(cases hc;done)|(try simp only at hc))))))
   all_goals(refine⟨by simp,⟨_,?_,AV.le_refl _⟩,Q0h (by simp[leH,hget])⟩;simp only[Tryz.results40,resL,ldA,Q0o,go_sem])
end
section
open Go.RowKit
open Nat (reduceBEq)
attribute [-go_sem] IntKind.bits
set_option maxRecDepth 20000
set_option maxHeartbeats 2000000
theorem X2k(e1 e2:Bool)(l m:List Int)(hl:l.length≤1000000)(hm:m.length≤1000000):Fn Tryz.prog 18 [asl e1 l,asl e2 m] [] (vb (decide (l=m))) []:=by
 by_cases hlen:l.length=m.length
 · have k0:((l.length:Int) != (m.length:Int))=false:=by rw[hlen];simp
   obtain⟨r,hr⟩:∃r,decide (l=m)=r:=⟨_,rfl⟩
   rw[hr]
   (refine Q0v Tryz.func18 rfl (by rfl) ?_;simp only[Tryz.ntmps18,List.length_cons,List.length_nil,Nat.reduceAdd,Nat.reduceSub,List.replicate,List.cons_append,List.nil_append])
   (repeat(any_goals(first|((with_reducible refine Q0b ?_ ?_);rfl;intro K hK;simp only[go_sem,k0];((repeat(refine ndI (by first|assumption) ?_));refine hK _ ?_;clear hK K))|(with_reducible first|(refine Q0c ?_;refine hR _ ?_;clear hR R)|((first|refine Q0d ?_|refine Q0f ?_);intro J hJ hJ')|(refine Q0a ?_;intro R hR)|(refine hJ _ ?_;clear hJ hJ' J)|refine Q0g ?_)|((with_reducible apply Q0e);rfl;rfl;all_goals(intro hc;first|(cases hc;done)|(try simp only at hc))))))
   refine Q1m (α:={i:Nat // i≤l.length∧∀j,j<i→l[j]? = m[j]?}) (fun p=>⟨[asl e1 l,asl e2 m,.any,.any,vb false,vi .i64 (p.1:Int),.any,.any,.any,.any,.any,.any,.any,.any,.any,.any,.any,.any,.any,.any,.any,.any,.any,.any,.any,.any],[]⟩) (fun p=>l.length-p.1) ⟨0,Nat.zero_le _,fun j hj=>by omega⟩ (St.le_of (by simp[leT]) (by simp[leH])) ?_
   rintro ⟨i,hi,hno⟩ J hJ hJ'
   (try dsimp only at hi hJ ⊢)
   rcases Nat.lt_or_ge i l.length with hlt|hge
   · have k1:(decide ((i:Int)<(l.length:Int)))=true:=decide_eq_true (by omega)
     have k7:(i:Int)+1=((i+1:Nat):Int):=by omega
     obtain⟨x,hx⟩:∃x,l[i]? = some x:=⟨_,List.getElem?_eq_getElem hlt⟩
     obtain⟨y,hy⟩:∃y,m[i]? = some y:=⟨_,List.getElem?_eq_getElem (by omega)⟩
     have hlm:i<m.length:=by omega
     have k2:=Q7x hx
     have k3:=Q7x hy
     have k4:=a_ne x y
     by_cases hxy:x=y
     · rw[decide_eq_true hxy,Bool.not_true] at k4
       (have W:=ndI k1 (ndI k2 (ndI k3 (ndI k4 (ndI k7 @wrI))));(repeat(any_goals(first|((with_reducible refine Q0b ?_ ?_);rfl;intro K hK;simp(disch:=omega) only[go_sem,W,Nat.mul_one];((repeat(refine ndI (by first|assumption|rfl) ?_));refine hK _ ?_;clear hK K))|(with_reducible first|(refine Q0c ?_;refine hR _ ?_;clear hR R)|((first|refine Q0d ?_|refine Q0f ?_);intro J hJ hJ')|(refine Q0a ?_;intro R hR)|(refine hJ _ ?_;clear hJ hJ' J)|refine Q0g ?_)|((with_reducible refine hJ' _ _ ?_ ?_);(focus(simp;done));clear hJ hJ' J)|((with_reducible apply Q0e);rfl;rfl;all_goals(intro hc;first|(cases hc;done)|(try simp only at hc)))|((with_reducible refine Q0y ?_ ?_);kernel_rfl;(with_reducible refine hR _ ?_);clear hR R)|(((with_reducible apply Q0x);rfl;rfl;(simp(disch:=omega) only[rdE,rdOf,go_sem,W,Nat.mul_one];rfl);(intro τ hA hQ hN;((try simp only[Q1h,Op.operands,Call.operands,go_sem,W,Nat.mul_one,go_sem,List.mem_cons,List.not_mem_nil,forall_eq_or_imp,forall_eq,List.append_toArray,Option.toArray] at hA);(try simp only[go_sem,W,Nat.mul_one,List.mem_cons,List.not_mem_nil,forall_eq_or_imp,forall_eq] at hQ hN);(first|(revert hA;intro hA));(first|(revert hQ;intro hQ));(first|(revert hN;intro hN));simp(disch:=omega) only[go_sem,W,Nat.mul_one,go_sem,hA,hQ,hN];(repeat(refine ndI (by first|assumption|omega|rfl) ?_));(first|apply Q1b))));(simp(disch:=omega) only[St.eff,setO,Q0w,go_sem,W,Nat.mul_one]))|((with_reducible refine Q0u ?_ ?_ ?_ ?_);kernel_rfl;kernel_rfl;(first|kernel_rfl);intro R hR)))))
       all_goals exact hJ _ ⟨i+1,hlt,fun j hj=>by
        rcases Nat.lt_or_ge j i with h'|h'
        · exact hno j h'
        · obtain rfl:j=i:=by omega
          rw[hx,hy,hxy]⟩ (by simp only;omega) (St.le_of (by simp[leT]) (by simp[leH]))
     · rw[decide_eq_false hxy,Bool.not_false] at k4
       have hrf:r=false:=by
        rw[←hr,decide_eq_false_iff_not]
        intro e;rw[e,hy] at hx;cases hx;exact hxy rfl
       (have W:=ndI k1 (ndI k2 (ndI k3 (ndI k4 (ndI k7 @wrI))));(repeat(any_goals(first|((with_reducible refine Q0b ?_ ?_);rfl;intro K hK;simp(disch:=omega) only[go_sem,W,Nat.mul_one];((repeat(refine ndI (by first|assumption|rfl) ?_));refine hK _ ?_;clear hK K))|(with_reducible first|(refine Q0c ?_;refine hR _ ?_;clear hR R)|((first|refine Q0d ?_|refine Q0f ?_);intro J hJ hJ')|(refine Q0a ?_;intro R hR)|(refine hJ _ ?_;clear hJ hJ' J)|refine Q0g ?_|refine Q0j ?_)|((with_reducible refine hJ' _ _ ?_ ?_);(focus(simp;done));clear hJ hJ' J)|((with_reducible apply Q0e);rfl;rfl;all_goals(intro hc;first|(cases hc;done)|(try simp only at hc)))|((with_reducible refine Q0y ?_ ?_);kernel_rfl;(with_reducible refine hR _ ?_);clear hR R)|(((with_reducible apply Q0x);rfl;rfl;(simp(disch:=omega) only[rdE,rdOf,go_sem,W,Nat.mul_one];rfl);(intro τ hA hQ hN;((try simp only[Q1h,Op.operands,Call.operands,go_sem,W,Nat.mul_one,go_sem,List.mem_cons,List.not_mem_nil,forall_eq_or_imp,forall_eq,List.append_toArray,Option.toArray] at hA);(try simp only[go_sem,W,Nat.mul_one,List.mem_cons,List.not_mem_nil,forall_eq_or_imp,forall_eq] at hQ hN);(first|(revert hA;intro hA));(first|(revert hQ;intro hQ));(first|(revert hN;intro hN));simp(disch:=omega) only[go_sem,W,Nat.mul_one,go_sem,hA,hQ,hN];(repeat(refine ndI (by first|assumption|omega|rfl) ?_));(first|apply Q1b))));(simp(disch:=omega) only[St.eff,setO,Q0w,go_sem,W,Nat.mul_one]))|((with_reducible refine Q0u ?_ ?_ ?_ ?_);kernel_rfl;kernel_rfl;(first|kernel_rfl);intro R hR)))))
       all_goals rw[hrf]
       all_goals(refine⟨by simp,⟨_,?_,AV.le_refl _⟩,Q0h (by simp[leH,hget])⟩;simp only[Tryz.results18,resL,ldA,Q0o,go_sem])
   · have k1:(decide ((i:Int)<(l.length:Int)))=false:=decide_eq_false (by omega)
     have hrt:r=true:=by
      rw[←hr,decide_eq_true_iff]
      refine List.ext_getElem? fun j=>?_
      rcases Nat.lt_or_ge j l.length with h|h
      · exact hno j (by omega)
      · rw[List.getElem?_eq_none h,List.getElem?_eq_none (by omega)]
     (repeat(any_goals(first|((with_reducible refine Q0b ?_ ?_);rfl;intro K hK;simp only[go_sem,k1];((repeat(refine ndI (by first|assumption) ?_));refine hK _ ?_;clear hK K))|(with_reducible first|(refine Q0c ?_;refine hR _ ?_;clear hR R)|((first|refine Q0d ?_);intro J hJ hJ')|(refine Q0a ?_;intro R hR)|(refine hJ _ ?_;clear hJ hJ' J)|refine Q0j ?_|refine Q0p ?_)|((with_reducible refine hJ' _ _ ?_ ?_);(focus(simp;done));clear hJ hJ' J)|((with_reducible apply Q0e);rfl;rfl;all_goals(intro hc;first|(cases hc;done)|(try simp only at hc))))))
     all_goals rw[hrt]
     all_goals(refine⟨by simp,⟨_,?_,AV.le_refl _⟩,Q0h (by simp[leH,hget])⟩;simp only[Tryz.results18,resL,ldA,Q0o,go_sem])
 · have k0:((l.length:Int) != (m.length:Int))=true:=by simp;omega
   have he:decide (l=m)=false:=by rw[decide_eq_false_iff_not];intro e;exact hlen (by rw[e])
   rw[he]
   (refine Q0v Tryz.func18 rfl (by rfl) ?_;simp only[Tryz.ntmps18,List.length_cons,List.length_nil,Nat.reduceAdd,Nat.reduceSub,List.replicate,List.cons_append,List.nil_append])
   (repeat(any_goals(first|((with_reducible refine Q0b ?_ ?_);rfl;intro K hK;simp only[go_sem,k0];((repeat(refine ndI (by first|assumption) ?_));refine hK _ ?_;clear hK K))|(with_reducible first|(refine Q0c ?_;refine hR _ ?_;clear hR R)|((first|refine Q0d ?_);intro J hJ hJ')|(refine Q0a ?_;intro R hR)|(refine hJ _ ?_;clear hJ hJ' J)|refine Q0j ?_)|((with_reducible refine hJ' _ _ ?_ ?_);(focus(simp;done));clear hJ hJ' J)|((with_reducible apply Q0e);rfl;rfl;all_goals(intro hc;first|(cases hc;done)|(try simp only at hc))))))
   all_goals(refine⟨by simp,⟨_,?_,AV.le_refl _⟩,Q0h (by simp[leH,hget])⟩;simp only[Tryz.results18,resL,ldA,Q0o,go_sem])
end
section
open Go.RowKit
open Nat (reduceBEq)
attribute [-go_sem] IntKind.bits
set_option maxRecDepth 20000
set_option maxHeartbeats 4000000
theorem X1o(x:Nat)(hx:x<WW):Fn Tryz.prog 113 [wN x] [] (vb (decide (x=0))) []:=by
 have f:=z4 hx
 obtain⟨q,hq⟩:∃q,decide (x=0)=q:=⟨_,rfl⟩
 rw[hq] at f ⊢
 clear hq hx
 (refine Q0v Tryz.func113 rfl (by rfl) ?_;simp only[Tryz.ntmps113,List.length_cons,List.length_nil,Nat.reduceAdd,Nat.reduceSub,List.replicate,List.cons_append,List.nil_append])
 (repeat(any_goals(first|((with_reducible refine Q0b ?_ ?_);rfl;intro K hK;simp only[go_sem,f];((repeat(refine ndI (by first|assumption) ?_));refine hK _ ?_;clear hK K))|(with_reducible first|(refine Q0c ?_;refine hR _ ?_;clear hR R)|((first|refine Q0d ?_);intro J hJ hJ')|(refine Q0a ?_;intro R hR)|(refine hJ _ ?_;clear hJ hJ' J)|refine Q0j ?_))))
 all_goals(refine⟨by simp,⟨_,?_,AV.le_refl _⟩,Q0h (by simp[leH,hget])⟩;simp only[Tryz.results113,resL,ldA,Q0o,go_sem])
theorem rtold_fn(x:Nat):Fn Tryz.prog 114 [vi .u8 x] [] (vb (Q7z x)) []:=by
 have e:Q7z x=(((x:Int)==50)||(((x:Int)==49)||(((x:Int)==66)||(((x:Int)==67)||(((x:Int)==71)||(((x:Int)==72)||((x:Int)==254))))))):=by
  unfold Q7z
  have k:∀n:Nat,(x==n)=((x:Int)==(n:Int)):=fun n=>by rw[Bool.eq_iff_iff];simp;omega
  rw[k 50,k 49,k 66,k 67,k 71,k 72,k 254]
  simp[Bool.or_assoc]
 rw[e]
 obtain⟨b1,h1⟩:∃b,((x:Int)==50)=b:=⟨_,rfl⟩
 obtain⟨b2,h2⟩:∃b,((x:Int)==49)=b:=⟨_,rfl⟩
 obtain⟨b3,h3⟩:∃b,((x:Int)==66)=b:=⟨_,rfl⟩
 obtain⟨b4,h4⟩:∃b,((x:Int)==67)=b:=⟨_,rfl⟩
 obtain⟨b5,h5⟩:∃b,((x:Int)==71)=b:=⟨_,rfl⟩
 obtain⟨b6,h6⟩:∃b,((x:Int)==72)=b:=⟨_,rfl⟩
 obtain⟨b7,h7⟩:∃b,((x:Int)==254)=b:=⟨_,rfl⟩
 rw[h1,h2,h3,h4,h5,h6,h7]
 (refine Q0v Tryz.func114 rfl (by rfl) ?_;simp only[Tryz.ntmps114,List.length_cons,List.length_nil,Nat.reduceAdd,Nat.reduceSub,List.replicate,List.cons_append,List.nil_append])
 (have W:=ndI h1 (ndI h2 (ndI h3 (ndI h4 (ndI h5 (ndI h6 h7)))));(repeat(any_goals(first|((with_reducible refine Q0b ?_ ?_);rfl;intro K hK;simp only[go_sem,W];((repeat(refine ndI (by first|assumption) ?_));refine hK _ ?_;clear hK K))|(with_reducible first|(refine Q0c ?_;refine hR _ ?_;clear hR R)|((first|refine Q0d ?_);intro J hJ hJ')|(refine Q0a ?_;intro R hR)|(refine hJ _ ?_;clear hJ hJ' J)|refine Q0j ?_)|((with_reducible apply Q0s);rfl;rfl;rfl;all_goals(intro hb;first|(cases hb;done)|((try simp only[Bool.not_true,Bool.not_false] at hb);(first|((with_reducible intro K hK);simp only[go_sem,W];((repeat(refine ndI (by first|assumption) ?_));refine hK _ ?_;clear hK K))|((fail_if_success (with_reducible intro _));simp only[go_sem,W])))))))))
 all_goals(refine⟨by simp,⟨_,?_,AV.le_refl _⟩,Q0h (by simp[leH,hget])⟩;simp only[Tryz.results114,resL,ldA,Q0o,go_sem])
 all_goals clear h1 h2 h3 h4 h5 h6 h7
 all_goals simp_all
theorem beqI(x:Int)(n:Int):(x==n)=decide (x=n):=by rw[Bool.eq_iff_iff];simp
theorem beqN(x n:Nat):((x:Int)==(n:Int))=decide (x=n):=by rw[Bool.eq_iff_iff,beq_iff_eq,decide_eq_true_iff];omega
theorem nilB(l:List Nat):((l.length:Int)==0)=decide (l=[]):=by rw[Bool.eq_iff_iff];simp
theorem Z0u(e:Ev)(a1 a2 a3:Bool)(h1:decide (e.dep<0)=a1)(h2:decide (e.dep≥6)=a2)(h3:(e.self==0)=a3)(h:(a1||a2||a3)=true):Fn Tryz.prog 70 [evA e] [] (vb false) []:=by
 cases a1 with
 |true=>
  (refine Q0v Tryz.func70 rfl (by rfl) ?_;simp only[Tryz.ntmps70,List.length_cons,List.length_nil,Nat.reduceAdd,Nat.reduceSub,List.replicate,List.cons_append,List.nil_append])
  (repeat(any_goals(first|((with_reducible refine Q0b ?_ ?_);rfl;intro K hK;simp only[go_sem,h1];((repeat(refine ndI (by first|assumption) ?_));refine hK _ ?_;clear hK K))|(with_reducible first|(refine Q0c ?_;refine hR _ ?_;clear hR R)|((first|refine Q0d ?_);intro J hJ hJ')|(refine Q0a ?_;intro R hR)|(refine hJ _ ?_;clear hJ hJ' J)|refine Q0j ?_)|((with_reducible refine hJ' _ _ ?_ ?_);(focus(simp;done));clear hJ hJ' J)|((with_reducible apply Q0s);rfl;rfl;rfl;all_goals(intro hb;first|(cases hb;done)|((try simp only[Bool.not_true,Bool.not_false] at hb);(first|((fail_if_success (with_reducible intro _));simp only[go_sem,h1])))))|((with_reducible apply Q0e);rfl;rfl;all_goals(intro hc;first|(cases hc;done)|(try simp only at hc))))))
  all_goals(refine⟨by simp,⟨_,?_,AV.le_refl _⟩,Q0h (by simp[leH,hget])⟩;simp only[Tryz.results70,resL,ldA,Q0o,go_sem])
 |false=>
 cases a2 with
 |true=>
  (refine Q0v Tryz.func70 rfl (by rfl) ?_;simp only[Tryz.ntmps70,List.length_cons,List.length_nil,Nat.reduceAdd,Nat.reduceSub,List.replicate,List.cons_append,List.nil_append])
  (repeat(any_goals(first|((with_reducible refine Q0b ?_ ?_);rfl;intro K hK;simp only[go_sem,h1,h2];((repeat(refine ndI (by first|assumption) ?_));refine hK _ ?_;clear hK K))|(with_reducible first|(refine Q0c ?_;refine hR _ ?_;clear hR R)|((first|refine Q0d ?_);intro J hJ hJ')|(refine Q0a ?_;intro R hR)|(refine hJ _ ?_;clear hJ hJ' J)|refine Q0j ?_)|((with_reducible refine hJ' _ _ ?_ ?_);(focus(simp;done));clear hJ hJ' J)|((with_reducible apply Q0s);rfl;rfl;rfl;all_goals(intro hb;first|(cases hb;done)|((try simp only[Bool.not_true,Bool.not_false] at hb);(first|((with_reducible intro K hK);simp only[go_sem,h1,h2];((repeat(refine ndI (by first|assumption) ?_));refine hK _ ?_;clear hK K))|((fail_if_success (with_reducible intro _));simp only[go_sem,h1,h2])))))|((with_reducible apply Q0e);rfl;rfl;all_goals(intro hc;first|(cases hc;done)|(try simp only at hc))))))
  all_goals(refine⟨by simp,⟨_,?_,AV.le_refl _⟩,Q0h (by simp[leH,hget])⟩;simp only[Tryz.results70,resL,ldA,Q0o,go_sem])
 |false=>
 cases a3 with
 |true=>
  (refine Q0v Tryz.func70 rfl (by rfl) ?_;simp only[Tryz.ntmps70,List.length_cons,List.length_nil,Nat.reduceAdd,Nat.reduceSub,List.replicate,List.cons_append,List.nil_append])
  (have W:=ndI h1 (ndI h2 h3);(repeat(any_goals(first|((with_reducible refine Q0b ?_ ?_);rfl;intro K hK;simp only[go_sem,W];((repeat(refine ndI (by first|assumption) ?_));refine hK _ ?_;clear hK K))|(with_reducible first|(refine Q0c ?_;refine hR _ ?_;clear hR R)|((first|refine Q0d ?_);intro J hJ hJ')|(refine Q0a ?_;intro R hR)|(refine hJ _ ?_;clear hJ hJ' J)|refine Q0j ?_)|((with_reducible refine hJ' _ _ ?_ ?_);(focus(simp;done));clear hJ hJ' J)|((with_reducible apply Q0s);rfl;rfl;rfl;all_goals(intro hb;first|(cases hb;done)|((try simp only[Bool.not_true,Bool.not_false] at hb);(first|((with_reducible intro K hK);simp only[go_sem,W];((repeat(refine ndI (by first|assumption) ?_));refine hK _ ?_;clear hK K))))))|((with_reducible apply Q0e);rfl;rfl;all_goals(intro hc;first|(cases hc;done)|(try simp only at hc)))))))
  all_goals(refine⟨by simp,⟨_,?_,AV.le_refl _⟩,Q0h (by simp[leH,hget])⟩;simp only[Tryz.results70,resL,ldA,Q0o,go_sem])
 |false=>cases h
theorem rright_in(e:Ev)(he:e.ok)(h1:decide (e.dep<0)=false)(h2:decide (e.dep≥6)=false)(h3:(e.self==0)=false):Fn Tryz.prog 70 [evA e] [] (vb (Q2m e)) []:=by
 obtain⟨hk,hv,hl,hb,hs,ht⟩:=he
 have er:Q2m e=(if e.kind=1 then decide (e.data.length=64∧e.val=dgN e.data)&&decide (e.to=0∧e.op=0∧e.key=0)
  else if e.kind=2∨e.kind=3 then decide (e.to=0∧e.op=0∧e.val=0∧e.data=[])
  else if e.kind=4 then(Q6h e.op&&decide (e.data.length≤1))&&decide (e.key=0)
  else if e.kind=5 then Q7z e.op&&X4g e
  else if e.kind=6 then X4g e
  else false):=by
   have hg:(decide (e.dep<0)||decide (e.dep≥6)||(e.self==0))=false:=by rw[h1,h2,h3];rfl
   unfold Q2m
   rw[hg]
   simp
 have n5:=X1o e.key hk
 have n6:=X1o e.val hv
 have dg:=rdigN_fn false e.data hl hb
 have tl:=rtold_fn e.op
 have w6:=X4m hv (dgN_lt e.data)
 have f3:=beqI e.to 0
 have f4:=beqN e.op 0
 have f7:=nilB e.data
 have f64:=beqN e.data.length 64
 have g1:=beqN e.op 241
 have g2:=beqN e.op 244
 have g3:=beqN e.op 245
 have g4:=beqN e.op 250
 have fc:Q6h e.op=(decide (e.op=241)||decide (e.op=244)||decide (e.op=245)||decide (e.op=250)):=by
  unfold Q6h
  rw[Bool.eq_iff_iff]
  simp
  omega
 have f1:decide ((e.data.length:Int)≤1)=decide (e.data.length≤1):=decide_eq_decide.2 (by omega)
 unfold X4g at er
 simp only[Bool.decide_and,fc] at er
 generalize dgN e.data=D at *
 generalize decide (e.to=0)=b3 at *
 generalize decide (e.op=0)=b4 at *
 generalize decide (e.key=0)=b5 at *
 generalize decide (e.val=0)=b6 at *
 generalize decide (e.data=[])=b7 at *
 generalize decide (e.data.length=64)=b64 at *
 generalize decide (e.val=D)=bD at *
 generalize decide (e.op=241)=o1 at *
 generalize decide (e.op=244)=o2 at *
 generalize decide (e.op=245)=o3 at *
 generalize decide (e.op=250)=o4 at *
 generalize Q7z e.op=bt at *
 generalize decide (e.data.length≤1)=b1 at *
 generalize Q2m e=r at *
 clear hk hv hl hb hs ht fc
 by_cases k1:e.kind=1
 · have er:r=(b64&&bD&&(b3&&(b4&&b5))):=by rw[er];rw[if_pos (by omega)]
   rw[er]
   clear er
   have q1:(e.kind==1)=true:=by rw[k1];rfl
   (refine Q0v Tryz.func70 rfl (by rfl) ?_;simp only[Tryz.ntmps70,List.length_cons,List.length_nil,Nat.reduceAdd,Nat.reduceSub,List.replicate,List.cons_append,List.nil_append])
   (have W:=ndI h1 (ndI h2 (ndI h3 (ndI f3 (ndI f4 (ndI f64 (ndI w6 q1))))));(repeat(any_goals(first|((with_reducible refine Q0b ?_ ?_);rfl;intro K hK;simp only[go_sem,W];((repeat(refine ndI (by first|assumption) ?_));refine hK _ ?_;clear hK K))|(with_reducible first|(refine Q0c ?_;refine hR _ ?_;clear hR R)|((first|refine Q0d ?_|refine Q0f ?_);intro J hJ hJ')|(refine Q0a ?_;intro R hR)|(refine hJ _ ?_;clear hJ hJ' J)|refine Q0g ?_|refine Q0j ?_)|((with_reducible refine hJ' _ _ ?_ ?_);(focus(simp;done));clear hJ hJ' J)|((with_reducible apply Q0s);rfl;rfl;rfl;all_goals(intro hb;first|(cases hb;done)|((try simp only[Bool.not_true,Bool.not_false] at hb);(first|((with_reducible intro K hK);(first|skip);simp only[go_sem,W];((repeat(refine ndI (by first|assumption) ?_));refine hK _ ?_;clear hK K))))))|((with_reducible apply Q0e);rfl;rfl;all_goals(intro hc;first|(cases hc;done)|(try simp only at hc)))|((with_reducible refine Q0y ?_ ?_);kernel_rfl;(with_reducible refine hR _ ?_);clear hR R)|((first|((with_reducible apply Q3v);rfl;rfl;rfl;rfl)|((first|((with_reducible apply Q3h);rfl;rfl;rfl;rfl;rfl));(first|((first|(apply Q0t (dg);rfl;rfl;rfl;rfl;exact Tryz.func112));kernel_rfl;rfl;(focus((simp only[go_sem,W]);(try rfl);done));(first|rfl))|((apply Q0t (n5);rfl;rfl;rfl;rfl;exact Tryz.func113);kernel_rfl;rfl;(focus((simp only[go_sem,W]);(try rfl);done));(first|rfl))))|((first|((with_reducible apply Q0x);rfl;rfl)|((with_reducible apply Q3b);rfl;rfl;rfl;rfl;rfl));(simp only[rdE,rdOf,go_sem,W];rfl);(intro τ hA hQ hN;((try simp only[Q1h,Op.operands,Call.operands,go_sem,W,go_sem,List.mem_cons,List.not_mem_nil,forall_eq_or_imp,forall_eq,List.append_toArray,Option.toArray] at hA);(try simp only[go_sem,W,List.mem_cons,List.not_mem_nil,forall_eq_or_imp,forall_eq] at hQ hN);(first|(revert hA;intro hA));(first|(revert hQ;intro hQ));(first|(revert hN;intro hN));simp only[go_sem,W,go_sem,hA,hQ,hN];(repeat(refine ndI (by first|assumption) ?_));(first|apply Q1b)))));(simp only[St.eff,setO,Q0w,go_sem,W]))|((with_reducible apply X6f);rfl;rfl;rfl;all_goals intro hb;all_goals(simp only[St.eff,setO,Q0w,go_sem,W]))|((with_reducible refine Q0u ?_ ?_ ?_ ?_);kernel_rfl;kernel_rfl;(first|kernel_rfl);intro R hR)))))
   all_goals(refine⟨by simp,⟨_,?_,AV.le_refl _⟩,Q0h (by simp[leH,hget])⟩;simp only[Tryz.results70,resL,ldA,Q0o,go_sem])
   all_goals clear n5 n6 dg tl h1 h2 h3 w6 f3 f4 f7 f64 g1 g2 g3 g4 f1
   all_goals simp_all
 by_cases k2:e.kind=2
 · have er:r=(b3&&(b4&&(b6&&b7))):=by rw[er];rw[if_neg (by omega)];rw[if_pos (by omega)]
   rw[er]
   clear er
   have q1:(e.kind==1)=false:=by rw[k2];rfl
   have q2:(e.kind==2)=true:=by rw[k2];rfl
   (refine Q0v Tryz.func70 rfl (by rfl) ?_;simp only[Tryz.ntmps70,List.length_cons,List.length_nil,Nat.reduceAdd,Nat.reduceSub,List.replicate,List.cons_append,List.nil_append])
   (have W:=ndI h1 (ndI h2 (ndI h3 (ndI f3 (ndI f4 (ndI f7 (ndI q1 q2))))));(repeat(any_goals(first|((with_reducible refine Q0b ?_ ?_);rfl;intro K hK;simp only[go_sem,W];((repeat(refine ndI (by first|assumption) ?_));refine hK _ ?_;clear hK K))|(with_reducible first|(refine Q0c ?_;refine hR _ ?_;clear hR R)|((first|refine Q0d ?_|refine Q0f ?_);intro J hJ hJ')|(refine Q0a ?_;intro R hR)|(refine hJ _ ?_;clear hJ hJ' J)|refine Q0g ?_|refine Q0j ?_)|((with_reducible refine hJ' _ _ ?_ ?_);(focus(simp;done));clear hJ hJ' J)|((with_reducible apply Q0s);rfl;rfl;rfl;all_goals(intro hb;first|(cases hb;done)|((try simp only[Bool.not_true,Bool.not_false] at hb);(first|((with_reducible intro K hK);(first|((apply Q0i (n6);rfl;rfl;rfl;rfl;exact Tryz.func113);kernel_rfl;rfl;(focus((simp only[go_sem,W]);(try rfl);done));(first|rfl))|skip);simp only[go_sem,W];((repeat(refine ndI (by first|assumption) ?_));refine hK _ ?_;clear hK K))|((fail_if_success (with_reducible intro _));simp only[go_sem,W])))))|((with_reducible apply Q0e);rfl;rfl;all_goals(intro hc;first|(cases hc;done)|(try simp only at hc)))))))
   all_goals(refine⟨by simp,⟨_,?_,AV.le_refl _⟩,Q0h (by simp[leH,hget])⟩;simp only[Tryz.results70,resL,ldA,Q0o,go_sem])
   all_goals clear n5 n6 dg tl h1 h2 h3 w6 f3 f4 f7 f64 g1 g2 g3 g4 f1
   all_goals simp_all
 by_cases k3:e.kind=3
 · have er:r=(b3&&(b4&&(b6&&b7))):=by rw[er];rw[if_neg (by omega)];rw[if_pos (by omega)]
   rw[er]
   clear er
   have q1:(e.kind==1)=false:=by rw[k3];rfl
   have q2:(e.kind==2)=false:=by rw[k3];rfl
   have q3:(e.kind==3)=true:=by rw[k3];rfl
   (refine Q0v Tryz.func70 rfl (by rfl) ?_;simp only[Tryz.ntmps70,List.length_cons,List.length_nil,Nat.reduceAdd,Nat.reduceSub,List.replicate,List.cons_append,List.nil_append])
   (have W:=ndI h1 (ndI h2 (ndI h3 (ndI f3 (ndI f4 (ndI f7 (ndI q1 (ndI q2 q3)))))));(repeat(any_goals(first|((with_reducible refine Q0b ?_ ?_);rfl;intro K hK;simp only[go_sem,W];((repeat(refine ndI (by first|assumption) ?_));refine hK _ ?_;clear hK K))|(with_reducible first|(refine Q0c ?_;refine hR _ ?_;clear hR R)|((first|refine Q0d ?_|refine Q0f ?_);intro J hJ hJ')|(refine Q0a ?_;intro R hR)|(refine hJ _ ?_;clear hJ hJ' J)|refine Q0g ?_|refine Q0j ?_)|((with_reducible refine hJ' _ _ ?_ ?_);(focus(simp;done));clear hJ hJ' J)|((with_reducible apply Q0s);rfl;rfl;rfl;all_goals(intro hb;first|(cases hb;done)|((try simp only[Bool.not_true,Bool.not_false] at hb);(first|((with_reducible intro K hK);(first|((apply Q0i (n6);rfl;rfl;rfl;rfl;exact Tryz.func113);kernel_rfl;rfl;(focus((simp only[go_sem,W]);(try rfl);done));(first|rfl))|skip);simp only[go_sem,W];((repeat(refine ndI (by first|assumption) ?_));refine hK _ ?_;clear hK K))|((fail_if_success (with_reducible intro _));simp only[go_sem,W])))))|((with_reducible apply Q0e);rfl;rfl;all_goals(intro hc;first|(cases hc;done)|(try simp only at hc)))))))
   all_goals(refine⟨by simp,⟨_,?_,AV.le_refl _⟩,Q0h (by simp[leH,hget])⟩;simp only[Tryz.results70,resL,ldA,Q0o,go_sem])
   all_goals clear n5 n6 dg tl h1 h2 h3 w6 f3 f4 f7 f64 g1 g2 g3 g4 f1
   all_goals simp_all
 by_cases k4:e.kind=4
 · have er:r=((o1||o2||o3||o4)&&b1&&b5):=by rw[er];rw[if_neg (by omega)];rw[if_neg (by omega)];rw[if_pos (by omega)]
   rw[er]
   clear er
   have q1:(e.kind==1)=false:=by rw[k4];rfl
   have q2:(e.kind==2)=false:=by rw[k4];rfl
   have q3:(e.kind==3)=false:=by rw[k4];rfl
   have q4:(e.kind==4)=true:=by rw[k4];rfl
   (refine Q0v Tryz.func70 rfl (by rfl) ?_;simp only[Tryz.ntmps70,List.length_cons,List.length_nil,Nat.reduceAdd,Nat.reduceSub,List.replicate,List.cons_append,List.nil_append])
   (have W:=ndI h1 (ndI h2 (ndI h3 (ndI g1 (ndI g2 (ndI g3 (ndI g4 (ndI f1 (ndI q1 (ndI q2 (ndI q3 q4))))))))));(repeat(any_goals(first|((with_reducible refine Q0b ?_ ?_);rfl;intro K hK;simp only[go_sem,W];((repeat(refine ndI (by first|assumption) ?_));refine hK _ ?_;clear hK K))|(with_reducible first|(refine Q0c ?_;refine hR _ ?_;clear hR R)|((first|refine Q0d ?_|refine Q0f ?_);intro J hJ hJ')|(refine Q0a ?_;intro R hR)|(refine hJ _ ?_;clear hJ hJ' J)|refine Q0g ?_|refine Q0j ?_)|((with_reducible refine hJ' _ _ ?_ ?_);(focus(simp;done));clear hJ hJ' J)|((with_reducible apply Q0s);rfl;rfl;rfl;all_goals(intro hb;first|(cases hb;done)|((try simp only[Bool.not_true,Bool.not_false] at hb);(first|((with_reducible intro K hK);(first|((apply Q0i (n5);rfl;rfl;rfl;rfl;exact Tryz.func113);kernel_rfl;rfl;(focus((simp only[go_sem,W]);(try rfl);done));(first|rfl))|skip);simp only[go_sem,W];((repeat(refine ndI (by first|assumption) ?_));refine hK _ ?_;clear hK K))|((fail_if_success (with_reducible intro _));simp only[go_sem,W])))))|((with_reducible apply Q0e);rfl;rfl;all_goals(intro hc;first|(cases hc;done)|(try simp only at hc)))))))
   all_goals(refine⟨by simp,⟨_,?_,AV.le_refl _⟩,Q0h (by simp[leH,hget])⟩;simp only[Tryz.results70,resL,ldA,Q0o,go_sem])
   all_goals clear n5 n6 dg tl h1 h2 h3 w6 f3 f4 f7 f64 g1 g2 g3 g4 f1
   all_goals simp_all
 by_cases k5:e.kind=5
 · have er:r=(bt&&(b3&&(b5&&(b6&&b7)))):=by rw[er];rw[if_neg (by omega)];rw[if_neg (by omega)];rw[if_neg (by omega)];rw[if_pos (by omega)]
   rw[er]
   clear er
   have q1:(e.kind==1)=false:=by rw[k5];rfl
   have q2:(e.kind==2)=false:=by rw[k5];rfl
   have q3:(e.kind==3)=false:=by rw[k5];rfl
   have q4:(e.kind==4)=false:=by rw[k5];rfl
   have q5:(e.kind==5)=true:=by rw[k5];rfl
   (refine Q0v Tryz.func70 rfl (by rfl) ?_;simp only[Tryz.ntmps70,List.length_cons,List.length_nil,Nat.reduceAdd,Nat.reduceSub,List.replicate,List.cons_append,List.nil_append])
   (have W:=ndI h1 (ndI h2 (ndI h3 (ndI f3 (ndI f7 (ndI q1 (ndI q2 (ndI q3 (ndI q4 q5))))))));(repeat(any_goals(first|((with_reducible refine Q0l ?_ ?_ ?_);rfl;rfl;intro K hK;(first|((first|(apply Q0i (tl);rfl;rfl;rfl;rfl;exact Tryz.func114));kernel_rfl;rfl;(focus((simp only[go_sem,W]);(try rfl);done));(first|rfl)));(simp only[go_sem,W];refine hK _ ?_;clear hK K))|((with_reducible refine Q0b ?_ ?_);rfl;intro K hK;simp only[go_sem,W];((repeat(refine ndI (by first|assumption) ?_));refine hK _ ?_;clear hK K))|(with_reducible first|(refine Q0c ?_;refine hR _ ?_;clear hR R)|((first|refine Q0d ?_|refine Q0f ?_);intro J hJ hJ')|(refine Q0a ?_;intro R hR)|(refine hJ _ ?_;clear hJ hJ' J)|refine Q0g ?_|refine Q0j ?_)|((with_reducible refine hJ' _ _ ?_ ?_);(focus(simp;done));clear hJ hJ' J)|((with_reducible apply Q0s);rfl;rfl;rfl;all_goals(intro hb;first|(cases hb;done)|((try simp only[Bool.not_true,Bool.not_false] at hb);(first|((with_reducible intro K hK);(first|((apply Q0i (n5);rfl;rfl;rfl;rfl;exact Tryz.func113);kernel_rfl;rfl;(focus((simp only[go_sem,W]);(try rfl);done));(first|rfl))|((apply Q0i (n6);rfl;rfl;rfl;rfl;exact Tryz.func113);kernel_rfl;rfl;(focus((simp only[go_sem,W]);(try rfl);done));(first|rfl))|skip);simp only[go_sem,W];((repeat(refine ndI (by first|assumption) ?_));refine hK _ ?_;clear hK K))|((fail_if_success (with_reducible intro _));simp only[go_sem,W])))))|((with_reducible apply Q0e);rfl;rfl;all_goals(intro hc;first|(cases hc;done)|(try simp only at hc)))))))
   all_goals(refine⟨by simp,⟨_,?_,AV.le_refl _⟩,Q0h (by simp[leH,hget])⟩;simp only[Tryz.results70,resL,ldA,Q0o,go_sem])
   all_goals clear n5 n6 dg tl h1 h2 h3 w6 f3 f4 f7 f64 g1 g2 g3 g4 f1
   all_goals simp_all
 by_cases k6:e.kind=6
 · have er:r=(b3&&(b5&&(b6&&b7))):=by rw[er];rw[if_neg (by omega)];rw[if_neg (by omega)];rw[if_neg (by omega)];rw[if_neg (by omega)];rw[if_pos (by omega)]
   rw[er]
   clear er
   have q1:(e.kind==1)=false:=by rw[k6];rfl
   have q2:(e.kind==2)=false:=by rw[k6];rfl
   have q3:(e.kind==3)=false:=by rw[k6];rfl
   have q4:(e.kind==4)=false:=by rw[k6];rfl
   have q5:(e.kind==5)=false:=by rw[k6];rfl
   have q6:(e.kind==6)=true:=by rw[k6];rfl
   (refine Q0v Tryz.func70 rfl (by rfl) ?_;simp only[Tryz.ntmps70,List.length_cons,List.length_nil,Nat.reduceAdd,Nat.reduceSub,List.replicate,List.cons_append,List.nil_append])
   (have W:=ndI h1 (ndI h2 (ndI h3 (ndI f3 (ndI f7 (ndI q1 (ndI q2 (ndI q3 (ndI q4 (ndI q5 q6)))))))));(repeat(any_goals(first|((with_reducible refine Q0b ?_ ?_);rfl;intro K hK;simp only[go_sem,W];((repeat(refine ndI (by first|assumption) ?_));refine hK _ ?_;clear hK K))|(with_reducible first|(refine Q0c ?_;refine hR _ ?_;clear hR R)|((first|refine Q0d ?_|refine Q0f ?_);intro J hJ hJ')|(refine Q0a ?_;intro R hR)|(refine hJ _ ?_;clear hJ hJ' J)|refine Q0g ?_|refine Q0j ?_)|((with_reducible refine hJ' _ _ ?_ ?_);(focus(simp;done));clear hJ hJ' J)|((with_reducible apply Q0s);rfl;rfl;rfl;all_goals(intro hb;first|(cases hb;done)|((try simp only[Bool.not_true,Bool.not_false] at hb);(first|((with_reducible intro K hK);(first|((apply Q0i (n5);rfl;rfl;rfl;rfl;exact Tryz.func113);kernel_rfl;rfl;(focus((simp only[go_sem,W]);(try rfl);done));(first|rfl))|((apply Q0i (n6);rfl;rfl;rfl;rfl;exact Tryz.func113);kernel_rfl;rfl;(focus((simp only[go_sem,W]);(try rfl);done));(first|rfl))|skip);simp only[go_sem,W];((repeat(refine ndI (by first|assumption) ?_));refine hK _ ?_;clear hK K))|((fail_if_success (with_reducible intro _));simp only[go_sem,W])))))|((with_reducible apply Q0e);rfl;rfl;all_goals(intro hc;first|(cases hc;done)|(try simp only at hc)))))))
   all_goals(refine⟨by simp,⟨_,?_,AV.le_refl _⟩,Q0h (by simp[leH,hget])⟩;simp only[Tryz.results70,resL,ldA,Q0o,go_sem])
   all_goals clear n5 n6 dg tl h1 h2 h3 w6 f3 f4 f7 f64 g1 g2 g3 g4 f1
   all_goals simp_all
 have er:r=false:=by rw[er,if_neg k1,if_neg (by omega),if_neg k4,if_neg k5,if_neg k6]
 rw[er]
 have q1:(e.kind==1)=false:=by simpa using k1
 have q2:(e.kind==2)=false:=by simpa using k2
 have q3:(e.kind==3)=false:=by simpa using k3
 have q4:(e.kind==4)=false:=by simpa using k4
 have q5:(e.kind==5)=false:=by simpa using k5
 have q6:(e.kind==6)=false:=by simpa using k6
 (refine Q0v Tryz.func70 rfl (by rfl) ?_;simp only[Tryz.ntmps70,List.length_cons,List.length_nil,Nat.reduceAdd,Nat.reduceSub,List.replicate,List.cons_append,List.nil_append])
 (have W:=ndI h1 (ndI h2 (ndI h3 (ndI q1 (ndI q2 (ndI q3 (ndI q4 (ndI q5 q6)))))));(repeat(any_goals(first|((with_reducible refine Q0b ?_ ?_);rfl;intro K hK;simp only[go_sem,W];((repeat(refine ndI (by first|assumption) ?_));refine hK _ ?_;clear hK K))|(with_reducible first|(refine Q0c ?_;refine hR _ ?_;clear hR R)|((first|refine Q0d ?_|refine Q0f ?_);intro J hJ hJ')|(refine Q0a ?_;intro R hR)|(refine hJ _ ?_;clear hJ hJ' J)|refine Q0g ?_|refine Q0j ?_)|((with_reducible refine hJ' _ _ ?_ ?_);(focus(simp;done));clear hJ hJ' J)|((with_reducible apply Q0s);rfl;rfl;rfl;all_goals(intro hb;first|(cases hb;done)|((try simp only[Bool.not_true,Bool.not_false] at hb);(first|((with_reducible intro K hK);simp only[go_sem,W];((repeat(refine ndI (by first|assumption) ?_));refine hK _ ?_;clear hK K))))))|((with_reducible apply Q0e);rfl;rfl;all_goals(intro hc;first|(cases hc;done)|(try simp only at hc)))))))
 all_goals(refine⟨by simp,⟨_,?_,AV.le_refl _⟩,Q0h (by simp[leH,hget])⟩;simp only[Tryz.results70,resL,ldA,Q0o,go_sem])
end
section
open Go.RowKit
open Nat (reduceBEq)
attribute [-go_sem] IntKind.bits
set_option maxRecDepth 20000
set_option maxHeartbeats 4000000
theorem X7b(e:Ev)(he:e.ok):Fn Tryz.prog 70 [evA e] [] (vb (Q2m e)) []:=by
 by_cases hg:(decide (e.dep<0)||decide (e.dep≥6)||(e.self==0))=true
 · rw[show Q2m e=false by unfold Q2m;rw[hg];rfl]
   exact Z0u e _ _ _ rfl rfl rfl hg
 · have hg':(decide (e.dep<0)||decide (e.dep≥6)||(e.self==0))=false:=by simpa using hg
   rw[Bool.or_eq_false_iff,Bool.or_eq_false_iff] at hg'
   exact rright_in e he hg'.1.1 hg'.1.2 hg'.2
theorem rRight_fn(l:List Ev)(hl:l.length≤1000000)(ho:∀e∈l,e.ok):Fn Tryz.prog 39 [evs false l] [] (vb (trB l)) []:=by
 obtain⟨b,hb⟩:∃b,decide (l.length≤2000)=b:=⟨_,rfl⟩
 have k0:decide ((l.length:Int)≤2000)=b:=by rw[←hb];exact decide_eq_decide.2 (by omega)
 obtain⟨r,hr⟩:∃r,l.all Q2m=r:=⟨_,rfl⟩
 have et:trB l=(b&&r):=by unfold trB;rw[hb,hr]
 rw[et]
 clear et hb
 (refine Q0v Tryz.func39 rfl (by rfl) ?_;simp only[Tryz.ntmps39,List.length_cons,List.length_nil,Nat.reduceAdd,Nat.reduceSub,List.replicate,List.cons_append,List.nil_append])
 (repeat(any_goals(first|((with_reducible refine Q0b ?_ ?_);rfl;intro K hK;simp only[go_sem];((repeat(refine ndI (by first|assumption) ?_));refine hK _ ?_;clear hK K))|(with_reducible first|(refine Q0c ?_;refine hR _ ?_;clear hR R)|((first|refine Q0d ?_|refine Q0f ?_);intro J hJ hJ')|(refine Q0a ?_;intro R hR)|(refine hJ _ ?_;clear hJ hJ' J)))))
 refine Q1m (α:={i:Nat // i≤l.length∧(l.drop i).all Q2m=r}) (fun q=>⟨[evs false l,.any,vb false,vi .i64 (q.1:Int),.any,.any,.any,.any,.any,.any,.any,.any,.any,.any,.any,.any,.any,.any,.any],[]⟩) (fun q=>l.length-q.1) ⟨0,Nat.zero_le _,hr⟩ (St.le_of (by simp[leT]) (by simp[leH])) ?_
 rintro ⟨i,hi,hd⟩ J hJ hJ'
 (try dsimp only at hJ ⊢)
 rcases Nat.lt_or_ge i l.length with hlt|hge
 · obtain⟨y,hy⟩:∃y,l[i]? = some y:=⟨_,List.getElem?_eq_getElem hlt⟩
   have k1:(decide ((i:Int)<(l.length:Int)))=true:=by simp;omega
   have k2:=X1c hy
   have k7:(i:Int)+1=((i+1:Nat):Int):=by omega
   have hdr:l.drop i=y::l.drop (i+1):=by
    rw[List.drop_eq_getElem_cons hlt]
    rw[List.getElem?_eq_getElem hlt] at hy
    rw[Option.some.inj hy]
   have hp1:=X7b y (ho y (List.mem_of_getElem? hy))
   rw[hdr,List.all_cons] at hd
   cases hxy:Q2m y
   · rw[hxy] at hp1 hd
     have hd:r=false:=hd.symm
     (have W:=ndI k1 (ndI k2 (ndI k7 @wrI));(repeat(any_goals(first|((with_reducible refine Q0l ?_ ?_ ?_);rfl;rfl;intro K hK;((apply Q0i (hp1);rfl;rfl;rfl;rfl;exact Tryz.func70);kernel_rfl;rfl;(focus((simp(disch:=omega) only[go_sem,W,Nat.mul_one]);(try rfl);done));(first|rfl));(simp(disch:=omega) only[go_sem,W,Nat.mul_one];refine hK _ ?_;clear hK K))|((with_reducible refine Q0b ?_ ?_);rfl;intro K hK;simp(disch:=omega) only[go_sem,W,Nat.mul_one];((repeat(refine ndI (by first|assumption|omega|rfl) ?_));refine hK _ ?_;clear hK K))|(with_reducible first|(refine Q0c ?_;refine hR _ ?_;clear hR R)|((first|refine Q0d ?_|refine Q0f ?_);intro J hJ hJ')|(refine Q0a ?_;intro R hR)|(refine hJ _ ?_;clear hJ hJ' J)|refine Q0g ?_|refine Q0j ?_)|((with_reducible refine hJ' _ _ ?_ ?_);(focus(simp;done));clear hJ hJ' J)|((with_reducible apply Q0e);rfl;rfl;all_goals(intro hc;first|(cases hc;done)|(try simp only at hc)))))))
     all_goals rw[hd,Bool.and_false]
     all_goals(refine⟨by simp,⟨_,?_,AV.le_refl _⟩,Q0h (by simp[leH,hget])⟩;simp only[Tryz.results39,resL,ldA,Q0o,go_sem])
   · rw[hxy,Bool.true_and] at hd
     rw[hxy] at hp1
     have hJ1:=fun σ'=>hJ σ' ⟨i+1,hlt,hd⟩ (by dsimp only;omega)
     dsimp only at hJ1
     (have W:=ndI k1 (ndI k2 (ndI k7 @wrI));(repeat(any_goals(first|((with_reducible refine Q0l ?_ ?_ ?_);rfl;rfl;intro K hK;((apply Q0i (hp1);rfl;rfl;rfl;rfl;exact Tryz.func70);kernel_rfl;rfl;(focus((simp(disch:=omega) only[go_sem,W,Nat.mul_one]);(try rfl);done));(first|rfl));(simp(disch:=omega) only[go_sem,W,Nat.mul_one];refine hK _ ?_;clear hK K))|((with_reducible refine Q0b ?_ ?_);rfl;intro K hK;simp(disch:=omega) only[go_sem,W,Nat.mul_one];((repeat(refine ndI (by first|assumption|omega|rfl) ?_));refine hK _ ?_;clear hK K))|(with_reducible first|(refine Q0c ?_;refine hR _ ?_;clear hR R)|((first|refine Q0d ?_|refine Q0f ?_);intro J hJ hJ')|(refine Q0a ?_;intro R hR)|(refine hJ _ ?_;clear hJ hJ' J)|refine Q0g ?_)|((with_reducible refine hJ' _ _ ?_ ?_);(focus(simp;done));clear hJ hJ' J)|((with_reducible apply Q0e);rfl;rfl;all_goals(intro hc;first|(cases hc;done)|(try simp only at hc)))))))
     all_goals exact hJ1 _ (St.le_of (by simp[leT]) (by simp[leH]))
 · have k1:(decide ((i:Int)<(l.length:Int)))=false:=by simp;omega
   rw[List.drop_eq_nil_of_le hge] at hd
   have hd:r=true:=hd.symm
   (repeat(any_goals(first|((with_reducible refine Q0b ?_ ?_);rfl;intro K hK;simp only[go_sem,k1,k0];((repeat(refine ndI (by first|assumption) ?_));refine hK _ ?_;clear hK K))|(with_reducible first|(refine Q0c ?_;refine hR _ ?_;clear hR R)|((first|refine Q0d ?_);intro J hJ hJ')|(refine Q0a ?_;intro R hR)|(refine hJ _ ?_;clear hJ hJ' J)|refine Q0j ?_|refine Q0p ?_)|((with_reducible refine hJ' _ _ ?_ ?_);(focus(simp;done));clear hJ hJ' J)|((with_reducible apply Q0e);rfl;rfl;all_goals(intro hc;first|(cases hc;done)|(try simp only at hc))))))
   all_goals rw[hd,Bool.and_true]
   all_goals(refine⟨by simp,⟨_,?_,AV.le_refl _⟩,Q0h (by simp[leH,hget])⟩;simp only[Tryz.results39,resL,ldA,Q0o,go_sem])
theorem rsev_fnE(k d s t o a0 a1 a2 a3 v0 v1 v2 v3 k' d' s' t' o' a0' a1' a2' a3' v0' v1' v2' v3':Int)(x y:List Nat)(hl:x.length≤1000000)(b1 b2 b3 b4 b5 b6 b7:Bool)(h1:(k==k')=b1)(h2:(d==d')=b2)(h3:(s==s')=b3)(h4:(t==t')=b4)(h5:(o==o')=b5)
 (h6:(a0==a0'&&(a1==a1'&&(a2==a2'&&a3==a3')))=b6) (h7:(v0==v0'&&(v1==v1'&&(v2==v2'&&v3==v3')))=b7) :
 Fn Tryz.prog 92 [.agg (c14 k d s t o a0 a1 a2 a3 v0 v1 v2 v3 (bsl false x)),.agg (c14 k' d' s' t' o' a0' a1' a2' a3' v0' v1' v2' v3' (bsl false y))] [] (vb (decide (x=y)&&(b1&&(b2&&(b3&&(b4&&(b5&&(b6&&b7)))))))) []:=by
 by_cases hlen:x.length=y.length
 · have k0:((x.length:Int) != (y.length:Int))=false:=by rw[hlen];simp
   obtain⟨r,hr⟩:∃r,decide (x=y)=r:=⟨_,rfl⟩
   obtain⟨f,hf⟩:∃f,(r&&(b1&&(b2&&(b3&&(b4&&(b5&&(b6&&b7)))))))=f:=⟨_,rfl⟩
   rw[hr,hf]
   (refine Q0v Tryz.func92 rfl (by rfl) ?_;simp only[Tryz.ntmps92,List.length_cons,List.length_nil,Nat.reduceAdd,Nat.reduceSub,List.replicate,List.cons_append,List.nil_append])
   (repeat(any_goals(first|((with_reducible refine Q0b ?_ ?_);rfl;intro K hK;simp only[go_sem,k0];((repeat(refine ndI (by first|assumption) ?_));refine hK _ ?_;clear hK K))|(with_reducible first|(refine Q0c ?_;refine hR _ ?_;clear hR R)|((first|refine Q0d ?_|refine Q0f ?_);intro J hJ hJ')|(refine Q0a ?_;intro R hR)|(refine hJ _ ?_;clear hJ hJ' J)|refine Q0g ?_)|((with_reducible apply Q0e);rfl;rfl;all_goals(intro hc;first|(cases hc;done)|(try simp only at hc))))))
   refine Q1m (α:={i:Nat // i≤x.length∧∀j,j<i→x[j]? = y[j]?}) (fun p=>⟨[.any,.any,.ptr 2 0,.ptr 3 0,vb false,vi .i64 (p.1:Int),.any,.any,.any,.any,.any,.any,.any,.any,.any,.any,.any,.any,.any,.any,.any,.any,.any,.any,.any,.any,.any,.any,.any,.any,.any,.any,.any,.any,.any,.any,.any,.any,.any,.any,.any,.any,.any,.any,.any,.any,.any,.any,.any,.any,.any,.any,.any,.any,.any,.any,.any,.any,.any,.any,.any,.any,.any,.any,.any,.any,.any,.any,.any,.any,.any,.any,.any,.any,.any,.any,.any,.any],[(2,c14 k d s t o a0 a1 a2 a3 v0 v1 v2 v3 (bsl false x)),(3,c14 k' d' s' t' o' a0' a1' a2' a3' v0' v1' v2' v3' (bsl false y))]⟩) (fun p=>x.length-p.1) ⟨0,Nat.zero_le _,fun j hj=>by omega⟩ (St.le_of (by simp[leT]) (by simp[leH,hget])) ?_
   rintro ⟨i,hi,hno⟩ J hJ hJ'
   (try dsimp only at hi hJ ⊢)
   rcases Nat.lt_or_ge i x.length with hlt|hge
   · have k1:(decide ((i:Int)<(x.length:Int)))=true:=decide_eq_true (by omega)
     have k7:(i:Int)+1=((i+1:Nat):Int):=by omega
     obtain⟨p,hx⟩:∃p,x[i]? = some p:=⟨_,List.getElem?_eq_getElem hlt⟩
     obtain⟨q,hy⟩:∃q,y[i]? = some q:=⟨_,List.getElem?_eq_getElem (by omega)⟩
     have hly:i<y.length:=by omega
     have k2:=X0s hx
     have k3:=X0s hy
     by_cases hxy:p=q
     · have k4:((p:Int) != (q:Int))=false:=by rw[hxy];simp
       clear h1 h2 h3 h4 h5 h6 h7
       (have W:=ndI k1 (ndI k2 (ndI k3 (ndI k4 (ndI k7 @wrI))));(repeat(any_goals(first|((with_reducible refine Q0b ?_ ?_);rfl;intro K hK;simp(disch:=omega) only[go_sem,W,Nat.mul_one];((repeat(refine ndI (by first|assumption|rfl) ?_));refine hK _ ?_;clear hK K))|(with_reducible first|(refine Q0c ?_;refine hR _ ?_;clear hR R)|((first|refine Q0d ?_|refine Q0f ?_);intro J hJ hJ')|(refine Q0a ?_;intro R hR)|(refine hJ _ ?_;clear hJ hJ' J)|refine Q0g ?_)|((with_reducible refine hJ' _ _ ?_ ?_);(focus(simp;done));clear hJ hJ' J)|((with_reducible apply Q0e);rfl;rfl;all_goals(intro hc;first|(cases hc;done)|(try simp only at hc)))|((with_reducible refine Q0y ?_ ?_);kernel_rfl;(with_reducible refine hR _ ?_);clear hR R)|(((with_reducible apply Q0x);rfl;rfl;(simp(disch:=omega) only[rdE,rdOf,go_sem,W,Nat.mul_one];rfl);(intro τ hA hQ hN;((try simp only[Q1h,Op.operands,Call.operands,go_sem,W,Nat.mul_one,go_sem,List.mem_cons,List.not_mem_nil,forall_eq_or_imp,forall_eq,List.append_toArray,Option.toArray] at hA);(try simp only[go_sem,W,Nat.mul_one,List.mem_cons,List.not_mem_nil,forall_eq_or_imp,forall_eq] at hQ hN);(first|(revert hA;intro hA));(first|(revert hQ;intro hQ));(first|(revert hN;intro hN));simp(disch:=omega) only[go_sem,W,Nat.mul_one,go_sem,hA,hQ,hN];(repeat(refine ndI (by first|assumption|omega|rfl) ?_));(first|apply Q1b))));(simp(disch:=omega) only[St.eff,setO,Q0w,go_sem,W,Nat.mul_one]))|((with_reducible refine Q0u ?_ ?_ ?_ ?_);kernel_rfl;kernel_rfl;(first|kernel_rfl);intro R hR)))))
       all_goals exact hJ _ ⟨i+1,hlt,fun j hj=>by
        rcases Nat.lt_or_ge j i with h'|h'
        · exact hno j h'
        · obtain rfl:j=i:=by omega
          rw[hx,hy,hxy]⟩ (by simp only;omega) (St.le_of (by simp[leT]) (by simp[leH,hget]))
     · have k4:((p:Int) != (q:Int))=true:=by rw[bne_iff_ne];omega
       have hrf:r=false:=by
        rw[←hr,decide_eq_false_iff_not]
        intro e;rw[e,hy] at hx;cases hx;exact hxy rfl
       have hff:f=false:=by rw[←hf,hrf,Bool.false_and]
       clear h1 h2 h3 h4 h5 h6 h7
       (have W:=ndI k1 (ndI k2 (ndI k3 (ndI k4 (ndI k7 @wrI))));(repeat(any_goals(first|((with_reducible refine Q0b ?_ ?_);rfl;intro K hK;simp(disch:=omega) only[go_sem,W,Nat.mul_one];((repeat(refine ndI (by first|assumption|rfl) ?_));refine hK _ ?_;clear hK K))|(with_reducible first|(refine Q0c ?_;refine hR _ ?_;clear hR R)|((first|refine Q0d ?_|refine Q0f ?_);intro J hJ hJ')|(refine Q0a ?_;intro R hR)|(refine hJ _ ?_;clear hJ hJ' J)|refine Q0g ?_|refine Q0j ?_)|((with_reducible refine hJ' _ _ ?_ ?_);(focus(simp;done));clear hJ hJ' J)|((with_reducible apply Q0e);rfl;rfl;all_goals(intro hc;first|(cases hc;done)|(try simp only at hc)))|((with_reducible refine Q0y ?_ ?_);kernel_rfl;(with_reducible refine hR _ ?_);clear hR R)|(((with_reducible apply Q0x);rfl;rfl;(simp(disch:=omega) only[rdE,rdOf,go_sem,W,Nat.mul_one];rfl);(intro τ hA hQ hN;((try simp only[Q1h,Op.operands,Call.operands,go_sem,W,Nat.mul_one,go_sem,List.mem_cons,List.not_mem_nil,forall_eq_or_imp,forall_eq,List.append_toArray,Option.toArray] at hA);(try simp only[go_sem,W,Nat.mul_one,List.mem_cons,List.not_mem_nil,forall_eq_or_imp,forall_eq] at hQ hN);(first|(revert hA;intro hA));(first|(revert hQ;intro hQ));(first|(revert hN;intro hN));simp(disch:=omega) only[go_sem,W,Nat.mul_one,go_sem,hA,hQ,hN];(repeat(refine ndI (by first|assumption|omega|rfl) ?_));(first|apply Q1b))));(simp(disch:=omega) only[St.eff,setO,Q0w,go_sem,W,Nat.mul_one]))|((with_reducible refine Q0u ?_ ?_ ?_ ?_);kernel_rfl;kernel_rfl;(first|kernel_rfl);intro R hR)))))
       all_goals rw[hff]
       all_goals(refine⟨by simp,⟨_,?_,AV.le_refl _⟩,Q0h (by simp[leH,hget])⟩;simp only[Tryz.results92,resL,ldA,Q0o,go_sem])
   · have k1:(decide ((i:Int)<(x.length:Int)))=false:=decide_eq_false (by omega)
     have hrt:r=true:=by
      rw[←hr,decide_eq_true_iff]
      refine List.ext_getElem? fun j=>?_
      rcases Nat.lt_or_ge j x.length with h|h
      · exact hno j (by omega)
      · rw[List.getElem?_eq_none h,List.getElem?_eq_none (by omega)]
     have hff:f=(b1&&(b2&&(b3&&(b4&&(b5&&(b6&&b7)))))):=by rw[←hf,hrt,Bool.true_and]
     clear hr hno hf hrt
     (have W:=ndI k1 (ndI h1 (ndI h2 (ndI h3 (ndI h4 (ndI h5 (ndI h6 h7))))));(repeat(any_goals(first|((with_reducible refine Q0b ?_ ?_);rfl;intro K hK;simp only[go_sem,W];((repeat(refine ndI (by first|assumption) ?_));refine hK _ ?_;clear hK K))|(with_reducible first|(refine Q0c ?_;refine hR _ ?_;clear hR R)|((first|refine Q0d ?_);intro J hJ hJ')|(refine Q0a ?_;intro R hR)|(refine hJ _ ?_;clear hJ hJ' J)|refine Q0j ?_|refine Q0p ?_)|((with_reducible refine hJ' _ _ ?_ ?_);(focus(simp;done));clear hJ hJ' J)|((with_reducible apply Q0s);rfl;rfl;rfl;all_goals(intro hb;first|(cases hb;done)|((try simp only[Bool.not_true,Bool.not_false] at hb);(first|((with_reducible intro K hK);simp only[go_sem,W];((repeat(refine ndI (by first|assumption) ?_));refine hK _ ?_;clear hK K))|((fail_if_success (with_reducible intro _));simp only[go_sem,W])))))|((with_reducible apply Q0e);rfl;rfl;all_goals(intro hc;first|(cases hc;done)|(try simp only at hc)))))))
     all_goals rw[hff]
     all_goals(refine⟨by simp,⟨_,?_,AV.le_refl _⟩,Q0h (by simp[leH,hget])⟩;simp only[Tryz.results92,resL,ldA,Q0o,go_sem])
     all_goals clear k0 k1 hlen hl h1 h2 h3 h4 h5 h6 h7
     all_goals simp_all
 · have k0:((x.length:Int) != (y.length:Int))=true:=by simp;omega
   have he:decide (x=y)=false:=by rw[decide_eq_false_iff_not];intro e;exact hlen (by rw[e])
   rw[he,Bool.false_and]
   clear h1 h2 h3 h4 h5 h6 h7
   (refine Q0v Tryz.func92 rfl (by rfl) ?_;simp only[Tryz.ntmps92,List.length_cons,List.length_nil,Nat.reduceAdd,Nat.reduceSub,List.replicate,List.cons_append,List.nil_append])
   (repeat(any_goals(first|((with_reducible refine Q0b ?_ ?_);rfl;intro K hK;simp only[go_sem,k0];((repeat(refine ndI (by first|assumption) ?_));refine hK _ ?_;clear hK K))|(with_reducible first|(refine Q0c ?_;refine hR _ ?_;clear hR R)|((first|refine Q0d ?_);intro J hJ hJ')|(refine Q0a ?_;intro R hR)|(refine hJ _ ?_;clear hJ hJ' J)|refine Q0j ?_)|((with_reducible refine hJ' _ _ ?_ ?_);(focus(simp;done));clear hJ hJ' J)|((with_reducible apply Q0e);rfl;rfl;all_goals(intro hc;first|(cases hc;done)|(try simp only at hc))))))
   all_goals(refine⟨by simp,⟨_,?_,AV.le_refl _⟩,Q0h (by simp[leH,hget])⟩;simp only[Tryz.results92,resL,ldA,Q0o,go_sem])
theorem rsev_fn(x y:Ev)(hx:x.ok)(hy:y.ok):Fn Tryz.prog 92 [evA x,evA y] [] (vb (decide (x=y))) []:=by
 have h:=rsev_fnE x.kind x.dep x.self x.to (x.op:Int) (l0 x.key) (l1 x.key) (l2 x.key) (l3 x.key) (l0 x.val) (l1 x.val) (l2 x.val) (l3 x.val) y.kind y.dep y.self y.to (y.op:Int) (l0 y.key) (l1 y.key) (l2 y.key) (l3 y.key) (l0 y.val) (l1 y.val) (l2 y.val) (l3 y.val) x.data y.data (Nat.le_trans hx.2.2.1 (by omega)) _ _ _ _ _ _ _ rfl rfl rfl rfl rfl (X4m hx.1 hy.1) (X4m hx.2.1 hy.2.1)
 have e:(decide (x.data=y.data)&&((x.kind==y.kind)&&((x.dep==y.dep)&&((x.self==y.self)&&((x.to==y.to)&&(((x.op:Int)==(y.op:Int))&&(decide (x.key=y.key)&&decide (x.val=y.val))))))))=decide (x=y):=by
  rw[Bool.eq_iff_iff]
  obtain⟨a1,a2,a3,a4,a5,a6,a7,a8⟩:=x
  obtain⟨b1,b2,b3,b4,b5,b6,b7,b8⟩:=y
  simp[and_assoc]
  constructor
  · rintro ⟨g1,g2,g3,g4,g5,g6,g7,g8⟩
    exact⟨g2,g3,g4,g5,by omega,g7,g8,g1⟩
  · rintro ⟨g2,g3,g4,g5,g6,g7,g8,g1⟩
    exact⟨g1,g2,g3,g4,g5,by omega,g7,g8⟩
 rw[e] at h
 exact h
theorem rSame_fn(a b:List Ev)(hl:a.length≤1000000)(ha:∀e∈a,e.ok)(hb:∀e∈b,e.ok):Fn Tryz.prog 59 [evs false a,evs false b] [] (vb (decide (a=b))) []:=by
 by_cases hlen:a.length=b.length
 · have k0:((a.length:Int) != (b.length:Int))=false:=by rw[hlen];simp
   obtain⟨r,hr⟩:∃r,decide (a=b)=r:=⟨_,rfl⟩
   rw[hr]
   (refine Q0v Tryz.func59 rfl (by rfl) ?_;simp only[Tryz.ntmps59,List.length_cons,List.length_nil,Nat.reduceAdd,Nat.reduceSub,List.replicate,List.cons_append,List.nil_append])
   (repeat(any_goals(first|((with_reducible refine Q0b ?_ ?_);rfl;intro K hK;simp only[go_sem,k0];((repeat(refine ndI (by first|assumption) ?_));refine hK _ ?_;clear hK K))|(with_reducible first|(refine Q0c ?_;refine hR _ ?_;clear hR R)|((first|refine Q0d ?_|refine Q0f ?_);intro J hJ hJ')|(refine Q0a ?_;intro R hR)|(refine hJ _ ?_;clear hJ hJ' J)|refine Q0g ?_)|((with_reducible apply Q0e);rfl;rfl;all_goals(intro hc;first|(cases hc;done)|(try simp only at hc))))))
   refine Q1m (α:={i:Nat // i≤a.length∧∀j,j<i→a[j]? = b[j]?}) (fun p=>⟨[evs false a,evs false b,.any,.any,vb false,vi .i64 (p.1:Int),.any,.any,.any,.any,.any,.any,.any,.any,.any,.any,.any,.any,.any,.any,.any,.any,.any,.any,.any,.any,.any],[]⟩) (fun p=>a.length-p.1) ⟨0,Nat.zero_le _,fun j hj=>by omega⟩ (St.le_of (by simp[leT]) (by simp[leH])) ?_
   rintro ⟨i,hi,hno⟩ J hJ hJ'
   (try dsimp only at hi hJ ⊢)
   rcases Nat.lt_or_ge i a.length with hlt|hge
   · have k1:(decide ((i:Int)<(a.length:Int)))=true:=decide_eq_true (by omega)
     have k7:(i:Int)+1=((i+1:Nat):Int):=by omega
     obtain⟨x,hx⟩:∃x,a[i]? = some x:=⟨_,List.getElem?_eq_getElem hlt⟩
     obtain⟨y,hy⟩:∃y,b[i]? = some y:=⟨_,List.getElem?_eq_getElem (by omega)⟩
     have hlb:i<b.length:=by omega
     have k2:=X1c hx
     have k3:=X1c hy
     have hp1:=rsev_fn x y (ha x (List.mem_of_getElem? hx)) (hb y (List.mem_of_getElem? hy))
     by_cases hxy:x=y
     · rw[decide_eq_true hxy] at hp1
       have hno1:∀j,j<i+1→a[j]? = b[j]?:=fun j hj=>by
        rcases Nat.lt_or_ge j i with h'|h'
        · exact hno j h'
        · obtain rfl:j=i:=by omega
          rw[hx,hy,hxy]
       have hJ1:=fun σ'=>hJ σ' ⟨i+1,hlt,hno1⟩ (by dsimp only;omega)
       dsimp only at hJ1
       clear hno hno1 hxy
       (have W:=ndI k1 (ndI k2 (ndI k3 (ndI k7 @wrI)));(repeat(any_goals(first|((with_reducible refine Q0b ?_ ?_);rfl;intro K hK;simp(disch:=omega) only[go_sem,W,Nat.mul_one];((repeat(refine ndI (by first|assumption|rfl) ?_));refine hK _ ?_;clear hK K))|(with_reducible first|(refine Q0c ?_;refine hR _ ?_;clear hR R)|((first|refine Q0d ?_|refine Q0f ?_);intro J hJ hJ')|(refine Q0a ?_;intro R hR)|(refine hJ _ ?_;clear hJ hJ' J)|refine Q0g ?_)|((with_reducible refine hJ' _ _ ?_ ?_);(focus(simp;done));clear hJ hJ' J)|((with_reducible apply Q0e);rfl;rfl;all_goals(intro hc;first|(cases hc;done)|(try simp only at hc)))|((with_reducible refine Q0y ?_ ?_);kernel_rfl;(with_reducible refine hR _ ?_);clear hR R)|((first|((with_reducible apply Q1i);rfl;rfl;((apply Q0t (hp1);rfl;rfl;rfl;rfl;exact Tryz.func92);kernel_rfl;rfl;(focus((simp(disch:=omega) only[go_sem,W,Nat.mul_one]);(try rfl);done));(first|rfl)))|((with_reducible apply Q0x);rfl;rfl;(simp(disch:=omega) only[rdE,rdOf,go_sem,W,Nat.mul_one];rfl);(intro τ hA hQ hN;((try simp only[Q1h,Op.operands,Call.operands,go_sem,W,Nat.mul_one,go_sem,List.mem_cons,List.not_mem_nil,forall_eq_or_imp,forall_eq,List.append_toArray,Option.toArray] at hA);(try simp only[go_sem,W,Nat.mul_one,List.mem_cons,List.not_mem_nil,forall_eq_or_imp,forall_eq] at hQ hN);(first|(revert hA;intro hA));(first|(revert hQ;intro hQ));(first|(revert hN;intro hN));simp(disch:=omega) only[go_sem,W,Nat.mul_one,go_sem,hA,hQ,hN];(repeat(refine ndI (by first|assumption|omega|rfl) ?_));(first|apply Q1b)))));(simp(disch:=omega) only[St.eff,setO,Q0w,go_sem,W,Nat.mul_one]))|((with_reducible refine Q0u ?_ ?_ ?_ ?_);kernel_rfl;kernel_rfl;(first|kernel_rfl);intro R hR)))))
       all_goals exact hJ1 _ (St.le_of (by simp[leT]) (by simp[leH]))
     · rw[decide_eq_false hxy] at hp1
       have hrf:r=false:=by
        rw[←hr,decide_eq_false_iff_not]
        intro e;rw[e,hy] at hx;cases hx;exact hxy rfl
       clear hno hr
       (have W:=ndI k1 (ndI k2 (ndI k3 (ndI k7 @wrI)));(repeat(any_goals(first|((with_reducible refine Q0b ?_ ?_);rfl;intro K hK;simp(disch:=omega) only[go_sem,W,Nat.mul_one];((repeat(refine ndI (by first|assumption|rfl) ?_));refine hK _ ?_;clear hK K))|(with_reducible first|(refine Q0c ?_;refine hR _ ?_;clear hR R)|((first|refine Q0d ?_|refine Q0f ?_);intro J hJ hJ')|(refine Q0a ?_;intro R hR)|(refine hJ _ ?_;clear hJ hJ' J)|refine Q0g ?_|refine Q0j ?_)|((with_reducible refine hJ' _ _ ?_ ?_);(focus(simp;done));clear hJ hJ' J)|((with_reducible apply Q0e);rfl;rfl;all_goals(intro hc;first|(cases hc;done)|(try simp only at hc)))|((with_reducible refine Q0y ?_ ?_);kernel_rfl;(with_reducible refine hR _ ?_);clear hR R)|((first|((with_reducible apply Q1i);rfl;rfl;((apply Q0t (hp1);rfl;rfl;rfl;rfl;exact Tryz.func92);kernel_rfl;rfl;(focus((simp(disch:=omega) only[go_sem,W,Nat.mul_one]);(try rfl);done));(first|rfl)))|((with_reducible apply Q0x);rfl;rfl;(simp(disch:=omega) only[rdE,rdOf,go_sem,W,Nat.mul_one];rfl);(intro τ hA hQ hN;((try simp only[Q1h,Op.operands,Call.operands,go_sem,W,Nat.mul_one,go_sem,List.mem_cons,List.not_mem_nil,forall_eq_or_imp,forall_eq,List.append_toArray,Option.toArray] at hA);(try simp only[go_sem,W,Nat.mul_one,List.mem_cons,List.not_mem_nil,forall_eq_or_imp,forall_eq] at hQ hN);(first|(revert hA;intro hA));(first|(revert hQ;intro hQ));(first|(revert hN;intro hN));simp(disch:=omega) only[go_sem,W,Nat.mul_one,go_sem,hA,hQ,hN];(repeat(refine ndI (by first|assumption|omega|rfl) ?_));(first|apply Q1b)))));(simp(disch:=omega) only[St.eff,setO,Q0w,go_sem,W,Nat.mul_one]))|((with_reducible refine Q0u ?_ ?_ ?_ ?_);kernel_rfl;kernel_rfl;(first|kernel_rfl);intro R hR)))))
       all_goals rw[hrf]
       all_goals(refine⟨by simp,⟨_,?_,AV.le_refl _⟩,Q0h (by simp[leH,hget])⟩;simp only[Tryz.results59,resL,ldA,Q0o,go_sem])
   · have k1:(decide ((i:Int)<(a.length:Int)))=false:=decide_eq_false (by omega)
     have hrt:r=true:=by
      rw[←hr,decide_eq_true_iff]
      refine List.ext_getElem? fun j=>?_
      rcases Nat.lt_or_ge j a.length with h|h
      · exact hno j (by omega)
      · rw[List.getElem?_eq_none h,List.getElem?_eq_none (by omega)]
     clear hr hno
     (repeat(any_goals(first|((with_reducible refine Q0b ?_ ?_);rfl;intro K hK;simp only[go_sem,k1];((repeat(refine ndI (by first|assumption) ?_));refine hK _ ?_;clear hK K))|(with_reducible first|(refine Q0c ?_;refine hR _ ?_;clear hR R)|((first|refine Q0d ?_);intro J hJ hJ')|(refine Q0a ?_;intro R hR)|(refine hJ _ ?_;clear hJ hJ' J)|refine Q0j ?_|refine Q0p ?_)|((with_reducible refine hJ' _ _ ?_ ?_);(focus(simp;done));clear hJ hJ' J)|((with_reducible apply Q0e);rfl;rfl;all_goals(intro hc;first|(cases hc;done)|(try simp only at hc))))))
     all_goals rw[hrt]
     all_goals(refine⟨by simp,⟨_,?_,AV.le_refl _⟩,Q0h (by simp[leH,hget])⟩;simp only[Tryz.results59,resL,ldA,Q0o,go_sem])
 · have k0:((a.length:Int) != (b.length:Int))=true:=by simp;omega
   have he:decide (a=b)=false:=by rw[decide_eq_false_iff_not];intro e;exact hlen (by rw[e])
   rw[he]
   (refine Q0v Tryz.func59 rfl (by rfl) ?_;simp only[Tryz.ntmps59,List.length_cons,List.length_nil,Nat.reduceAdd,Nat.reduceSub,List.replicate,List.cons_append,List.nil_append])
   (repeat(any_goals(first|((with_reducible refine Q0b ?_ ?_);rfl;intro K hK;simp only[go_sem,k0];((repeat(refine ndI (by first|assumption) ?_));refine hK _ ?_;clear hK K))|(with_reducible first|(refine Q0c ?_;refine hR _ ?_;clear hR R)|((first|refine Q0d ?_);intro J hJ hJ')|(refine Q0a ?_;intro R hR)|(refine hJ _ ?_;clear hJ hJ' J)|refine Q0j ?_)|((with_reducible refine hJ' _ _ ?_ ?_);(focus(simp;done));clear hJ hJ' J)|((with_reducible apply Q0e);rfl;rfl;all_goals(intro hc;first|(cases hc;done)|(try simp only at hc))))))
   all_goals(refine⟨by simp,⟨_,?_,AV.le_refl _⟩,Q0h (by simp[leH,hget])⟩;simp only[Tryz.results59,resL,ldA,Q0o,go_sem])
end
section
open Go.RowKit
theorem X5x(y:Int)(l:List Int)(x:Int):insD (y::l) x=if y<x then y::insD l x else if y=x then y::l else x::y::l:=by
 by_cases h:y<x
 · rw[if_pos h]
   unfold insD
   have e:posD (y::l) x=posD l x+1:=by show(if y<x then _ else _)=_;rw[if_pos h]
   rw[e,List.getElem?_cons_succ]
   split<;>simp
 · rw[if_neg h]
   unfold insD
   have e:posD (y::l) x=0:=by show(if y<x then _ else _)=_;rw[if_neg h]
   rw[e,List.getElem?_cons_zero]
   by_cases h2:y=x
   · rw[if_pos (by rw[h2]),if_pos h2]
   · rw[if_neg (fun e=>h2 (Option.some.inj e)),if_neg h2]
     rfl
theorem X3f:∀(l:List Int) (x z:Int),z∈insD l x↔z=x∨z∈l
 |[],x,z=>by simp[insD,posD]
 |y::l,x,z=>by
  have ih:=X3f l x z
  rw[X5x]
  split
  · rw[List.mem_cons,List.mem_cons,ih]
    constructor
    · rintro (h|h|h)
      · exact .inr (.inl h)
      · exact .inl h
      · exact .inr (.inr h)
    · rintro (h|h|h)
      · exact .inr (.inl h)
      · exact .inl h
      · exact .inr (.inr h)
  · split
    · rename_i h
      rw[List.mem_cons,h]
      constructor
      · exact .inr
      · rintro (h|h)
        · exact .inl h
        · exact h
    · rw[List.mem_cons]
theorem insD_lt:∀(l:List Int) (x:Int),l.Pairwise (· < ·)→(insD l x).Pairwise (· < ·)
 |[],x,_=>by simp[insD,posD]
 |y::l,x,h=>by
  rw[List.pairwise_cons] at h
  have ih:=insD_lt l x h.2
  rw[X5x]
  split
  · rename_i hyx
    rw[List.pairwise_cons]
    refine⟨fun z hz=>?_,ih⟩
    rcases(X3f l x z).1 hz with rfl|hz
    · exact hyx
    · exact h.1 z hz
  · split
    · exact List.pairwise_cons.2 h
    · rw[List.pairwise_cons]
      refine⟨fun z hz=>?_,List.pairwise_cons.2 h⟩
      rcases List.mem_cons.1 hz with rfl|hz
      · omega
      · have:=h.1 z hz;omega
theorem X2o(l:List Int):∀i,i≤l.length→(resD l i).Pairwise (· < ·)∧∀x,x∈resD l i↔x∈l.take i
 |0,_=>by simp[resD]
 |i+1,h=>by
  obtain⟨h1,h2⟩:=X2o l i (by omega)
  have hb:l[i]? = some (l[i]'(by omega)):=List.getElem?_eq_getElem (by omega)
  have e:resD l (i+1)=insD (resD l i) (l[i]'(by omega)):=by
   show(match l[i]? with|none=>_|some x=>_)=_
   rw[hb]
  rw[e]
  refine⟨insD_lt _ _ h1,fun x=>?_⟩
  rw[X3f,h2,List.take_add_one,hb,List.mem_append,or_comm]
  simp
theorem res_uniq{l r:List Int}(h1:r.Pairwise (· < ·))(h2:∀x,x∈r↔x∈l):resD l l.length=r:=by
 obtain⟨g1,g2⟩:=X2o l l.length (Nat.le_refl _)
 refine X2n g1 h1 fun x=>?_
 rw[g2,h2,List.take_length]
end
end Go.Proofs.YtgdjkkapgghdbaaGreatDoor
