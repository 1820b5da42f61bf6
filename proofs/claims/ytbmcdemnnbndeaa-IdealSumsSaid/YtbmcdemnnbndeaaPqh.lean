/-
  Parting what is like a pivot from what is greater. Printed by gen_pqh.py.
-/
import Derived.Test.YtbmcdemnnbndeaaPqf
namespace Go.Proofs.Ytbmcdemnnbndeaa
set_option linter.unusedSimpArgs false
set_option linter.unusedVariables false
section
open Go.RowKit
open Nat (reduceBEq)
attribute [-go_sem] IntKind.bits
set_option maxRecDepth 20000
set_option maxHeartbeats 2000000
attribute [local simp] Q0l Q0a Q0k
abbrev pU(d:Array Int)(a:Nat):Int→Bool:=fun x=>ltI x d[a]!
abbrev pV(d:Array Int)(a:Nat):Int→Bool:=fun x=>!ltI x d[a]!
abbrev stPt(d:Array Int)(n a b pv i j:Nat):St:=⟨[.row 1000 adT 1 n,vi .i64 (a:Int),vi .i64 (b:Int),vi .i64 (pv:Int),.any,.any,.any,.any,.any,.any,vi .i64 (i:Int),vi .i64 (j:Int),.any,.any,.any,.any,.any,.any,.any,.any,.any,.any,.any,.any,.any,.any,.any,.any,.any,.any,.any,.any,.any,.any,.any,.any,.any,.any,.any,.any,.any,.any,.any,.any,.any,.any,.any,.any,.any,.any,.any,.any,.any,.any,.any,.any,.any,.any,.any,.any,.any,.any,.any,.any,.any,.any,.any,.any,.any,.any,.any,.any,.any,.any,.any,.any,.any,.any,.any,.any,.any,.any,.any,.any,.any,.any,.any,.any,.any,.any,.any,.any,.any,.any,.any,.any,.any,.any,.any,.any,.any,.any,.any,.any,.any,.any,.any,.any,.any,.any,.any,.any,.any,.any,.any,.any,.any,.any,.any,.any,.any,.any,.any,.any,.any,.any,.any,.any,.any,.any,.any,.any,.any,.any,.any,.any,.any,.any,.any,.any,.any,.any,.any,.any,.any,.any,.any,.any,.any,.any,.any,.any,.any,.any,.any,.any,.any,.any,.any,.any,.any,.any,.any,.any,.any,.any,.any,.any],[(1000,rI d)]⟩
abbrev stPu(d:Array Int)(n a b pv j:Nat):St:=⟨[.row 1000 adT 1 n,vi .i64 (a:Int),vi .i64 (b:Int),vi .i64 (pv:Int),.any,.any,.any,.any,.any,.any,.any,vi .i64 (j:Int),.any,.any,.any,.any,.any,.any,.any,.any,.any,.any,.any,.any,.any,.any,.any,.any,.any,.any,.any,.any,.any,.any,.any,.any,.any,.any,.any,.any,.any,.any,.any,.any,.any,.any,.any,.any,.any,.any,.any,.any,.any,.any,.any,.any,.any,.any,.any,.any,.any,.any,.any,.any,.any,.any,.any,.any,.any,.any,.any,.any,.any,.any,.any,.any,.any,.any,.any,.any,.any,.any,.any,.any,.any,.any,.any,.any,.any,.any,.any,.any,.any,.any,.any,.any,.any,.any,.any,.any,.any,.any,.any,.any,.any,.any,.any,.any,.any,.any,.any,.any,.any,.any,.any,.any,.any,.any,.any,.any,.any,.any,.any,.any,.any,.any,.any,.any,.any,.any,.any,.any,.any,.any,.any,.any,.any,.any,.any,.any,.any,.any,.any,.any,.any,.any,.any,.any,.any,.any,.any,.any,.any,.any,.any,.any,.any,.any,.any,.any,.any,.any,.any,.any,.any,.any,.any,.any],[(1000,rI d)]⟩
theorem part_eq(d0:Array Int){a b pv i2 j2:Nat}{d1:Array Int}(h1:Sort.swp d0 a pv=d1)(h2:Sort.scanUp (pU d1 a) d1 (b-1) (a+1)=i2)(h3:Sort.scanDown (pV d1 a) d1 i2 (b-1)=j2):Sort.partition ltI d0 a b pv=if i2>j2 then(j2,true,Sort.swp d1 j2 a) else((Sort.partLoop ltI a (i2+1) (j2-1) (Sort.swp d1 i2 j2)).1,false,Sort.swp (Sort.partLoop ltI a (i2+1) (j2-1) (Sort.swp d1 i2 j2)).2 (Sort.partLoop ltI a (i2+1) (j2-1) (Sort.swp d1 i2 j2)).1 a):=by
 subst h1 h2 h3
 rfl
theorem X0f{a i j i2 j2:Nat}{d:Array Int}(h2:Sort.scanUp (pU d a) d j i=i2)(h3:Sort.scanDown (pV d a) d i2 j=j2):Sort.partLoop ltI a i j d=if i2>j2 then(j2,d) else Sort.partLoop ltI a (i2+1) (j2-1) (Sort.swp d i2 j2):=by
 subst h2 h3
 exact Sort.partLoop_eq ltI a i j d
theorem Q7x{a i j i2 j2:Nat}{d:Array Int}(h0:0<i)(h2:Sort.scanUp (pU d a) d j i=i2)(h3:Sort.scanDown (pV d a) d i2 j=j2)(h:¬i2>j2):i2<j2:=by
 have s1:=Sort.scanUp_spec (pU d a) d j _ i rfl
 have s2:=Sort.scanDown_spec (pV d a) d i2 j
 rw[h2] at s1
 rw[h3] at s2
 rcases Nat.lt_or_ge i2 j2 with h4|h4
 · exact h4
 · have e:i2=j2:=by omega
   have q1:=s1.2.2.2 (by omega)
   have q2:=s2.2.2.2 (by omega) (by omega)
   rw[e] at q1
   simp only[pU,pV] at q1 q2
   rw[q1] at q2
   cases q2
theorem ploop_bd(a:Nat):∀(m i j:Nat) (d:Array Int),j+1-i≤m→0<i→i≤j+1→(Sort.partLoop ltI a i j d).1≤j∧(Sort.partLoop ltI a i j d).2.size=d.size∧i≤(Sort.partLoop ltI a i j d).1+1:=by
 intro m
 induction m with
 |zero=>
  intro i j d hm h0 hij
  obtain⟨i2,hi2⟩:∃i2,Sort.scanUp (pU d a) d j i=i2:=⟨_,rfl⟩
  obtain⟨j2,hj2⟩:∃j2,Sort.scanDown (pV d a) d i2 j=j2:=⟨_,rfl⟩
  have u1:=Sort.scanUp_spec (pU d a) d j _ i rfl
  have u2:=Sort.scanDown_spec (pV d a) d i2 j
  rw[hi2] at u1
  rw[hj2] at u2
  have v2:=u1.2.1 hij
  have v4:=u2.2.1 v2
  have lt2:=Q7x h0 hi2 hj2
  rw[X0f hi2 hj2]
  by_cases hgt:i2>j2
  · rw[if_pos hgt]
    exact⟨u2.1,rfl,by dsimp only;omega⟩
  · have:=lt2 hgt
    omega
 |succ m ih=>
  intro i j d hm h0 hij
  obtain⟨i2,hi2⟩:∃i2,Sort.scanUp (pU d a) d j i=i2:=⟨_,rfl⟩
  obtain⟨j2,hj2⟩:∃j2,Sort.scanDown (pV d a) d i2 j=j2:=⟨_,rfl⟩
  have u1:=Sort.scanUp_spec (pU d a) d j _ i rfl
  have u2:=Sort.scanDown_spec (pV d a) d i2 j
  rw[hi2] at u1
  rw[hj2] at u2
  have v2:=u1.2.1 hij
  have v4:=u2.2.1 v2
  have lt2:=Q7x h0 hi2 hj2
  rw[X0f hi2 hj2]
  by_cases hgt:i2>j2
  · rw[if_pos hgt]
    exact⟨u2.1,rfl,by dsimp only;omega⟩
  · rw[if_neg hgt]
    have h3:=lt2 hgt
    have:=ih (i2+1) (j2-1) (Sort.swp d i2 j2) (by omega) (by omega) (by omega)
    rw[Q2m] at this
    exact⟨by omega,this.2.1,by omega⟩
theorem part_fn(n a b pv:Nat)(h1:a≤pv)(h2:pv<b)(hb:b≤n)(hn:n≤1000000)(d0:Array Int)(h0:d0.size=n):Fn Try.prog 72 [.row 1000 adT 1 n,vi .i64 (a:Int),vi .i64 (b:Int),vi .i64 (pv:Int)] [(1000,rI d0)] (.tup [vi .i64 ((Sort.partition ltI d0 a b pv).1:Int),vb (Sort.partition ltI d0 a b pv).2.1]) [(1000,rI (Sort.partition ltI d0 a b pv).2.2)]:=by
 have x0:=Q1z d0
 rw[h0] at x0
 have x1:=Q2o d0 (j:=a) (by omega)
 have x2:=Q2o d0 (j:=pv) (by omega)
 obtain⟨s1,s2⟩:=Q3p d0 (i:=a) (j:=pv) (by omega) (by omega)
 have x4:(rI (d0.setIfInBounds a d0[pv]!)).length=n:=by rw[Q1z,Array.size_setIfInBounds];exact h0
 have hs:(Sort.swp d0 a pv).size=n:=by rw[Q2m];exact h0
 obtain⟨d1,hd1⟩:∃d1,Sort.swp d0 a pv=d1:=⟨_,rfl⟩
 rw[hd1] at s2 hs
 obtain⟨i2,hi2⟩:∃i2,Sort.scanUp (pU d1 a) d1 (b-1) (a+1)=i2:=⟨_,rfl⟩
 obtain⟨j2,hj2⟩:∃j2,Sort.scanDown (pV d1 a) d1 i2 (b-1)=j2:=⟨_,rfl⟩
 have u1:=Sort.scanUp_spec (pU d1 a) d1 (b-1) _ (a+1) rfl
 have u2:=Sort.scanDown_spec (pV d1 a) d1 i2 (b-1)
 rw[hi2] at u1
 rw[hj2] at u2
 have v1:=u1.1
 have v2:=u1.2.1 (by omega)
 have v3:=u2.1
 have v4:=u2.2.1 (by omega)
 have lt2:=Q7x (Nat.succ_pos a) hi2 hj2
 have pe:=part_eq d0 hd1 hi2 hj2
 generalize Sort.partition ltI d0 a b pv=res at pe
 obtain⟨rm,rb,rd⟩:=res
 dsimp only
 clear u1 u2 hd1
 obtain⟨j,hj⟩:∃j,b-1=j:=⟨_,rfl⟩
 rw[hj] at hi2 hj2 v2 v3
 have w1:(b:Int)-1=(j:Int):=by omega
 have w2:(a:Int)+1=((a+1:Nat):Int):=by omega
 generalize d0.setIfInBounds a d0[pv]! = d9 at s1 s2 x4
 generalize d0[a]! = za at *
 generalize d0[pv]! = zv at *
 (refine Q1q Try.func72 rfl (by rfl) ?_;simp only[Try.ntmps72,List.length_cons,List.length_nil,Nat.reduceAdd,Nat.reduceSub,List.replicate,List.cons_append,List.nil_append])
 (have W:=ndI w1 (ndI w2 (ndI x0 (ndI x1 (ndI x2 (ndI x4 (ndI s1 (ndI s2 @wrI)))))));(repeat(any_goals(first|((with_reducible refine Q0g ?_ ?_);rfl;intro K hK;simp(disch:=omega) only[go_sem,W,Q0a,Nat.mul_one];((repeat(refine ndI (by first|assumption|omega|rfl) ?_));refine hK _ ?_;clear hK K))|(with_reducible first|(refine Q0i ?_;refine hR _ ?_;clear hR R)|((first|refine Q0h ?_|refine Q0c ?_);intro Ψ hΨ hΨ')|(refine Q0b ?_;intro R hR)|(refine hΨ _ ?_;clear hΨ hΨ' Ψ)|refine Q0d ?_|refine Q0j ?_|refine Q0e ?_)|((with_reducible refine hΨ' _ _ ?_ ?_);(focus(simp;done));clear hΨ hΨ' Ψ)|((with_reducible apply Q0f);rfl;rfl;all_goals(intro hc;first|(cases hc;done)|(try simp only at hc)))|((with_reducible refine Q0t ?_ ?_);(apply Q1f);(focus(repeat(first|exact Sims.nil|((apply Sims.cons);(focus(first|((apply Ef.sim_row);assumption)|exact Ef.sim_refl _))))));kernel_rfl;(with_reducible refine hR _ ?_);clear hR R)|((first|((with_reducible apply Q0r);rfl;rfl;rfl;rfl)|((with_reducible apply Q0n);rfl;rfl;rfl)|((first|((with_reducible apply Q0u);rfl;rfl)|((with_reducible apply Q0s);rfl;rfl;rfl;rfl;rfl));(simp(disch:=omega) only[rdE,rdOf,go_sem,W,Q0a,Nat.mul_one];rfl);(intro τ hA hQ hN;((try simp only[Q1h,Op.operands,Call.operands,go_sem,W,Q0a,Nat.mul_one,go_sem,List.mem_cons,List.not_mem_nil,forall_eq_or_imp,forall_eq,List.append_toArray,Option.toArray] at hA);(try simp only[go_sem,W,Q0a,Nat.mul_one,List.mem_cons,List.not_mem_nil,forall_eq_or_imp,forall_eq] at hQ hN);(first|(revert hA;intro hA)|have hA:=trivial);(first|(revert hQ;intro hQ)|have hQ:=trivial);(first|(revert hN;intro hN)|have hN:=trivial);simp(disch:=omega) only[go_sem,W,Q0a,Nat.mul_one,go_sem,hA,hQ,hN];(repeat(refine ndI (by first|assumption|omega|rfl) ?_));(first|apply Q1b|apply Q1a|apply Q0w)))));(simp(disch:=omega) only[St.eff,setO,Q0q,go_sem,W,Q0a,Nat.mul_one]))|((with_reducible apply Q0o);rfl;rfl;rfl;all_goals intro hb;all_goals(simp(disch:=omega) only[St.eff,setO,Q0q,go_sem,W,Q0a,Nat.mul_one]))|((with_reducible refine Q0p ?_ ?_ ?_ ?_);kernel_rfl;kernel_rfl;(simp[Q0m,Q1j,St.free,Q1i,AV.refsL,AV.refs,Q0a]);intro R hR)))))
 refine Q2z 0 (stPt d1 n a b pv i2 j) (α:={u:Nat // a+1≤u∧u≤j+1∧Sort.scanUp (pU d1 a) d1 j u=i2}) (fun q=>stPt d1 n a b pv q.1 j) (fun q=>j+1-q.1) ⟨(a+1),by omega,by omega,hi2⟩ (St.le_of (by simp[leT]) (by simp[leH,hget])) ?_ ?_
 rotate_left
 · rintro ⟨u,c1,c2,hu⟩ Ψ hN hJ
   (try dsimp only at c1 c2 hu hN ⊢)
   have y0:=Q1z d1
   rw[hs] at y0
   by_cases hij:u≤j
   · have k1:decide ((u:Int)≤(j:Int))=true:=decide_eq_true (by omega)
     have y1:=Q2o d1 (j:=u) (by omega)
     have y2:=Q2o d1 (j:=a) (by omega)
     have lf:=Q3a d1[u]! d1[a]!
     have w1:(u:Int)+1=((u+1:Nat):Int):=by omega
     by_cases hlt:d1[u]! < d1[a]!
     · have c3:decide (d1[u]! < d1[a]!)=true:=decide_eq_true hlt
       rw[c3] at lf
       have hu2:=(up_go (p:=(pU d1 a)) (d:=d1) hij c3).symm.trans hu
       have hN1:∀σ':St,σ'.le (stPt d1 n a b pv (u+1) j)→Ψ .normal σ':=fun σ' h=>hN σ' ⟨u+1,by omega,by omega,hu2⟩ (by dsimp only;omega) h
       clear hu hu2 hlt c3
       generalize d1[u]! = zx at *
       generalize d1[a]! = zy at *
       (have W:=ndI k1 (ndI w1 (ndI y0 (ndI y1 (ndI y2 @wrI))));(repeat(any_goals(first|((with_reducible refine Q0g ?_ ?_);rfl;intro K hK;simp(disch:=omega) only[go_sem,W,Q0a,Nat.mul_one];((repeat(refine ndI (by first|assumption|omega|rfl) ?_));refine hK _ ?_;clear hK K))|(with_reducible first|(refine Q0i ?_;refine hR _ ?_;clear hR R)|((first|refine Q0h ?_|refine Q0c ?_);intro Ψ hΨ hΨ')|(refine Q0b ?_;intro R hR)|(refine hΨ _ ?_;clear hΨ hΨ' Ψ)|refine Q0d ?_|refine Q0j ?_|refine Q0e ?_)|((with_reducible refine hΨ' _ _ ?_ ?_);(focus(simp;done));clear hΨ hΨ' Ψ)|((with_reducible apply Q0f);rfl;rfl;all_goals(intro hc;first|(cases hc;done)|(try simp only at hc)))|((with_reducible refine Q0t ?_ ?_);(apply Q1f);(focus(repeat(first|exact Sims.nil|((apply Sims.cons);(focus(first|((apply Ef.sim_row);assumption)|exact Ef.sim_refl _))))));kernel_rfl;(with_reducible refine hR _ ?_);clear hR R)|((first|((with_reducible apply Q0r);rfl;rfl;rfl;rfl)|((with_reducible apply Q0n);rfl;rfl;rfl)|((first|((with_reducible apply Q1m);rfl;rfl)|((with_reducible apply Q1p);rfl;rfl;rfl;rfl;rfl));((apply Q1g (lf);rfl;rfl;rfl;rfl;exact Try.func70);kernel_rfl;rfl;(focus((simp(disch:=omega) only[go_sem,W,Q0a,Nat.mul_one]);(try rfl);done));(first|rfl|simp[AV.inNL,AV.inN])))|((first|((with_reducible apply Q0u);rfl;rfl)|((with_reducible apply Q0s);rfl;rfl;rfl;rfl;rfl));(simp(disch:=omega) only[rdE,rdOf,go_sem,W,Q0a,Nat.mul_one];rfl);(intro τ hA hQ hN;((try simp only[Q1h,Op.operands,Call.operands,go_sem,W,Q0a,Nat.mul_one,go_sem,List.mem_cons,List.not_mem_nil,forall_eq_or_imp,forall_eq,List.append_toArray,Option.toArray] at hA);(try simp only[go_sem,W,Q0a,Nat.mul_one,List.mem_cons,List.not_mem_nil,forall_eq_or_imp,forall_eq] at hQ hN);(first|(revert hA;intro hA)|have hA:=trivial);(first|(revert hQ;intro hQ)|have hQ:=trivial);(first|(revert hN;intro hN)|have hN:=trivial);simp(disch:=omega) only[go_sem,W,Q0a,Nat.mul_one,go_sem,hA,hQ,hN];(repeat(refine ndI (by first|assumption|omega|rfl) ?_));(first|apply Q1b|apply Q1a|apply Q0w)))));(simp(disch:=omega) only[St.eff,setO,Q0q,go_sem,W,Q0a,Nat.mul_one]))|((with_reducible apply Q0o);rfl;rfl;rfl;all_goals intro hb;all_goals(simp(disch:=omega) only[St.eff,setO,Q0q,go_sem,W,Q0a,Nat.mul_one]))|((with_reducible refine Q0p ?_ ?_ ?_ ?_);kernel_rfl;kernel_rfl;(simp[Q0m,Q1j,St.free,Q1i,AV.refsL,AV.refs,Q0a]);intro R hR)))))
       all_goals exact hN1 _ (St.le_of (by simp[leT]) (by simp[leH,hget]))
     · have c3:decide (d1[u]! < d1[a]!)=false:=decide_eq_false hlt
       rw[c3] at lf
       have hu2:=(Q7c (p:=(pU d1 a)) (d:=d1) (fun h=>absurd (show(decide (d1[u]! < d1[a]!))=true from h.2) (by rw[c3];simp))).symm.trans hu
       rw[←hu2] at hJ
       clear hu hu2 hlt c3
       generalize d1[u]! = zx at *
       generalize d1[a]! = zy at *
       (have W:=ndI k1 (ndI w1 (ndI y0 (ndI y1 (ndI y2 @wrI))));(repeat(any_goals(first|((with_reducible refine Q0g ?_ ?_);rfl;intro K hK;simp(disch:=omega) only[go_sem,W,Q0a,Nat.mul_one];((repeat(refine ndI (by first|assumption|omega|rfl) ?_));refine hK _ ?_;clear hK K))|(with_reducible first|(refine Q0i ?_;refine hR _ ?_;clear hR R)|((first|refine Q0h ?_|refine Q0c ?_);intro Ψ hΨ hΨ')|(refine Q0b ?_;intro R hR)|(refine hΨ _ ?_;clear hΨ hΨ' Ψ)|refine Q0d ?_|refine Q0j ?_|refine Q0e ?_)|((with_reducible refine hΨ' _ _ ?_ ?_);(focus(simp;done));clear hΨ hΨ' Ψ)|((with_reducible apply Q0f);rfl;rfl;all_goals(intro hc;first|(cases hc;done)|(try simp only at hc)))|((with_reducible refine Q0t ?_ ?_);(apply Q1f);(focus(repeat(first|exact Sims.nil|((apply Sims.cons);(focus(first|((apply Ef.sim_row);assumption)|exact Ef.sim_refl _))))));kernel_rfl;(with_reducible refine hR _ ?_);clear hR R)|((first|((with_reducible apply Q0r);rfl;rfl;rfl;rfl)|((with_reducible apply Q0n);rfl;rfl;rfl)|((first|((with_reducible apply Q1m);rfl;rfl)|((with_reducible apply Q1p);rfl;rfl;rfl;rfl;rfl));((apply Q1g (lf);rfl;rfl;rfl;rfl;exact Try.func70);kernel_rfl;rfl;(focus((simp(disch:=omega) only[go_sem,W,Q0a,Nat.mul_one]);(try rfl);done));(first|rfl|simp[AV.inNL,AV.inN])))|((first|((with_reducible apply Q0u);rfl;rfl)|((with_reducible apply Q0s);rfl;rfl;rfl;rfl;rfl));(simp(disch:=omega) only[rdE,rdOf,go_sem,W,Q0a,Nat.mul_one];rfl);(intro τ hA hQ hN;((try simp only[Q1h,Op.operands,Call.operands,go_sem,W,Q0a,Nat.mul_one,go_sem,List.mem_cons,List.not_mem_nil,forall_eq_or_imp,forall_eq,List.append_toArray,Option.toArray] at hA);(try simp only[go_sem,W,Q0a,Nat.mul_one,List.mem_cons,List.not_mem_nil,forall_eq_or_imp,forall_eq] at hQ hN);(first|(revert hA;intro hA)|have hA:=trivial);(first|(revert hQ;intro hQ)|have hQ:=trivial);(first|(revert hN;intro hN)|have hN:=trivial);simp(disch:=omega) only[go_sem,W,Q0a,Nat.mul_one,go_sem,hA,hQ,hN];(repeat(refine ndI (by first|assumption|omega|rfl) ?_));(first|apply Q1b|apply Q1a|apply Q0w)))));(simp(disch:=omega) only[St.eff,setO,Q0q,go_sem,W,Q0a,Nat.mul_one]))|((with_reducible apply Q0o);rfl;rfl;rfl;all_goals intro hb;all_goals(simp(disch:=omega) only[St.eff,setO,Q0q,go_sem,W,Q0a,Nat.mul_one]))|((with_reducible refine Q0p ?_ ?_ ?_ ?_);kernel_rfl;kernel_rfl;(simp[Q0m,Q1j,St.free,Q1i,AV.refsL,AV.refs,Q0a]);intro R hR)))))
       all_goals exact hJ _ (St.le_of (by simp[leT]) (by simp[leH,hget]))
   · have k1:decide ((u:Int)≤(j:Int))=false:=decide_eq_false (by omega)
     have hu2:=(Q7c (p:=(pU d1 a)) (d:=d1) (fun h=>hij h.1)).symm.trans hu
     rw[←hu2] at hJ
     clear hu hu2
     (repeat(any_goals(first|((with_reducible refine Q0g ?_ ?_);rfl;intro K hK;simp(disch:=omega) only[go_sem,k1,Q0a,Nat.mul_one,wrI];((repeat(refine ndI (by first|assumption|omega|rfl) ?_));refine hK _ ?_;clear hK K))|(with_reducible first|(refine Q0i ?_;refine hR _ ?_;clear hR R)|((first|refine Q0h ?_|refine Q0c ?_);intro Ψ hΨ hΨ')|(refine Q0b ?_;intro R hR)|(refine hΨ _ ?_;clear hΨ hΨ' Ψ)|refine Q0d ?_|refine Q0j ?_|refine Q0e ?_)|((with_reducible refine hΨ' _ _ ?_ ?_);(focus(simp;done));clear hΨ hΨ' Ψ)|((with_reducible apply Q0f);rfl;rfl;all_goals(intro hc;first|(cases hc;done)|(try simp only at hc)))|((with_reducible refine Q0t ?_ ?_);(apply Q1f);(focus(repeat(first|exact Sims.nil|((apply Sims.cons);(focus(first|((apply Ef.sim_row);assumption)|exact Ef.sim_refl _))))));kernel_rfl;(with_reducible refine hR _ ?_);clear hR R)|((first|((with_reducible apply Q0r);rfl;rfl;rfl;rfl)|((with_reducible apply Q0n);rfl;rfl;rfl)|((first|((with_reducible apply Q0u);rfl;rfl)|((with_reducible apply Q0s);rfl;rfl;rfl;rfl;rfl));(simp(disch:=omega) only[rdE,rdOf,go_sem,k1,Q0a,Nat.mul_one,wrI];rfl);(intro τ hA hQ hN;((try simp only[Q1h,Op.operands,Call.operands,go_sem,k1,Q0a,Nat.mul_one,wrI,go_sem,List.mem_cons,List.not_mem_nil,forall_eq_or_imp,forall_eq,List.append_toArray,Option.toArray] at hA);(try simp only[go_sem,k1,Q0a,Nat.mul_one,wrI,List.mem_cons,List.not_mem_nil,forall_eq_or_imp,forall_eq] at hQ hN);(first|(revert hA;intro hA)|have hA:=trivial);(first|(revert hQ;intro hQ)|have hQ:=trivial);(first|(revert hN;intro hN)|have hN:=trivial);simp(disch:=omega) only[go_sem,k1,Q0a,Nat.mul_one,wrI,go_sem,hA,hQ,hN];(repeat(refine ndI (by first|assumption|omega|rfl) ?_));(first|apply Q1b|apply Q1a|apply Q0w)))));(simp(disch:=omega) only[St.eff,setO,Q0q,go_sem,k1,Q0a,Nat.mul_one,wrI]))|((with_reducible apply Q0o);rfl;rfl;rfl;all_goals intro hb;all_goals(simp(disch:=omega) only[St.eff,setO,Q0q,go_sem,k1,Q0a,Nat.mul_one,wrI]))|((with_reducible refine Q0p ?_ ?_ ?_ ?_);kernel_rfl;kernel_rfl;(simp[Q0m,Q1j,St.free,Q1i,AV.refsL,AV.refs,Q0a]);intro R hR))))
     all_goals exact hJ _ (St.le_of (by simp[leT]) (by simp[leH,hget]))
 (repeat(any_goals(first|((with_reducible refine Q0g ?_ ?_);rfl;intro K hK;simp(disch:=omega) only[go_sem];((repeat(refine ndI (by first|assumption|omega|rfl) ?_));refine hK _ ?_;clear hK K))|(with_reducible first|(refine Q0i ?_;refine hR _ ?_;clear hR R)|((first|refine Q0h ?_|refine Q0c ?_);intro Ψ hΨ hΨ')|(refine Q0b ?_;intro R hR)|(refine hΨ _ ?_;clear hΨ hΨ' Ψ)|refine Q0d ?_|refine Q0j ?_|refine Q0e ?_)|((with_reducible refine hΨ' _ _ ?_ ?_);(focus(simp;done));clear hΨ hΨ' Ψ)|((with_reducible apply Q0f);rfl;rfl;all_goals(intro hc;first|(cases hc;done)|(try simp only at hc)))|((with_reducible refine Q0t ?_ ?_);kernel_rfl;(with_reducible refine hR _ ?_);clear hR R)|((first|((with_reducible apply Q0r);rfl;rfl;rfl;rfl)|((with_reducible apply Q0n);rfl;rfl;rfl)|((first|((with_reducible apply Q0u);rfl;rfl)|((with_reducible apply Q0s);rfl;rfl;rfl;rfl;rfl));(simp(disch:=omega) only[rdE,rdOf,go_sem];rfl);(intro τ hA hQ hN;((try simp only[Q1h,Op.operands,Call.operands,go_sem,List.mem_cons,List.not_mem_nil,forall_eq_or_imp,forall_eq,List.append_toArray,Option.toArray] at hA);(try simp only[go_sem,List.mem_cons,List.not_mem_nil,forall_eq_or_imp,forall_eq] at hQ hN);(first|(revert hA;intro hA)|have hA:=trivial);(first|(revert hQ;intro hQ)|have hQ:=trivial);(first|(revert hN;intro hN)|have hN:=trivial);simp(disch:=omega) only[go_sem,hA,hQ,hN];(repeat(refine ndI (by first|assumption|omega|rfl) ?_));(first|apply Q1b|apply Q1a|apply Q0w)))));(simp(disch:=omega) only[St.eff,setO,Q0q,go_sem]))|((with_reducible apply Q0o);rfl;rfl;rfl;all_goals intro hb;all_goals(simp(disch:=omega) only[St.eff,setO,Q0q,go_sem]))|((with_reducible refine Q0p ?_ ?_ ?_ ?_);kernel_rfl;kernel_rfl;(first|kernel_rfl|simp[Q0m,Q1j,St.free,Q1i,AV.refsL,AV.refs]);intro R hR))))
 refine Q2z 2 (stPt d1 n a b pv i2 j2) (α:={v:Nat // v≤j∧i2≤v+1∧Sort.scanDown (pV d1 a) d1 i2 v=j2}) (fun q=>stPt d1 n a b pv i2 q.1) (fun q=>q.1) ⟨j,by omega,by omega,hj2⟩ (St.le_of (by simp[leT]) (by simp[leH,hget])) ?_ ?_
 rotate_left
 · rintro ⟨v,c1,c2,hu⟩ Ψ hN hJ
   (try dsimp only at c1 c2 hu hN ⊢)
   have y0:=Q1z d1
   rw[hs] at y0
   by_cases hij:i2≤v
   · have k1:decide ((i2:Int)≤(v:Int))=true:=decide_eq_true (by omega)
     have y1:=Q2o d1 (j:=v) (by omega)
     have y2:=Q2o d1 (j:=a) (by omega)
     have lf:=Q3a d1[v]! d1[a]!
     have w1:(v:Int)-1=((v-1:Nat):Int):=by omega
     by_cases hlt:d1[v]! < d1[a]!
     · have c3:decide (d1[v]! < d1[a]!)=true:=decide_eq_true hlt
       rw[c3] at lf
       have hu2:=(Q4t (p:=(pV d1 a)) (d:=d1) (fun h=>absurd (show(!decide (d1[v]! < d1[a]!))=true from h.2) (by rw[c3];simp))).symm.trans hu
       rw[←hu2] at hJ
       clear hu hu2 hlt c3
       generalize d1[v]! = zx at *
       generalize d1[a]! = zy at *
       (have W:=ndI k1 (ndI w1 (ndI y0 (ndI y1 (ndI y2 @wrI))));(repeat(any_goals(first|((with_reducible refine Q0g ?_ ?_);rfl;intro K hK;simp(disch:=omega) only[go_sem,W,Q0a,Nat.mul_one];((repeat(refine ndI (by first|assumption|omega|rfl) ?_));refine hK _ ?_;clear hK K))|(with_reducible first|(refine Q0i ?_;refine hR _ ?_;clear hR R)|((first|refine Q0h ?_|refine Q0c ?_);intro Ψ hΨ hΨ')|(refine Q0b ?_;intro R hR)|(refine hΨ _ ?_;clear hΨ hΨ' Ψ)|refine Q0d ?_|refine Q0j ?_|refine Q0e ?_)|((with_reducible refine hΨ' _ _ ?_ ?_);(focus(simp;done));clear hΨ hΨ' Ψ)|((with_reducible apply Q0f);rfl;rfl;all_goals(intro hc;first|(cases hc;done)|(try simp only at hc)))|((with_reducible refine Q0t ?_ ?_);(apply Q1f);(focus(repeat(first|exact Sims.nil|((apply Sims.cons);(focus(first|((apply Ef.sim_row);assumption)|exact Ef.sim_refl _))))));kernel_rfl;(with_reducible refine hR _ ?_);clear hR R)|((first|((with_reducible apply Q0r);rfl;rfl;rfl;rfl)|((with_reducible apply Q0n);rfl;rfl;rfl)|((first|((with_reducible apply Q1m);rfl;rfl)|((with_reducible apply Q1p);rfl;rfl;rfl;rfl;rfl));((apply Q1g (lf);rfl;rfl;rfl;rfl;exact Try.func70);kernel_rfl;rfl;(focus((simp(disch:=omega) only[go_sem,W,Q0a,Nat.mul_one]);(try rfl);done));(first|rfl|simp[AV.inNL,AV.inN])))|((first|((with_reducible apply Q0u);rfl;rfl)|((with_reducible apply Q0s);rfl;rfl;rfl;rfl;rfl));(simp(disch:=omega) only[rdE,rdOf,go_sem,W,Q0a,Nat.mul_one];rfl);(intro τ hA hQ hN;((try simp only[Q1h,Op.operands,Call.operands,go_sem,W,Q0a,Nat.mul_one,go_sem,List.mem_cons,List.not_mem_nil,forall_eq_or_imp,forall_eq,List.append_toArray,Option.toArray] at hA);(try simp only[go_sem,W,Q0a,Nat.mul_one,List.mem_cons,List.not_mem_nil,forall_eq_or_imp,forall_eq] at hQ hN);(first|(revert hA;intro hA)|have hA:=trivial);(first|(revert hQ;intro hQ)|have hQ:=trivial);(first|(revert hN;intro hN)|have hN:=trivial);simp(disch:=omega) only[go_sem,W,Q0a,Nat.mul_one,go_sem,hA,hQ,hN];(repeat(refine ndI (by first|assumption|omega|rfl) ?_));(first|apply Q1b|apply Q1a|apply Q0w)))));(simp(disch:=omega) only[St.eff,setO,Q0q,go_sem,W,Q0a,Nat.mul_one]))|((with_reducible apply Q0o);rfl;rfl;rfl;all_goals intro hb;all_goals(simp(disch:=omega) only[St.eff,setO,Q0q,go_sem,W,Q0a,Nat.mul_one]))|((with_reducible refine Q0p ?_ ?_ ?_ ?_);kernel_rfl;kernel_rfl;(simp[Q0m,Q1j,St.free,Q1i,AV.refsL,AV.refs,Q0a]);intro R hR)))))
       all_goals exact hJ _ (St.le_of (by simp[leT]) (by simp[leH,hget]))
     · have c3:decide (d1[v]! < d1[a]!)=false:=decide_eq_false hlt
       rw[c3] at lf
       have hu2:=(X3v (p:=(pV d1 a)) (d:=d1) hij (by omega) (by show(!decide _)=true;rw[c3];rfl)).symm.trans hu
       have hN1:∀σ':St,σ'.le (stPt d1 n a b pv i2 (v-1))→Ψ .normal σ':=fun σ' h=>hN σ' ⟨v-1,by omega,by omega,hu2⟩ (by dsimp only;omega) h
       clear hu hu2 hlt c3
       generalize d1[v]! = zx at *
       generalize d1[a]! = zy at *
       (have W:=ndI k1 (ndI w1 (ndI y0 (ndI y1 (ndI y2 @wrI))));(repeat(any_goals(first|((with_reducible refine Q0g ?_ ?_);rfl;intro K hK;simp(disch:=omega) only[go_sem,W,Q0a,Nat.mul_one];((repeat(refine ndI (by first|assumption|omega|rfl) ?_));refine hK _ ?_;clear hK K))|(with_reducible first|(refine Q0i ?_;refine hR _ ?_;clear hR R)|((first|refine Q0h ?_|refine Q0c ?_);intro Ψ hΨ hΨ')|(refine Q0b ?_;intro R hR)|(refine hΨ _ ?_;clear hΨ hΨ' Ψ)|refine Q0d ?_|refine Q0j ?_|refine Q0e ?_)|((with_reducible refine hΨ' _ _ ?_ ?_);(focus(simp;done));clear hΨ hΨ' Ψ)|((with_reducible apply Q0f);rfl;rfl;all_goals(intro hc;first|(cases hc;done)|(try simp only at hc)))|((with_reducible refine Q0t ?_ ?_);(apply Q1f);(focus(repeat(first|exact Sims.nil|((apply Sims.cons);(focus(first|((apply Ef.sim_row);assumption)|exact Ef.sim_refl _))))));kernel_rfl;(with_reducible refine hR _ ?_);clear hR R)|((first|((with_reducible apply Q0r);rfl;rfl;rfl;rfl)|((with_reducible apply Q0n);rfl;rfl;rfl)|((first|((with_reducible apply Q1m);rfl;rfl)|((with_reducible apply Q1p);rfl;rfl;rfl;rfl;rfl));((apply Q1g (lf);rfl;rfl;rfl;rfl;exact Try.func70);kernel_rfl;rfl;(focus((simp(disch:=omega) only[go_sem,W,Q0a,Nat.mul_one]);(try rfl);done));(first|rfl|simp[AV.inNL,AV.inN])))|((first|((with_reducible apply Q0u);rfl;rfl)|((with_reducible apply Q0s);rfl;rfl;rfl;rfl;rfl));(simp(disch:=omega) only[rdE,rdOf,go_sem,W,Q0a,Nat.mul_one];rfl);(intro τ hA hQ hN;((try simp only[Q1h,Op.operands,Call.operands,go_sem,W,Q0a,Nat.mul_one,go_sem,List.mem_cons,List.not_mem_nil,forall_eq_or_imp,forall_eq,List.append_toArray,Option.toArray] at hA);(try simp only[go_sem,W,Q0a,Nat.mul_one,List.mem_cons,List.not_mem_nil,forall_eq_or_imp,forall_eq] at hQ hN);(first|(revert hA;intro hA)|have hA:=trivial);(first|(revert hQ;intro hQ)|have hQ:=trivial);(first|(revert hN;intro hN)|have hN:=trivial);simp(disch:=omega) only[go_sem,W,Q0a,Nat.mul_one,go_sem,hA,hQ,hN];(repeat(refine ndI (by first|assumption|omega|rfl) ?_));(first|apply Q1b|apply Q1a|apply Q0w)))));(simp(disch:=omega) only[St.eff,setO,Q0q,go_sem,W,Q0a,Nat.mul_one]))|((with_reducible apply Q0o);rfl;rfl;rfl;all_goals intro hb;all_goals(simp(disch:=omega) only[St.eff,setO,Q0q,go_sem,W,Q0a,Nat.mul_one]))|((with_reducible refine Q0p ?_ ?_ ?_ ?_);kernel_rfl;kernel_rfl;(simp[Q0m,Q1j,St.free,Q1i,AV.refsL,AV.refs,Q0a]);intro R hR)))))
       all_goals exact hN1 _ (St.le_of (by simp[leT]) (by simp[leH,hget]))
   · have k1:decide ((i2:Int)≤(v:Int))=false:=decide_eq_false (by omega)
     have hu2:=(Q4t (p:=(pV d1 a)) (d:=d1) (fun h=>hij h.1)).symm.trans hu
     rw[←hu2] at hJ
     clear hu hu2
     (repeat(any_goals(first|((with_reducible refine Q0g ?_ ?_);rfl;intro K hK;simp(disch:=omega) only[go_sem,k1,Q0a,Nat.mul_one,wrI];((repeat(refine ndI (by first|assumption|omega|rfl) ?_));refine hK _ ?_;clear hK K))|(with_reducible first|(refine Q0i ?_;refine hR _ ?_;clear hR R)|((first|refine Q0h ?_|refine Q0c ?_);intro Ψ hΨ hΨ')|(refine Q0b ?_;intro R hR)|(refine hΨ _ ?_;clear hΨ hΨ' Ψ)|refine Q0d ?_|refine Q0j ?_|refine Q0e ?_)|((with_reducible refine hΨ' _ _ ?_ ?_);(focus(simp;done));clear hΨ hΨ' Ψ)|((with_reducible apply Q0f);rfl;rfl;all_goals(intro hc;first|(cases hc;done)|(try simp only at hc)))|((with_reducible refine Q0t ?_ ?_);(apply Q1f);(focus(repeat(first|exact Sims.nil|((apply Sims.cons);(focus(first|((apply Ef.sim_row);assumption)|exact Ef.sim_refl _))))));kernel_rfl;(with_reducible refine hR _ ?_);clear hR R)|((first|((with_reducible apply Q0r);rfl;rfl;rfl;rfl)|((with_reducible apply Q0n);rfl;rfl;rfl)|((first|((with_reducible apply Q0u);rfl;rfl)|((with_reducible apply Q0s);rfl;rfl;rfl;rfl;rfl));(simp(disch:=omega) only[rdE,rdOf,go_sem,k1,Q0a,Nat.mul_one,wrI];rfl);(intro τ hA hQ hN;((try simp only[Q1h,Op.operands,Call.operands,go_sem,k1,Q0a,Nat.mul_one,wrI,go_sem,List.mem_cons,List.not_mem_nil,forall_eq_or_imp,forall_eq,List.append_toArray,Option.toArray] at hA);(try simp only[go_sem,k1,Q0a,Nat.mul_one,wrI,List.mem_cons,List.not_mem_nil,forall_eq_or_imp,forall_eq] at hQ hN);(first|(revert hA;intro hA)|have hA:=trivial);(first|(revert hQ;intro hQ)|have hQ:=trivial);(first|(revert hN;intro hN)|have hN:=trivial);simp(disch:=omega) only[go_sem,k1,Q0a,Nat.mul_one,wrI,go_sem,hA,hQ,hN];(repeat(refine ndI (by first|assumption|omega|rfl) ?_));(first|apply Q1b|apply Q1a|apply Q0w)))));(simp(disch:=omega) only[St.eff,setO,Q0q,go_sem,k1,Q0a,Nat.mul_one,wrI]))|((with_reducible apply Q0o);rfl;rfl;rfl;all_goals intro hb;all_goals(simp(disch:=omega) only[St.eff,setO,Q0q,go_sem,k1,Q0a,Nat.mul_one,wrI]))|((with_reducible refine Q0p ?_ ?_ ?_ ?_);kernel_rfl;kernel_rfl;(simp[Q0m,Q1j,St.free,Q1i,AV.refsL,AV.refs,Q0a]);intro R hR))))
     all_goals exact hJ _ (St.le_of (by simp[leT]) (by simp[leH,hget]))
 by_cases hgt:i2>j2
 · have k1:decide ((i2:Int)>(j2:Int))=true:=decide_eq_true (by omega)
   rw[if_pos hgt] at pe
   simp only[Prod.mk.injEq] at pe
   obtain⟨p1,p2,p3⟩:=pe
   have z0:=Q1z d1
   rw[hs] at z0
   have z1:=Q2o d1 (j:=j2) (by omega)
   have z2:=Q2o d1 (j:=a) (by omega)
   obtain⟨t1,t2⟩:=Q3p d1 (i:=j2) (j:=a) (by omega) (by omega)
   have z4:(rI (d1.setIfInBounds j2 d1[a]!)).length=n:=by rw[Q1z,Array.size_setIfInBounds];exact hs
   generalize d1.setIfInBounds j2 d1[a]! = e1 at t1 t2 z4
   generalize d1[j2]! = zi at *
   generalize d1[a]! = zj at *
   (have W:=ndI k1 (ndI z0 (ndI z1 (ndI z2 (ndI z4 (ndI t1 (ndI t2 @wrI))))));(repeat(any_goals(first|((with_reducible refine Q0g ?_ ?_);rfl;intro K hK;simp(disch:=omega) only[go_sem,W,Q0a,Nat.mul_one];((repeat(refine ndI (by first|assumption|omega|rfl) ?_));refine hK _ ?_;clear hK K))|(with_reducible first|(refine Q0i ?_;refine hR _ ?_;clear hR R)|((first|refine Q0h ?_|refine Q0c ?_);intro Ψ hΨ hΨ')|(refine Q0b ?_;intro R hR)|(refine hΨ _ ?_;clear hΨ hΨ' Ψ)|refine Q0d ?_|refine Q0j ?_|refine Q0e ?_)|((with_reducible refine hΨ' _ _ ?_ ?_);(focus(simp;done));clear hΨ hΨ' Ψ)|((with_reducible apply Q0f);rfl;rfl;all_goals(intro hc;first|(cases hc;done)|(try simp only at hc)))|((with_reducible refine Q0t ?_ ?_);(apply Q1f);(focus(repeat(first|exact Sims.nil|((apply Sims.cons);(focus(first|((apply Ef.sim_row);assumption)|exact Ef.sim_refl _))))));kernel_rfl;(with_reducible refine hR _ ?_);clear hR R)|((first|((with_reducible apply Q0r);rfl;rfl;rfl;rfl)|((with_reducible apply Q0n);rfl;rfl;rfl)|((first|((with_reducible apply Q0u);rfl;rfl)|((with_reducible apply Q0s);rfl;rfl;rfl;rfl;rfl));(simp(disch:=omega) only[rdE,rdOf,go_sem,W,Q0a,Nat.mul_one];rfl);(intro τ hA hQ hN;((try simp only[Q1h,Op.operands,Call.operands,go_sem,W,Q0a,Nat.mul_one,go_sem,List.mem_cons,List.not_mem_nil,forall_eq_or_imp,forall_eq,List.append_toArray,Option.toArray] at hA);(try simp only[go_sem,W,Q0a,Nat.mul_one,List.mem_cons,List.not_mem_nil,forall_eq_or_imp,forall_eq] at hQ hN);(first|(revert hA;intro hA)|have hA:=trivial);(first|(revert hQ;intro hQ)|have hQ:=trivial);(first|(revert hN;intro hN)|have hN:=trivial);simp(disch:=omega) only[go_sem,W,Q0a,Nat.mul_one,go_sem,hA,hQ,hN];(repeat(refine ndI (by first|assumption|omega|rfl) ?_));(first|apply Q1b|apply Q1a|apply Q0w)))));(simp(disch:=omega) only[St.eff,setO,Q0q,go_sem,W,Q0a,Nat.mul_one]))|((with_reducible apply Q0o);rfl;rfl;rfl;all_goals intro hb;all_goals(simp(disch:=omega) only[St.eff,setO,Q0q,go_sem,W,Q0a,Nat.mul_one]))|((with_reducible refine Q0p ?_ ?_ ?_ ?_);kernel_rfl;kernel_rfl;(simp[Q0m,Q1j,St.free,Q1i,AV.refsL,AV.refs,Q0a]);intro R hR)))))
   all_goals rw[p1,p2,p3]
   all_goals(refine⟨by simp,⟨_,?_,AV.le_refl _⟩,Q0y (by simp[leH,hget])⟩;simp only[Try.results72,resL,ldA,Q1o,go_sem])
 have k1:decide ((i2:Int)>(j2:Int))=false:=decide_eq_false (by omega)
 rw[if_neg hgt] at pe
 have lt3:=lt2 hgt
 have pb:=ploop_bd a _ (i2+1) (j2-1) (Sort.swp d1 i2 j2) (Nat.le_refl _) (by omega) (by omega)
 have hs2:(Sort.swp d1 i2 j2).size=n:=by rw[Q2m];exact hs
 rw[hs2] at pb
 obtain⟨⟨jf,d3⟩,hq⟩:∃q,Sort.partLoop ltI a (i2+1) (j2-1) (Sort.swp d1 i2 j2)=q:=⟨_,rfl⟩
 rw[hq] at pb pe
 simp only[Prod.mk.injEq] at pe
 dsimp only at pb
 obtain⟨p1,p2,p3⟩:=pe
 obtain⟨d2,hd2⟩:∃d2,Sort.swp d1 i2 j2=d2:=⟨_,rfl⟩
 have w3:(i2:Int)+1=((i2+1:Nat):Int):=by omega
 have w4:(j2:Int)-1=((j2-1:Nat):Int):=by omega
 have hj2n:j2-1<n:=by omega
 have z0:=Q1z d1
 rw[hs] at z0
 have z1:=Q2o d1 (j:=i2) (by omega)
 have z2:=Q2o d1 (j:=j2) (by omega)
 obtain⟨t1,t2⟩:=Q3p d1 (i:=i2) (j:=j2) (by omega) (by omega)
 have z4:(rI (d1.setIfInBounds i2 d1[j2]!)).length=n:=by rw[Q1z,Array.size_setIfInBounds];exact hs
 generalize d1.setIfInBounds i2 d1[j2]! = e1 at t1 t2 z4
 generalize d1[i2]! = zi at *
 generalize d1[j2]! = zj at *
 rw[hd2] at t2 hs2 hq
 clear hi2 hj2 lt2 hd2
 (have W:=ndI k1 (ndI w3 (ndI w4 (ndI z0 (ndI z1 (ndI z2 (ndI z4 (ndI t1 (ndI t2 @wrI))))))));(repeat(any_goals(first|((with_reducible refine Q0g ?_ ?_);rfl;intro K hK;simp(disch:=omega) only[go_sem,W,Q0a,Nat.mul_one];((repeat(refine ndI (by first|assumption|omega|rfl) ?_));refine hK _ ?_;clear hK K))|(with_reducible first|(refine Q0i ?_;refine hR _ ?_;clear hR R)|((first|refine Q0h ?_|refine Q0c ?_);intro Ψ hΨ hΨ')|(refine Q0b ?_;intro R hR)|(refine hΨ _ ?_;clear hΨ hΨ' Ψ)|refine Q0d ?_|refine Q0j ?_|refine Q0e ?_)|((with_reducible refine hΨ' _ _ ?_ ?_);(focus(simp;done));clear hΨ hΨ' Ψ)|((with_reducible apply Q0f);rfl;rfl;all_goals(intro hc;first|(cases hc;done)|(try simp only at hc)))|((with_reducible refine Q0t ?_ ?_);(apply Q1f);(focus(repeat(first|exact Sims.nil|((apply Sims.cons);(focus(first|((apply Ef.sim_row);assumption)|exact Ef.sim_refl _))))));kernel_rfl;(with_reducible refine hR _ ?_);clear hR R)|((first|((with_reducible apply Q0r);rfl;rfl;rfl;rfl)|((with_reducible apply Q0n);rfl;rfl;rfl)|((first|((with_reducible apply Q0u);rfl;rfl)|((with_reducible apply Q0s);rfl;rfl;rfl;rfl;rfl));(simp(disch:=omega) only[rdE,rdOf,go_sem,W,Q0a,Nat.mul_one];rfl);(intro τ hA hQ hN;((try simp only[Q1h,Op.operands,Call.operands,go_sem,W,Q0a,Nat.mul_one,go_sem,List.mem_cons,List.not_mem_nil,forall_eq_or_imp,forall_eq,List.append_toArray,Option.toArray] at hA);(try simp only[go_sem,W,Q0a,Nat.mul_one,List.mem_cons,List.not_mem_nil,forall_eq_or_imp,forall_eq] at hQ hN);(first|(revert hA;intro hA)|have hA:=trivial);(first|(revert hQ;intro hQ)|have hQ:=trivial);(first|(revert hN;intro hN)|have hN:=trivial);simp(disch:=omega) only[go_sem,W,Q0a,Nat.mul_one,go_sem,hA,hQ,hN];(repeat(refine ndI (by first|assumption|omega|rfl) ?_));(first|apply Q1b|apply Q1a|apply Q0w)))));(simp(disch:=omega) only[St.eff,setO,Q0q,go_sem,W,Q0a,Nat.mul_one]))|((with_reducible apply Q0o);rfl;rfl;rfl;all_goals intro hb;all_goals(simp(disch:=omega) only[St.eff,setO,Q0q,go_sem,W,Q0a,Nat.mul_one]))|((with_reducible refine Q0p ?_ ?_ ?_ ?_);kernel_rfl;kernel_rfl;(simp[Q0m,Q1j,St.free,Q1i,AV.refsL,AV.refs,Q0a]);intro R hR)))))
 refine Q2z 4 (stPu d3 n a b pv jf) (α:={q:(Nat×Nat)×Array Int // a+1≤q.1.1∧q.1.1≤q.1.2+1∧q.1.2<n∧q.2.size=n∧Sort.partLoop ltI a q.1.1 q.1.2 q.2=(jf,d3)}) (fun q=>stPt q.1.2 n a b pv q.1.1.1 q.1.1.2) (fun q=>q.1.1.2+1-q.1.1.1) ⟨((i2+1,j2-1),d2),by dsimp only;omega,by dsimp only;omega,hj2n,hs2,hq⟩ (St.le_of (by simp[leT]) (by simp[leH,hget])) ?_ ?_
 rotate_left
 · clear hq hs2 hj2n lt3 v1 v2 v3 v4 hgt
   rintro ⟨⟨⟨i,j⟩,d⟩,g1,g2,g3,hs,hq⟩ Ψr hN hJ
   (try dsimp only at g1 g2 g3 hs hq hN ⊢)
   obtain⟨i2,hi2⟩:∃i2,Sort.scanUp (pU d a) d j i=i2:=⟨_,rfl⟩
   obtain⟨j2,hj2⟩:∃j2,Sort.scanDown (pV d a) d i2 j=j2:=⟨_,rfl⟩
   have u1:=Sort.scanUp_spec (pU d a) d j _ i rfl
   have u2:=Sort.scanDown_spec (pV d a) d i2 j
   rw[hi2] at u1
   rw[hj2] at u2
   have v1:=u1.1
   have v2:=u1.2.1 g2
   have v3:=u2.1
   have v4:=u2.2.1 v2
   have lt2:=Q7x (by omega) hi2 hj2
   rw[X0f hi2 hj2] at hq
   clear u1 u2
   (repeat(any_goals(first|((with_reducible refine Q0g ?_ ?_);rfl;intro K hK;simp(disch:=omega) only[go_sem];((repeat(refine ndI (by first|assumption|omega|rfl) ?_));refine hK _ ?_;clear hK K))|(with_reducible first|(refine Q0i ?_;refine hR _ ?_;clear hR R)|((first|refine Q0h ?_|refine Q0c ?_);intro Ψ hΨ hΨ')|(refine Q0b ?_;intro R hR)|(refine hΨ _ ?_;clear hΨ hΨ' Ψ)|refine Q0d ?_|refine Q0j ?_|refine Q0e ?_)|((with_reducible refine hΨ' _ _ ?_ ?_);(focus(simp;done));clear hΨ hΨ' Ψ)|((with_reducible apply Q0f);rfl;rfl;all_goals(intro hc;first|(cases hc;done)|(try simp only at hc)))|((with_reducible refine Q0t ?_ ?_);kernel_rfl;(with_reducible refine hR _ ?_);clear hR R)|((first|((with_reducible apply Q0r);rfl;rfl;rfl;rfl)|((with_reducible apply Q0n);rfl;rfl;rfl)|((first|((with_reducible apply Q0u);rfl;rfl)|((with_reducible apply Q0s);rfl;rfl;rfl;rfl;rfl));(simp(disch:=omega) only[rdE,rdOf,go_sem];rfl);(intro τ hA hQ hN;((try simp only[Q1h,Op.operands,Call.operands,go_sem,List.mem_cons,List.not_mem_nil,forall_eq_or_imp,forall_eq,List.append_toArray,Option.toArray] at hA);(try simp only[go_sem,List.mem_cons,List.not_mem_nil,forall_eq_or_imp,forall_eq] at hQ hN);(first|(revert hA;intro hA)|have hA:=trivial);(first|(revert hQ;intro hQ)|have hQ:=trivial);(first|(revert hN;intro hN)|have hN:=trivial);simp(disch:=omega) only[go_sem,hA,hQ,hN];(repeat(refine ndI (by first|assumption|omega|rfl) ?_));(first|apply Q1b|apply Q1a|apply Q0w)))));(simp(disch:=omega) only[St.eff,setO,Q0q,go_sem]))|((with_reducible apply Q0o);rfl;rfl;rfl;all_goals intro hb;all_goals(simp(disch:=omega) only[St.eff,setO,Q0q,go_sem]))|((with_reducible refine Q0p ?_ ?_ ?_ ?_);kernel_rfl;kernel_rfl;(first|kernel_rfl|simp[Q0m,Q1j,St.free,Q1i,AV.refsL,AV.refs]);intro R hR))))
   refine Q2z 6 (stPt d n a b pv i2 j) (α:={u:Nat // a+1≤u∧u≤j+1∧Sort.scanUp (pU d a) d j u=i2}) (fun q=>stPt d n a b pv q.1 j) (fun q=>j+1-q.1) ⟨i,by omega,by omega,hi2⟩ (St.le_of (by simp[leT]) (by simp[leH,hget])) ?_ ?_
   rotate_left
   · rintro ⟨u,c1,c2,hu⟩ Ψ hN hJ
     (try dsimp only at c1 c2 hu hN ⊢)
     have y0:=Q1z d
     rw[hs] at y0
     by_cases hij:u≤j
     · have k1:decide ((u:Int)≤(j:Int))=true:=decide_eq_true (by omega)
       have y1:=Q2o d (j:=u) (by omega)
       have y2:=Q2o d (j:=a) (by omega)
       have lf:=Q3a d[u]! d[a]!
       have w1:(u:Int)+1=((u+1:Nat):Int):=by omega
       by_cases hlt:d[u]! < d[a]!
       · have c3:decide (d[u]! < d[a]!)=true:=decide_eq_true hlt
         rw[c3] at lf
         have hu2:=(up_go (p:=(pU d a)) (d:=d) hij c3).symm.trans hu
         have hN1:∀σ':St,σ'.le (stPt d n a b pv (u+1) j)→Ψ .normal σ':=fun σ' h=>hN σ' ⟨u+1,by omega,by omega,hu2⟩ (by dsimp only;omega) h
         clear hu hu2 hlt c3
         generalize d[u]! = zx at *
         generalize d[a]! = zy at *
         (have W:=ndI k1 (ndI w1 (ndI y0 (ndI y1 (ndI y2 @wrI))));(repeat(any_goals(first|((with_reducible refine Q0g ?_ ?_);rfl;intro K hK;simp(disch:=omega) only[go_sem,W,Q0a,Nat.mul_one];((repeat(refine ndI (by first|assumption|omega|rfl) ?_));refine hK _ ?_;clear hK K))|(with_reducible first|(refine Q0i ?_;refine hR _ ?_;clear hR R)|((first|refine Q0h ?_|refine Q0c ?_);intro Ψ hΨ hΨ')|(refine Q0b ?_;intro R hR)|(refine hΨ _ ?_;clear hΨ hΨ' Ψ)|refine Q0d ?_|refine Q0j ?_|refine Q0e ?_)|((with_reducible refine hΨ' _ _ ?_ ?_);(focus(simp;done));clear hΨ hΨ' Ψ)|((with_reducible apply Q0f);rfl;rfl;all_goals(intro hc;first|(cases hc;done)|(try simp only at hc)))|((with_reducible refine Q0t ?_ ?_);(apply Q1f);(focus(repeat(first|exact Sims.nil|((apply Sims.cons);(focus(first|((apply Ef.sim_row);assumption)|exact Ef.sim_refl _))))));kernel_rfl;(with_reducible refine hR _ ?_);clear hR R)|((first|((with_reducible apply Q0r);rfl;rfl;rfl;rfl)|((with_reducible apply Q0n);rfl;rfl;rfl)|((first|((with_reducible apply Q1m);rfl;rfl)|((with_reducible apply Q1p);rfl;rfl;rfl;rfl;rfl));((apply Q1g (lf);rfl;rfl;rfl;rfl;exact Try.func70);kernel_rfl;rfl;(focus((simp(disch:=omega) only[go_sem,W,Q0a,Nat.mul_one]);(try rfl);done));(first|rfl|simp[AV.inNL,AV.inN])))|((first|((with_reducible apply Q0u);rfl;rfl)|((with_reducible apply Q0s);rfl;rfl;rfl;rfl;rfl));(simp(disch:=omega) only[rdE,rdOf,go_sem,W,Q0a,Nat.mul_one];rfl);(intro τ hA hQ hN;((try simp only[Q1h,Op.operands,Call.operands,go_sem,W,Q0a,Nat.mul_one,go_sem,List.mem_cons,List.not_mem_nil,forall_eq_or_imp,forall_eq,List.append_toArray,Option.toArray] at hA);(try simp only[go_sem,W,Q0a,Nat.mul_one,List.mem_cons,List.not_mem_nil,forall_eq_or_imp,forall_eq] at hQ hN);(first|(revert hA;intro hA)|have hA:=trivial);(first|(revert hQ;intro hQ)|have hQ:=trivial);(first|(revert hN;intro hN)|have hN:=trivial);simp(disch:=omega) only[go_sem,W,Q0a,Nat.mul_one,go_sem,hA,hQ,hN];(repeat(refine ndI (by first|assumption|omega|rfl) ?_));(first|apply Q1b|apply Q1a|apply Q0w)))));(simp(disch:=omega) only[St.eff,setO,Q0q,go_sem,W,Q0a,Nat.mul_one]))|((with_reducible apply Q0o);rfl;rfl;rfl;all_goals intro hb;all_goals(simp(disch:=omega) only[St.eff,setO,Q0q,go_sem,W,Q0a,Nat.mul_one]))|((with_reducible refine Q0p ?_ ?_ ?_ ?_);kernel_rfl;kernel_rfl;(simp[Q0m,Q1j,St.free,Q1i,AV.refsL,AV.refs,Q0a]);intro R hR)))))
         all_goals exact hN1 _ (St.le_of (by simp[leT]) (by simp[leH,hget]))
       · have c3:decide (d[u]! < d[a]!)=false:=decide_eq_false hlt
         rw[c3] at lf
         have hu2:=(Q7c (p:=(pU d a)) (d:=d) (fun h=>absurd (show(decide (d[u]! < d[a]!))=true from h.2) (by rw[c3];simp))).symm.trans hu
         rw[←hu2] at hJ
         clear hu hu2 hlt c3
         generalize d[u]! = zx at *
         generalize d[a]! = zy at *
         (have W:=ndI k1 (ndI w1 (ndI y0 (ndI y1 (ndI y2 @wrI))));(repeat(any_goals(first|((with_reducible refine Q0g ?_ ?_);rfl;intro K hK;simp(disch:=omega) only[go_sem,W,Q0a,Nat.mul_one];((repeat(refine ndI (by first|assumption|omega|rfl) ?_));refine hK _ ?_;clear hK K))|(with_reducible first|(refine Q0i ?_;refine hR _ ?_;clear hR R)|((first|refine Q0h ?_|refine Q0c ?_);intro Ψ hΨ hΨ')|(refine Q0b ?_;intro R hR)|(refine hΨ _ ?_;clear hΨ hΨ' Ψ)|refine Q0d ?_|refine Q0j ?_|refine Q0e ?_)|((with_reducible refine hΨ' _ _ ?_ ?_);(focus(simp;done));clear hΨ hΨ' Ψ)|((with_reducible apply Q0f);rfl;rfl;all_goals(intro hc;first|(cases hc;done)|(try simp only at hc)))|((with_reducible refine Q0t ?_ ?_);(apply Q1f);(focus(repeat(first|exact Sims.nil|((apply Sims.cons);(focus(first|((apply Ef.sim_row);assumption)|exact Ef.sim_refl _))))));kernel_rfl;(with_reducible refine hR _ ?_);clear hR R)|((first|((with_reducible apply Q0r);rfl;rfl;rfl;rfl)|((with_reducible apply Q0n);rfl;rfl;rfl)|((first|((with_reducible apply Q1m);rfl;rfl)|((with_reducible apply Q1p);rfl;rfl;rfl;rfl;rfl));((apply Q1g (lf);rfl;rfl;rfl;rfl;exact Try.func70);kernel_rfl;rfl;(focus((simp(disch:=omega) only[go_sem,W,Q0a,Nat.mul_one]);(try rfl);done));(first|rfl|simp[AV.inNL,AV.inN])))|((first|((with_reducible apply Q0u);rfl;rfl)|((with_reducible apply Q0s);rfl;rfl;rfl;rfl;rfl));(simp(disch:=omega) only[rdE,rdOf,go_sem,W,Q0a,Nat.mul_one];rfl);(intro τ hA hQ hN;((try simp only[Q1h,Op.operands,Call.operands,go_sem,W,Q0a,Nat.mul_one,go_sem,List.mem_cons,List.not_mem_nil,forall_eq_or_imp,forall_eq,List.append_toArray,Option.toArray] at hA);(try simp only[go_sem,W,Q0a,Nat.mul_one,List.mem_cons,List.not_mem_nil,forall_eq_or_imp,forall_eq] at hQ hN);(first|(revert hA;intro hA)|have hA:=trivial);(first|(revert hQ;intro hQ)|have hQ:=trivial);(first|(revert hN;intro hN)|have hN:=trivial);simp(disch:=omega) only[go_sem,W,Q0a,Nat.mul_one,go_sem,hA,hQ,hN];(repeat(refine ndI (by first|assumption|omega|rfl) ?_));(first|apply Q1b|apply Q1a|apply Q0w)))));(simp(disch:=omega) only[St.eff,setO,Q0q,go_sem,W,Q0a,Nat.mul_one]))|((with_reducible apply Q0o);rfl;rfl;rfl;all_goals intro hb;all_goals(simp(disch:=omega) only[St.eff,setO,Q0q,go_sem,W,Q0a,Nat.mul_one]))|((with_reducible refine Q0p ?_ ?_ ?_ ?_);kernel_rfl;kernel_rfl;(simp[Q0m,Q1j,St.free,Q1i,AV.refsL,AV.refs,Q0a]);intro R hR)))))
         all_goals exact hJ _ (St.le_of (by simp[leT]) (by simp[leH,hget]))
     · have k1:decide ((u:Int)≤(j:Int))=false:=decide_eq_false (by omega)
       have hu2:=(Q7c (p:=(pU d a)) (d:=d) (fun h=>hij h.1)).symm.trans hu
       rw[←hu2] at hJ
       clear hu hu2
       (repeat(any_goals(first|((with_reducible refine Q0g ?_ ?_);rfl;intro K hK;simp(disch:=omega) only[go_sem,k1,Q0a,Nat.mul_one,wrI];((repeat(refine ndI (by first|assumption|omega|rfl) ?_));refine hK _ ?_;clear hK K))|(with_reducible first|(refine Q0i ?_;refine hR _ ?_;clear hR R)|((first|refine Q0h ?_|refine Q0c ?_);intro Ψ hΨ hΨ')|(refine Q0b ?_;intro R hR)|(refine hΨ _ ?_;clear hΨ hΨ' Ψ)|refine Q0d ?_|refine Q0j ?_|refine Q0e ?_)|((with_reducible refine hΨ' _ _ ?_ ?_);(focus(simp;done));clear hΨ hΨ' Ψ)|((with_reducible apply Q0f);rfl;rfl;all_goals(intro hc;first|(cases hc;done)|(try simp only at hc)))|((with_reducible refine Q0t ?_ ?_);(apply Q1f);(focus(repeat(first|exact Sims.nil|((apply Sims.cons);(focus(first|((apply Ef.sim_row);assumption)|exact Ef.sim_refl _))))));kernel_rfl;(with_reducible refine hR _ ?_);clear hR R)|((first|((with_reducible apply Q0r);rfl;rfl;rfl;rfl)|((with_reducible apply Q0n);rfl;rfl;rfl)|((first|((with_reducible apply Q0u);rfl;rfl)|((with_reducible apply Q0s);rfl;rfl;rfl;rfl;rfl));(simp(disch:=omega) only[rdE,rdOf,go_sem,k1,Q0a,Nat.mul_one,wrI];rfl);(intro τ hA hQ hN;((try simp only[Q1h,Op.operands,Call.operands,go_sem,k1,Q0a,Nat.mul_one,wrI,go_sem,List.mem_cons,List.not_mem_nil,forall_eq_or_imp,forall_eq,List.append_toArray,Option.toArray] at hA);(try simp only[go_sem,k1,Q0a,Nat.mul_one,wrI,List.mem_cons,List.not_mem_nil,forall_eq_or_imp,forall_eq] at hQ hN);(first|(revert hA;intro hA)|have hA:=trivial);(first|(revert hQ;intro hQ)|have hQ:=trivial);(first|(revert hN;intro hN)|have hN:=trivial);simp(disch:=omega) only[go_sem,k1,Q0a,Nat.mul_one,wrI,go_sem,hA,hQ,hN];(repeat(refine ndI (by first|assumption|omega|rfl) ?_));(first|apply Q1b|apply Q1a|apply Q0w)))));(simp(disch:=omega) only[St.eff,setO,Q0q,go_sem,k1,Q0a,Nat.mul_one,wrI]))|((with_reducible apply Q0o);rfl;rfl;rfl;all_goals intro hb;all_goals(simp(disch:=omega) only[St.eff,setO,Q0q,go_sem,k1,Q0a,Nat.mul_one,wrI]))|((with_reducible refine Q0p ?_ ?_ ?_ ?_);kernel_rfl;kernel_rfl;(simp[Q0m,Q1j,St.free,Q1i,AV.refsL,AV.refs,Q0a]);intro R hR))))
       all_goals exact hJ _ (St.le_of (by simp[leT]) (by simp[leH,hget]))
   (repeat(any_goals(first|((with_reducible refine Q0g ?_ ?_);rfl;intro K hK;simp(disch:=omega) only[go_sem];((repeat(refine ndI (by first|assumption|omega|rfl) ?_));refine hK _ ?_;clear hK K))|(with_reducible first|(refine Q0i ?_;refine hR _ ?_;clear hR R)|((first|refine Q0h ?_|refine Q0c ?_);intro Ψ hΨ hΨ')|(refine Q0b ?_;intro R hR)|(refine hΨ _ ?_;clear hΨ hΨ' Ψ)|refine Q0d ?_|refine Q0j ?_|refine Q0e ?_)|((with_reducible refine hΨ' _ _ ?_ ?_);(focus(simp;done));clear hΨ hΨ' Ψ)|((with_reducible apply Q0f);rfl;rfl;all_goals(intro hc;first|(cases hc;done)|(try simp only at hc)))|((with_reducible refine Q0t ?_ ?_);kernel_rfl;(with_reducible refine hR _ ?_);clear hR R)|((first|((with_reducible apply Q0r);rfl;rfl;rfl;rfl)|((with_reducible apply Q0n);rfl;rfl;rfl)|((first|((with_reducible apply Q0u);rfl;rfl)|((with_reducible apply Q0s);rfl;rfl;rfl;rfl;rfl));(simp(disch:=omega) only[rdE,rdOf,go_sem];rfl);(intro τ hA hQ hN;((try simp only[Q1h,Op.operands,Call.operands,go_sem,List.mem_cons,List.not_mem_nil,forall_eq_or_imp,forall_eq,List.append_toArray,Option.toArray] at hA);(try simp only[go_sem,List.mem_cons,List.not_mem_nil,forall_eq_or_imp,forall_eq] at hQ hN);(first|(revert hA;intro hA)|have hA:=trivial);(first|(revert hQ;intro hQ)|have hQ:=trivial);(first|(revert hN;intro hN)|have hN:=trivial);simp(disch:=omega) only[go_sem,hA,hQ,hN];(repeat(refine ndI (by first|assumption|omega|rfl) ?_));(first|apply Q1b|apply Q1a|apply Q0w)))));(simp(disch:=omega) only[St.eff,setO,Q0q,go_sem]))|((with_reducible apply Q0o);rfl;rfl;rfl;all_goals intro hb;all_goals(simp(disch:=omega) only[St.eff,setO,Q0q,go_sem]))|((with_reducible refine Q0p ?_ ?_ ?_ ?_);kernel_rfl;kernel_rfl;(first|kernel_rfl|simp[Q0m,Q1j,St.free,Q1i,AV.refsL,AV.refs]);intro R hR))))
   refine Q2z 8 (stPt d n a b pv i2 j2) (α:={v:Nat // v≤j∧i2≤v+1∧Sort.scanDown (pV d a) d i2 v=j2}) (fun q=>stPt d n a b pv i2 q.1) (fun q=>q.1) ⟨j,by omega,by omega,hj2⟩ (St.le_of (by simp[leT]) (by simp[leH,hget])) ?_ ?_
   rotate_left
   · rintro ⟨v,c1,c2,hu⟩ Ψ hN hJ
     (try dsimp only at c1 c2 hu hN ⊢)
     have y0:=Q1z d
     rw[hs] at y0
     by_cases hij:i2≤v
     · have k1:decide ((i2:Int)≤(v:Int))=true:=decide_eq_true (by omega)
       have y1:=Q2o d (j:=v) (by omega)
       have y2:=Q2o d (j:=a) (by omega)
       have lf:=Q3a d[v]! d[a]!
       have w1:(v:Int)-1=((v-1:Nat):Int):=by omega
       by_cases hlt:d[v]! < d[a]!
       · have c3:decide (d[v]! < d[a]!)=true:=decide_eq_true hlt
         rw[c3] at lf
         have hu2:=(Q4t (p:=(pV d a)) (d:=d) (fun h=>absurd (show(!decide (d[v]! < d[a]!))=true from h.2) (by rw[c3];simp))).symm.trans hu
         rw[←hu2] at hJ
         clear hu hu2 hlt c3
         generalize d[v]! = zx at *
         generalize d[a]! = zy at *
         (have W:=ndI k1 (ndI w1 (ndI y0 (ndI y1 (ndI y2 @wrI))));(repeat(any_goals(first|((with_reducible refine Q0g ?_ ?_);rfl;intro K hK;simp(disch:=omega) only[go_sem,W,Q0a,Nat.mul_one];((repeat(refine ndI (by first|assumption|omega|rfl) ?_));refine hK _ ?_;clear hK K))|(with_reducible first|(refine Q0i ?_;refine hR _ ?_;clear hR R)|((first|refine Q0h ?_|refine Q0c ?_);intro Ψ hΨ hΨ')|(refine Q0b ?_;intro R hR)|(refine hΨ _ ?_;clear hΨ hΨ' Ψ)|refine Q0d ?_|refine Q0j ?_|refine Q0e ?_)|((with_reducible refine hΨ' _ _ ?_ ?_);(focus(simp;done));clear hΨ hΨ' Ψ)|((with_reducible apply Q0f);rfl;rfl;all_goals(intro hc;first|(cases hc;done)|(try simp only at hc)))|((with_reducible refine Q0t ?_ ?_);(apply Q1f);(focus(repeat(first|exact Sims.nil|((apply Sims.cons);(focus(first|((apply Ef.sim_row);assumption)|exact Ef.sim_refl _))))));kernel_rfl;(with_reducible refine hR _ ?_);clear hR R)|((first|((with_reducible apply Q0r);rfl;rfl;rfl;rfl)|((with_reducible apply Q0n);rfl;rfl;rfl)|((first|((with_reducible apply Q1m);rfl;rfl)|((with_reducible apply Q1p);rfl;rfl;rfl;rfl;rfl));((apply Q1g (lf);rfl;rfl;rfl;rfl;exact Try.func70);kernel_rfl;rfl;(focus((simp(disch:=omega) only[go_sem,W,Q0a,Nat.mul_one]);(try rfl);done));(first|rfl|simp[AV.inNL,AV.inN])))|((first|((with_reducible apply Q0u);rfl;rfl)|((with_reducible apply Q0s);rfl;rfl;rfl;rfl;rfl));(simp(disch:=omega) only[rdE,rdOf,go_sem,W,Q0a,Nat.mul_one];rfl);(intro τ hA hQ hN;((try simp only[Q1h,Op.operands,Call.operands,go_sem,W,Q0a,Nat.mul_one,go_sem,List.mem_cons,List.not_mem_nil,forall_eq_or_imp,forall_eq,List.append_toArray,Option.toArray] at hA);(try simp only[go_sem,W,Q0a,Nat.mul_one,List.mem_cons,List.not_mem_nil,forall_eq_or_imp,forall_eq] at hQ hN);(first|(revert hA;intro hA)|have hA:=trivial);(first|(revert hQ;intro hQ)|have hQ:=trivial);(first|(revert hN;intro hN)|have hN:=trivial);simp(disch:=omega) only[go_sem,W,Q0a,Nat.mul_one,go_sem,hA,hQ,hN];(repeat(refine ndI (by first|assumption|omega|rfl) ?_));(first|apply Q1b|apply Q1a|apply Q0w)))));(simp(disch:=omega) only[St.eff,setO,Q0q,go_sem,W,Q0a,Nat.mul_one]))|((with_reducible apply Q0o);rfl;rfl;rfl;all_goals intro hb;all_goals(simp(disch:=omega) only[St.eff,setO,Q0q,go_sem,W,Q0a,Nat.mul_one]))|((with_reducible refine Q0p ?_ ?_ ?_ ?_);kernel_rfl;kernel_rfl;(simp[Q0m,Q1j,St.free,Q1i,AV.refsL,AV.refs,Q0a]);intro R hR)))))
         all_goals exact hJ _ (St.le_of (by simp[leT]) (by simp[leH,hget]))
       · have c3:decide (d[v]! < d[a]!)=false:=decide_eq_false hlt
         rw[c3] at lf
         have hu2:=(X3v (p:=(pV d a)) (d:=d) hij (by omega) (by show(!decide _)=true;rw[c3];rfl)).symm.trans hu
         have hN1:∀σ':St,σ'.le (stPt d n a b pv i2 (v-1))→Ψ .normal σ':=fun σ' h=>hN σ' ⟨v-1,by omega,by omega,hu2⟩ (by dsimp only;omega) h
         clear hu hu2 hlt c3
         generalize d[v]! = zx at *
         generalize d[a]! = zy at *
         (have W:=ndI k1 (ndI w1 (ndI y0 (ndI y1 (ndI y2 @wrI))));(repeat(any_goals(first|((with_reducible refine Q0g ?_ ?_);rfl;intro K hK;simp(disch:=omega) only[go_sem,W,Q0a,Nat.mul_one];((repeat(refine ndI (by first|assumption|omega|rfl) ?_));refine hK _ ?_;clear hK K))|(with_reducible first|(refine Q0i ?_;refine hR _ ?_;clear hR R)|((first|refine Q0h ?_|refine Q0c ?_);intro Ψ hΨ hΨ')|(refine Q0b ?_;intro R hR)|(refine hΨ _ ?_;clear hΨ hΨ' Ψ)|refine Q0d ?_|refine Q0j ?_|refine Q0e ?_)|((with_reducible refine hΨ' _ _ ?_ ?_);(focus(simp;done));clear hΨ hΨ' Ψ)|((with_reducible apply Q0f);rfl;rfl;all_goals(intro hc;first|(cases hc;done)|(try simp only at hc)))|((with_reducible refine Q0t ?_ ?_);(apply Q1f);(focus(repeat(first|exact Sims.nil|((apply Sims.cons);(focus(first|((apply Ef.sim_row);assumption)|exact Ef.sim_refl _))))));kernel_rfl;(with_reducible refine hR _ ?_);clear hR R)|((first|((with_reducible apply Q0r);rfl;rfl;rfl;rfl)|((with_reducible apply Q0n);rfl;rfl;rfl)|((first|((with_reducible apply Q1m);rfl;rfl)|((with_reducible apply Q1p);rfl;rfl;rfl;rfl;rfl));((apply Q1g (lf);rfl;rfl;rfl;rfl;exact Try.func70);kernel_rfl;rfl;(focus((simp(disch:=omega) only[go_sem,W,Q0a,Nat.mul_one]);(try rfl);done));(first|rfl|simp[AV.inNL,AV.inN])))|((first|((with_reducible apply Q0u);rfl;rfl)|((with_reducible apply Q0s);rfl;rfl;rfl;rfl;rfl));(simp(disch:=omega) only[rdE,rdOf,go_sem,W,Q0a,Nat.mul_one];rfl);(intro τ hA hQ hN;((try simp only[Q1h,Op.operands,Call.operands,go_sem,W,Q0a,Nat.mul_one,go_sem,List.mem_cons,List.not_mem_nil,forall_eq_or_imp,forall_eq,List.append_toArray,Option.toArray] at hA);(try simp only[go_sem,W,Q0a,Nat.mul_one,List.mem_cons,List.not_mem_nil,forall_eq_or_imp,forall_eq] at hQ hN);(first|(revert hA;intro hA)|have hA:=trivial);(first|(revert hQ;intro hQ)|have hQ:=trivial);(first|(revert hN;intro hN)|have hN:=trivial);simp(disch:=omega) only[go_sem,W,Q0a,Nat.mul_one,go_sem,hA,hQ,hN];(repeat(refine ndI (by first|assumption|omega|rfl) ?_));(first|apply Q1b|apply Q1a|apply Q0w)))));(simp(disch:=omega) only[St.eff,setO,Q0q,go_sem,W,Q0a,Nat.mul_one]))|((with_reducible apply Q0o);rfl;rfl;rfl;all_goals intro hb;all_goals(simp(disch:=omega) only[St.eff,setO,Q0q,go_sem,W,Q0a,Nat.mul_one]))|((with_reducible refine Q0p ?_ ?_ ?_ ?_);kernel_rfl;kernel_rfl;(simp[Q0m,Q1j,St.free,Q1i,AV.refsL,AV.refs,Q0a]);intro R hR)))))
         all_goals exact hN1 _ (St.le_of (by simp[leT]) (by simp[leH,hget]))
     · have k1:decide ((i2:Int)≤(v:Int))=false:=decide_eq_false (by omega)
       have hu2:=(Q4t (p:=(pV d a)) (d:=d) (fun h=>hij h.1)).symm.trans hu
       rw[←hu2] at hJ
       clear hu hu2
       (repeat(any_goals(first|((with_reducible refine Q0g ?_ ?_);rfl;intro K hK;simp(disch:=omega) only[go_sem,k1,Q0a,Nat.mul_one,wrI];((repeat(refine ndI (by first|assumption|omega|rfl) ?_));refine hK _ ?_;clear hK K))|(with_reducible first|(refine Q0i ?_;refine hR _ ?_;clear hR R)|((first|refine Q0h ?_|refine Q0c ?_);intro Ψ hΨ hΨ')|(refine Q0b ?_;intro R hR)|(refine hΨ _ ?_;clear hΨ hΨ' Ψ)|refine Q0d ?_|refine Q0j ?_|refine Q0e ?_)|((with_reducible refine hΨ' _ _ ?_ ?_);(focus(simp;done));clear hΨ hΨ' Ψ)|((with_reducible apply Q0f);rfl;rfl;all_goals(intro hc;first|(cases hc;done)|(try simp only at hc)))|((with_reducible refine Q0t ?_ ?_);(apply Q1f);(focus(repeat(first|exact Sims.nil|((apply Sims.cons);(focus(first|((apply Ef.sim_row);assumption)|exact Ef.sim_refl _))))));kernel_rfl;(with_reducible refine hR _ ?_);clear hR R)|((first|((with_reducible apply Q0r);rfl;rfl;rfl;rfl)|((with_reducible apply Q0n);rfl;rfl;rfl)|((first|((with_reducible apply Q0u);rfl;rfl)|((with_reducible apply Q0s);rfl;rfl;rfl;rfl;rfl));(simp(disch:=omega) only[rdE,rdOf,go_sem,k1,Q0a,Nat.mul_one,wrI];rfl);(intro τ hA hQ hN;((try simp only[Q1h,Op.operands,Call.operands,go_sem,k1,Q0a,Nat.mul_one,wrI,go_sem,List.mem_cons,List.not_mem_nil,forall_eq_or_imp,forall_eq,List.append_toArray,Option.toArray] at hA);(try simp only[go_sem,k1,Q0a,Nat.mul_one,wrI,List.mem_cons,List.not_mem_nil,forall_eq_or_imp,forall_eq] at hQ hN);(first|(revert hA;intro hA)|have hA:=trivial);(first|(revert hQ;intro hQ)|have hQ:=trivial);(first|(revert hN;intro hN)|have hN:=trivial);simp(disch:=omega) only[go_sem,k1,Q0a,Nat.mul_one,wrI,go_sem,hA,hQ,hN];(repeat(refine ndI (by first|assumption|omega|rfl) ?_));(first|apply Q1b|apply Q1a|apply Q0w)))));(simp(disch:=omega) only[St.eff,setO,Q0q,go_sem,k1,Q0a,Nat.mul_one,wrI]))|((with_reducible apply Q0o);rfl;rfl;rfl;all_goals intro hb;all_goals(simp(disch:=omega) only[St.eff,setO,Q0q,go_sem,k1,Q0a,Nat.mul_one,wrI]))|((with_reducible refine Q0p ?_ ?_ ?_ ?_);kernel_rfl;kernel_rfl;(simp[Q0m,Q1j,St.free,Q1i,AV.refsL,AV.refs,Q0a]);intro R hR))))
       all_goals exact hJ _ (St.le_of (by simp[leT]) (by simp[leH,hget]))
   by_cases hgt:i2>j2
   · have k1:decide ((i2:Int)>(j2:Int))=true:=decide_eq_true (by omega)
     rw[if_pos hgt] at hq
     simp only[Prod.mk.injEq] at hq
     rw[←hq.1,←hq.2] at hJ
     (repeat(any_goals(first|((with_reducible refine Q0g ?_ ?_);rfl;intro K hK;simp(disch:=omega) only[go_sem,k1,Q0a,Nat.mul_one,wrI];((repeat(refine ndI (by first|assumption|omega|rfl) ?_));refine hK _ ?_;clear hK K))|(with_reducible first|(refine Q0i ?_;refine hR _ ?_;clear hR R)|((first|refine Q0h ?_|refine Q0c ?_);intro Ψ hΨ hΨ')|(refine Q0b ?_;intro R hR)|(refine hΨ _ ?_;clear hΨ hΨ' Ψ)|refine Q0d ?_|refine Q0j ?_|refine Q0e ?_)|((with_reducible refine hΨ' _ _ ?_ ?_);(focus(simp;done));clear hΨ hΨ' Ψ)|((with_reducible apply Q0f);rfl;rfl;all_goals(intro hc;first|(cases hc;done)|(try simp only at hc)))|((with_reducible refine Q0t ?_ ?_);(apply Q1f);(focus(repeat(first|exact Sims.nil|((apply Sims.cons);(focus(first|((apply Ef.sim_row);assumption)|exact Ef.sim_refl _))))));kernel_rfl;(with_reducible refine hR _ ?_);clear hR R)|((first|((with_reducible apply Q0r);rfl;rfl;rfl;rfl)|((with_reducible apply Q0n);rfl;rfl;rfl)|((first|((with_reducible apply Q0u);rfl;rfl)|((with_reducible apply Q0s);rfl;rfl;rfl;rfl;rfl));(simp(disch:=omega) only[rdE,rdOf,go_sem,k1,Q0a,Nat.mul_one,wrI];rfl);(intro τ hA hQ hN;((try simp only[Q1h,Op.operands,Call.operands,go_sem,k1,Q0a,Nat.mul_one,wrI,go_sem,List.mem_cons,List.not_mem_nil,forall_eq_or_imp,forall_eq,List.append_toArray,Option.toArray] at hA);(try simp only[go_sem,k1,Q0a,Nat.mul_one,wrI,List.mem_cons,List.not_mem_nil,forall_eq_or_imp,forall_eq] at hQ hN);(first|(revert hA;intro hA)|have hA:=trivial);(first|(revert hQ;intro hQ)|have hQ:=trivial);(first|(revert hN;intro hN)|have hN:=trivial);simp(disch:=omega) only[go_sem,k1,Q0a,Nat.mul_one,wrI,go_sem,hA,hQ,hN];(repeat(refine ndI (by first|assumption|omega|rfl) ?_));(first|apply Q1b|apply Q1a|apply Q0w)))));(simp(disch:=omega) only[St.eff,setO,Q0q,go_sem,k1,Q0a,Nat.mul_one,wrI]))|((with_reducible apply Q0o);rfl;rfl;rfl;all_goals intro hb;all_goals(simp(disch:=omega) only[St.eff,setO,Q0q,go_sem,k1,Q0a,Nat.mul_one,wrI]))|((with_reducible refine Q0p ?_ ?_ ?_ ?_);kernel_rfl;kernel_rfl;(simp[Q0m,Q1j,St.free,Q1i,AV.refsL,AV.refs,Q0a]);intro R hR))))
     all_goals exact hJ _ (St.le_of (by simp[leT]) (by simp[leH,hget]))
   · have k1:decide ((i2:Int)>(j2:Int))=false:=decide_eq_false (by omega)
     rw[if_neg hgt] at hq
     have lt3:=lt2 hgt
     have hs2:(Sort.swp d i2 j2).size=n:=by rw[Q2m];exact hs
     have w3:(i2:Int)+1=((i2+1:Nat):Int):=by omega
     have w4:(j2:Int)-1=((j2-1:Nat):Int):=by omega
     have hN1:∀σ':St,σ'.le (stPt (Sort.swp d i2 j2) n a b pv (i2+1) (j2-1))→Ψr .normal σ':=fun σ' h=>hN σ' ⟨((i2+1,j2-1),Sort.swp d i2 j2),by dsimp only;omega,by dsimp only;omega,by dsimp only;omega,hs2,hq⟩ (by dsimp only;omega) h
     clear hq hi2 hj2 lt2
     generalize hd9:Sort.swp d i2 j2=d2 at hN1 hs2
     have z0:=Q1z d
     rw[hs] at z0
     have z1:=Q2o d (j:=i2) (by omega)
     have z2:=Q2o d (j:=j2) (by omega)
     obtain⟨t1,t2⟩:=Q3p d (i:=i2) (j:=j2) (by omega) (by omega)
     have z4:(rI (d.setIfInBounds i2 d[j2]!)).length=n:=by rw[Q1z,Array.size_setIfInBounds];exact hs
     generalize d.setIfInBounds i2 d[j2]! = e1 at t1 t2 z4
     generalize d[i2]! = zi at *
     generalize d[j2]! = zj at *
     rw[hd9] at t2
     (have W:=ndI k1 (ndI w3 (ndI w4 (ndI z0 (ndI z1 (ndI z2 (ndI z4 (ndI t1 (ndI t2 @wrI))))))));(repeat(any_goals(first|((with_reducible refine Q0g ?_ ?_);rfl;intro K hK;simp(disch:=omega) only[go_sem,W,Q0a,Nat.mul_one];((repeat(refine ndI (by first|assumption|omega|rfl) ?_));refine hK _ ?_;clear hK K))|(with_reducible first|(refine Q0i ?_;refine hR _ ?_;clear hR R)|((first|refine Q0h ?_|refine Q0c ?_);intro Ψ hΨ hΨ')|(refine Q0b ?_;intro R hR)|(refine hΨ _ ?_;clear hΨ hΨ' Ψ)|refine Q0d ?_|refine Q0j ?_|refine Q0e ?_)|((with_reducible refine hΨ' _ _ ?_ ?_);(focus(simp;done));clear hΨ hΨ' Ψ)|((with_reducible apply Q0f);rfl;rfl;all_goals(intro hc;first|(cases hc;done)|(try simp only at hc)))|((with_reducible refine Q0t ?_ ?_);(apply Q1f);(focus(repeat(first|exact Sims.nil|((apply Sims.cons);(focus(first|((apply Ef.sim_row);assumption)|exact Ef.sim_refl _))))));kernel_rfl;(with_reducible refine hR _ ?_);clear hR R)|((first|((with_reducible apply Q0r);rfl;rfl;rfl;rfl)|((with_reducible apply Q0n);rfl;rfl;rfl)|((first|((with_reducible apply Q0u);rfl;rfl)|((with_reducible apply Q0s);rfl;rfl;rfl;rfl;rfl));(simp(disch:=omega) only[rdE,rdOf,go_sem,W,Q0a,Nat.mul_one];rfl);(intro τ hA hQ hN;((try simp only[Q1h,Op.operands,Call.operands,go_sem,W,Q0a,Nat.mul_one,go_sem,List.mem_cons,List.not_mem_nil,forall_eq_or_imp,forall_eq,List.append_toArray,Option.toArray] at hA);(try simp only[go_sem,W,Q0a,Nat.mul_one,List.mem_cons,List.not_mem_nil,forall_eq_or_imp,forall_eq] at hQ hN);(first|(revert hA;intro hA)|have hA:=trivial);(first|(revert hQ;intro hQ)|have hQ:=trivial);(first|(revert hN;intro hN)|have hN:=trivial);simp(disch:=omega) only[go_sem,W,Q0a,Nat.mul_one,go_sem,hA,hQ,hN];(repeat(refine ndI (by first|assumption|omega|rfl) ?_));(first|apply Q1b|apply Q1a|apply Q0w)))));(simp(disch:=omega) only[St.eff,setO,Q0q,go_sem,W,Q0a,Nat.mul_one]))|((with_reducible apply Q0o);rfl;rfl;rfl;all_goals intro hb;all_goals(simp(disch:=omega) only[St.eff,setO,Q0q,go_sem,W,Q0a,Nat.mul_one]))|((with_reducible refine Q0p ?_ ?_ ?_ ?_);kernel_rfl;kernel_rfl;(simp[Q0m,Q1j,St.free,Q1i,AV.refsL,AV.refs,Q0a]);intro R hR)))))
     all_goals exact hN1 _ (St.le_of (by simp[leT]) (by simp[leH,hget]))
 have hd3:=pb.2.1
 have hjf:=pb.1
 have z0:=Q1z d3
 rw[hd3] at z0
 have z1:=Q2o d3 (j:=jf) (by omega)
 have z2:=Q2o d3 (j:=a) (by omega)
 obtain⟨t1,t2⟩:=Q3p d3 (i:=jf) (j:=a) (by omega) (by omega)
 have z4:(rI (d3.setIfInBounds jf d3[a]!)).length=n:=by rw[Q1z,Array.size_setIfInBounds];exact hd3
 generalize d3.setIfInBounds jf d3[a]! = e1 at t1 t2 z4
 generalize d3[jf]! = zi at *
 generalize d3[a]! = zj at *
 (have W:=ndI z0 (ndI z1 (ndI z2 (ndI z4 (ndI t1 (ndI t2 @wrI)))));(repeat(any_goals(first|((with_reducible refine Q0g ?_ ?_);rfl;intro K hK;simp(disch:=omega) only[go_sem,W,Q0a,Nat.mul_one];((repeat(refine ndI (by first|assumption|omega|rfl) ?_));refine hK _ ?_;clear hK K))|(with_reducible first|(refine Q0i ?_;refine hR _ ?_;clear hR R)|((first|refine Q0h ?_|refine Q0c ?_);intro Ψ hΨ hΨ')|(refine Q0b ?_;intro R hR)|(refine hΨ _ ?_;clear hΨ hΨ' Ψ)|refine Q0d ?_|refine Q0j ?_|refine Q0e ?_)|((with_reducible refine hΨ' _ _ ?_ ?_);(focus(simp;done));clear hΨ hΨ' Ψ)|((with_reducible apply Q0f);rfl;rfl;all_goals(intro hc;first|(cases hc;done)|(try simp only at hc)))|((with_reducible refine Q0t ?_ ?_);(apply Q1f);(focus(repeat(first|exact Sims.nil|((apply Sims.cons);(focus(first|((apply Ef.sim_row);assumption)|exact Ef.sim_refl _))))));kernel_rfl;(with_reducible refine hR _ ?_);clear hR R)|((first|((with_reducible apply Q0r);rfl;rfl;rfl;rfl)|((with_reducible apply Q0n);rfl;rfl;rfl)|((first|((with_reducible apply Q0u);rfl;rfl)|((with_reducible apply Q0s);rfl;rfl;rfl;rfl;rfl));(simp(disch:=omega) only[rdE,rdOf,go_sem,W,Q0a,Nat.mul_one];rfl);(intro τ hA hQ hN;((try simp only[Q1h,Op.operands,Call.operands,go_sem,W,Q0a,Nat.mul_one,go_sem,List.mem_cons,List.not_mem_nil,forall_eq_or_imp,forall_eq,List.append_toArray,Option.toArray] at hA);(try simp only[go_sem,W,Q0a,Nat.mul_one,List.mem_cons,List.not_mem_nil,forall_eq_or_imp,forall_eq] at hQ hN);(first|(revert hA;intro hA)|have hA:=trivial);(first|(revert hQ;intro hQ)|have hQ:=trivial);(first|(revert hN;intro hN)|have hN:=trivial);simp(disch:=omega) only[go_sem,W,Q0a,Nat.mul_one,go_sem,hA,hQ,hN];(repeat(refine ndI (by first|assumption|omega|rfl) ?_));(first|apply Q1b|apply Q1a|apply Q0w)))));(simp(disch:=omega) only[St.eff,setO,Q0q,go_sem,W,Q0a,Nat.mul_one]))|((with_reducible apply Q0o);rfl;rfl;rfl;all_goals intro hb;all_goals(simp(disch:=omega) only[St.eff,setO,Q0q,go_sem,W,Q0a,Nat.mul_one]))|((with_reducible refine Q0p ?_ ?_ ?_ ?_);kernel_rfl;kernel_rfl;(simp[Q0m,Q1j,St.free,Q1i,AV.refsL,AV.refs,Q0a]);intro R hR)))))
 all_goals rw[p1,p2,p3]
 all_goals(refine⟨by simp,⟨_,?_,AV.le_refl _⟩,Q0y (by simp[leH,hget])⟩;simp only[Try.results72,resL,ldA,Q1o,go_sem])
end
section
open Go.RowKit
open Nat (reduceBEq)
attribute [-go_sem] IntKind.bits
set_option maxRecDepth 20000
set_option maxHeartbeats 2000000
attribute [local simp] Q0l Q0a Q0k
abbrev qU(d:Array Int)(a:Nat):Int→Bool:=fun x=>!ltI d[a]! x
abbrev qV(d:Array Int)(a:Nat):Int→Bool:=fun x=>ltI d[a]! x
abbrev stPe(d:Array Int)(n a b pv i j:Nat):St:=⟨[.row 1000 adT 1 n,vi .i64 (a:Int),vi .i64 (b:Int),vi .i64 (pv:Int),.any,.any,.any,.any,.any,vi .i64 (i:Int),vi .i64 (j:Int),.any,.any,.any,.any,.any,.any,.any,.any,.any,.any,.any,.any,.any,.any,.any,.any,.any,.any,.any,.any,.any,.any,.any,.any,.any,.any,.any,.any,.any,.any,.any,.any,.any,.any,.any,.any,.any,.any,.any,.any,.any,.any,.any,.any,.any,.any,.any,.any,.any,.any,.any,.any,.any,.any,.any,.any,.any,.any,.any,.any,.any,.any,.any,.any,.any,.any,.any,.any,.any,.any,.any,.any,.any],[(1000,rI d)]⟩
abbrev stPf(d:Array Int)(n a b pv i:Nat):St:=⟨[.row 1000 adT 1 n,vi .i64 (a:Int),vi .i64 (b:Int),vi .i64 (pv:Int),.any,.any,.any,.any,.any,vi .i64 (i:Int),.any,.any,.any,.any,.any,.any,.any,.any,.any,.any,.any,.any,.any,.any,.any,.any,.any,.any,.any,.any,.any,.any,.any,.any,.any,.any,.any,.any,.any,.any,.any,.any,.any,.any,.any,.any,.any,.any,.any,.any,.any,.any,.any,.any,.any,.any,.any,.any,.any,.any,.any,.any,.any,.any,.any,.any,.any,.any,.any,.any,.any,.any,.any,.any,.any,.any,.any,.any,.any,.any,.any,.any,.any,.any],[(1000,rI d)]⟩
theorem qloop_eq{a i j i2 j2:Nat}{d:Array Int}(h2:Sort.scanUp (qU d a) d j i=i2)(h3:Sort.scanDown (qV d a) d i2 j=j2):Sort.partEqLoop ltI a i j d=if i2>j2 then(i2,d) else Sort.partEqLoop ltI a (i2+1) (j2-1) (Sort.swp d i2 j2):=by
 subst h2 h3
 exact Sort.partEqLoop_eq ltI a i j d
theorem qscans_lt{a i j i2 j2:Nat}{d:Array Int}(h0:0<i)(h2:Sort.scanUp (qU d a) d j i=i2)(h3:Sort.scanDown (qV d a) d i2 j=j2)(h:¬i2>j2):i2<j2:=by
 have s1:=Sort.scanUp_spec (qU d a) d j _ i rfl
 have s2:=Sort.scanDown_spec (qV d a) d i2 j
 rw[h2] at s1
 rw[h3] at s2
 rcases Nat.lt_or_ge i2 j2 with h4|h4
 · exact h4
 · have e:i2=j2:=by omega
   have q1:=s1.2.2.2 (by omega)
   have q2:=s2.2.2.2 (by omega) (by omega)
   rw[e] at q1
   simp only[qU,qV] at q1 q2
   rw[q2] at q1
   cases q1
theorem parteq_fn(n a b pv:Nat)(h1:a≤pv)(h2:pv<b)(hb:b≤n)(hn:n≤1000000)(d0:Array Int)(h0:d0.size=n):Fn Try.prog 71 [.row 1000 adT 1 n,vi .i64 (a:Int),vi .i64 (b:Int),vi .i64 (pv:Int)] [(1000,rI d0)] (vi .i64 ((Sort.partitionEqual ltI d0 a b pv).1:Int)) [(1000,rI (Sort.partitionEqual ltI d0 a b pv).2)]:=by
 unfold Sort.partitionEqual
 have hs:(Sort.swp d0 a pv).size=n:=by rw[Q2m];exact h0
 obtain⟨d1,hd1⟩:∃d1,Sort.swp d0 a pv=d1:=⟨_,rfl⟩
 rw[hd1] at hs ⊢
 obtain⟨⟨jf,d3⟩,hq⟩:∃q,Sort.partEqLoop ltI a (a+1) (b-1) d1=q:=⟨_,rfl⟩
 rw[hq]
 dsimp only
 obtain⟨j,hj⟩:∃j,b-1=j:=⟨_,rfl⟩
 rw[hj] at hq
 have w1:(b:Int)-1=(j:Int):=by omega
 have w2:(a:Int)+1=((a+1:Nat):Int):=by omega
 have z0:=Q1z d0
 rw[h0] at z0
 have z1:=Q2o d0 (j:=a) (by omega)
 have z2:=Q2o d0 (j:=pv) (by omega)
 obtain⟨t1,t2⟩:=Q3p d0 (i:=a) (j:=pv) (by omega) (by omega)
 have z4:(rI (d0.setIfInBounds a d0[pv]!)).length=n:=by rw[Q1z,Array.size_setIfInBounds];exact h0
 generalize d0.setIfInBounds a d0[pv]! = e1 at t1 t2 z4
 generalize d0[a]! = zi at *
 generalize d0[pv]! = zj at *
 rw[hd1] at t2
 (refine Q1q Try.func71 rfl (by rfl) ?_;simp only[Try.ntmps71,List.length_cons,List.length_nil,Nat.reduceAdd,Nat.reduceSub,List.replicate,List.cons_append,List.nil_append])
 (have W:=ndI w1 (ndI w2 (ndI z0 (ndI z1 (ndI z2 (ndI z4 (ndI t1 (ndI t2 @wrI)))))));(repeat(any_goals(first|((with_reducible refine Q0g ?_ ?_);rfl;intro K hK;simp(disch:=omega) only[go_sem,W,Q0a,Nat.mul_one];((repeat(refine ndI (by first|assumption|omega|rfl) ?_));refine hK _ ?_;clear hK K))|(with_reducible first|(refine Q0i ?_;refine hR _ ?_;clear hR R)|((first|refine Q0h ?_|refine Q0c ?_);intro Ψ hΨ hΨ')|(refine Q0b ?_;intro R hR)|(refine hΨ _ ?_;clear hΨ hΨ' Ψ)|refine Q0d ?_|refine Q0j ?_|refine Q0e ?_)|((with_reducible refine hΨ' _ _ ?_ ?_);(focus(simp;done));clear hΨ hΨ' Ψ)|((with_reducible apply Q0f);rfl;rfl;all_goals(intro hc;first|(cases hc;done)|(try simp only at hc)))|((with_reducible refine Q0t ?_ ?_);(apply Q1f);(focus(repeat(first|exact Sims.nil|((apply Sims.cons);(focus(first|((apply Ef.sim_row);assumption)|exact Ef.sim_refl _))))));kernel_rfl;(with_reducible refine hR _ ?_);clear hR R)|((first|((with_reducible apply Q0r);rfl;rfl;rfl;rfl)|((with_reducible apply Q0n);rfl;rfl;rfl)|((first|((with_reducible apply Q0u);rfl;rfl)|((with_reducible apply Q0s);rfl;rfl;rfl;rfl;rfl));(simp(disch:=omega) only[rdE,rdOf,go_sem,W,Q0a,Nat.mul_one];rfl);(intro τ hA hQ hN;((try simp only[Q1h,Op.operands,Call.operands,go_sem,W,Q0a,Nat.mul_one,go_sem,List.mem_cons,List.not_mem_nil,forall_eq_or_imp,forall_eq,List.append_toArray,Option.toArray] at hA);(try simp only[go_sem,W,Q0a,Nat.mul_one,List.mem_cons,List.not_mem_nil,forall_eq_or_imp,forall_eq] at hQ hN);(first|(revert hA;intro hA)|have hA:=trivial);(first|(revert hQ;intro hQ)|have hQ:=trivial);(first|(revert hN;intro hN)|have hN:=trivial);simp(disch:=omega) only[go_sem,W,Q0a,Nat.mul_one,go_sem,hA,hQ,hN];(repeat(refine ndI (by first|assumption|omega|rfl) ?_));(first|apply Q1b|apply Q1a|apply Q0w)))));(simp(disch:=omega) only[St.eff,setO,Q0q,go_sem,W,Q0a,Nat.mul_one]))|((with_reducible apply Q0o);rfl;rfl;rfl;all_goals intro hb;all_goals(simp(disch:=omega) only[St.eff,setO,Q0q,go_sem,W,Q0a,Nat.mul_one]))|((with_reducible refine Q0p ?_ ?_ ?_ ?_);kernel_rfl;kernel_rfl;(simp[Q0m,Q1j,St.free,Q1i,AV.refsL,AV.refs,Q0a]);intro R hR)))))
 refine Q2z 0 (stPf d3 n a b pv jf) (α:={q:(Nat×Nat)×Array Int // a+1≤q.1.1∧q.1.1≤q.1.2+1∧q.1.2<n∧q.2.size=n∧Sort.partEqLoop ltI a q.1.1 q.1.2 q.2=(jf,d3)}) (fun q=>stPe q.1.2 n a b pv q.1.1.1 q.1.1.2) (fun q=>q.1.1.2+1-q.1.1.1) ⟨((a+1,j),d1),by dsimp only;omega,by dsimp only;omega,by dsimp only;omega,hs,hq⟩ (St.le_of (by simp[leT]) (by simp[leH,hget])) ?_ ?_
 rotate_left
 · clear hq hs
   rintro ⟨⟨⟨i,j⟩,d⟩,g1,g2,g3,hs,hq⟩ Ψr hN hJ
   (try dsimp only at g1 g2 g3 hs hq hN ⊢)
   obtain⟨i2,hi2⟩:∃i2,Sort.scanUp (qU d a) d j i=i2:=⟨_,rfl⟩
   obtain⟨j2,hj2⟩:∃j2,Sort.scanDown (qV d a) d i2 j=j2:=⟨_,rfl⟩
   have u1:=Sort.scanUp_spec (qU d a) d j _ i rfl
   have u2:=Sort.scanDown_spec (qV d a) d i2 j
   rw[hi2] at u1
   rw[hj2] at u2
   have v1:=u1.1
   have v2:=u1.2.1 g2
   have v3:=u2.1
   have v4:=u2.2.1 v2
   have lt2:=qscans_lt (by omega) hi2 hj2
   rw[qloop_eq hi2 hj2] at hq
   clear u1 u2
   (repeat(any_goals(first|((with_reducible refine Q0g ?_ ?_);rfl;intro K hK;simp(disch:=omega) only[go_sem];((repeat(refine ndI (by first|assumption|omega|rfl) ?_));refine hK _ ?_;clear hK K))|(with_reducible first|(refine Q0i ?_;refine hR _ ?_;clear hR R)|((first|refine Q0h ?_|refine Q0c ?_);intro Ψ hΨ hΨ')|(refine Q0b ?_;intro R hR)|(refine hΨ _ ?_;clear hΨ hΨ' Ψ)|refine Q0d ?_|refine Q0j ?_|refine Q0e ?_)|((with_reducible refine hΨ' _ _ ?_ ?_);(focus(simp;done));clear hΨ hΨ' Ψ)|((with_reducible apply Q0f);rfl;rfl;all_goals(intro hc;first|(cases hc;done)|(try simp only at hc)))|((with_reducible refine Q0t ?_ ?_);kernel_rfl;(with_reducible refine hR _ ?_);clear hR R)|((first|((with_reducible apply Q0r);rfl;rfl;rfl;rfl)|((with_reducible apply Q0n);rfl;rfl;rfl)|((first|((with_reducible apply Q0u);rfl;rfl)|((with_reducible apply Q0s);rfl;rfl;rfl;rfl;rfl));(simp(disch:=omega) only[rdE,rdOf,go_sem];rfl);(intro τ hA hQ hN;((try simp only[Q1h,Op.operands,Call.operands,go_sem,List.mem_cons,List.not_mem_nil,forall_eq_or_imp,forall_eq,List.append_toArray,Option.toArray] at hA);(try simp only[go_sem,List.mem_cons,List.not_mem_nil,forall_eq_or_imp,forall_eq] at hQ hN);(first|(revert hA;intro hA)|have hA:=trivial);(first|(revert hQ;intro hQ)|have hQ:=trivial);(first|(revert hN;intro hN)|have hN:=trivial);simp(disch:=omega) only[go_sem,hA,hQ,hN];(repeat(refine ndI (by first|assumption|omega|rfl) ?_));(first|apply Q1b|apply Q1a|apply Q0w)))));(simp(disch:=omega) only[St.eff,setO,Q0q,go_sem]))|((with_reducible apply Q0o);rfl;rfl;rfl;all_goals intro hb;all_goals(simp(disch:=omega) only[St.eff,setO,Q0q,go_sem]))|((with_reducible refine Q0p ?_ ?_ ?_ ?_);kernel_rfl;kernel_rfl;(first|kernel_rfl|simp[Q0m,Q1j,St.free,Q1i,AV.refsL,AV.refs]);intro R hR))))
   refine Q2z 2 (stPe d n a b pv i2 j) (α:={u:Nat // a+1≤u∧u≤j+1∧Sort.scanUp (qU d a) d j u=i2}) (fun q=>stPe d n a b pv q.1 j) (fun q=>j+1-q.1) ⟨i,by omega,by omega,hi2⟩ (St.le_of (by simp[leT]) (by simp[leH,hget])) ?_ ?_
   rotate_left
   · rintro ⟨u,c1,c2,hu⟩ Ψ hN hJ
     (try dsimp only at c1 c2 hu hN ⊢)
     have y0:=Q1z d
     rw[hs] at y0
     by_cases hij:u≤j
     · have k1:decide ((u:Int)≤(j:Int))=true:=decide_eq_true (by omega)
       have y1:=Q2o d (j:=u) (by omega)
       have y2:=Q2o d (j:=a) (by omega)
       have lf:=Q3a d[a]! d[u]!
       have w1:(u:Int)+1=((u+1:Nat):Int):=by omega
       by_cases hlt:d[a]! < d[u]!
       · have c3:decide (d[a]! < d[u]!)=true:=decide_eq_true hlt
         rw[c3] at lf
         have hu2:=(Q7c (p:=(qU d a)) (d:=d) (fun h=>absurd (show(!decide (d[a]! < d[u]!))=true from h.2) (by rw[c3];simp))).symm.trans hu
         rw[←hu2] at hJ
         clear hu hu2 hlt c3
         generalize d[u]! = zx at *
         generalize d[a]! = zy at *
         (have W:=ndI k1 (ndI w1 (ndI y0 (ndI y1 (ndI y2 @wrI))));(repeat(any_goals(first|((with_reducible refine Q0g ?_ ?_);rfl;intro K hK;simp(disch:=omega) only[go_sem,W,Q0a,Nat.mul_one];((repeat(refine ndI (by first|assumption|omega|rfl) ?_));refine hK _ ?_;clear hK K))|(with_reducible first|(refine Q0i ?_;refine hR _ ?_;clear hR R)|((first|refine Q0h ?_|refine Q0c ?_);intro Ψ hΨ hΨ')|(refine Q0b ?_;intro R hR)|(refine hΨ _ ?_;clear hΨ hΨ' Ψ)|refine Q0d ?_|refine Q0j ?_|refine Q0e ?_)|((with_reducible refine hΨ' _ _ ?_ ?_);(focus(simp;done));clear hΨ hΨ' Ψ)|((with_reducible apply Q0f);rfl;rfl;all_goals(intro hc;first|(cases hc;done)|(try simp only at hc)))|((with_reducible refine Q0t ?_ ?_);(apply Q1f);(focus(repeat(first|exact Sims.nil|((apply Sims.cons);(focus(first|((apply Ef.sim_row);assumption)|exact Ef.sim_refl _))))));kernel_rfl;(with_reducible refine hR _ ?_);clear hR R)|((first|((with_reducible apply Q0r);rfl;rfl;rfl;rfl)|((with_reducible apply Q0n);rfl;rfl;rfl)|((first|((with_reducible apply Q1m);rfl;rfl)|((with_reducible apply Q1p);rfl;rfl;rfl;rfl;rfl));((apply Q1g (lf);rfl;rfl;rfl;rfl;exact Try.func70);kernel_rfl;rfl;(focus((simp(disch:=omega) only[go_sem,W,Q0a,Nat.mul_one]);(try rfl);done));(first|rfl|simp[AV.inNL,AV.inN])))|((first|((with_reducible apply Q0u);rfl;rfl)|((with_reducible apply Q0s);rfl;rfl;rfl;rfl;rfl));(simp(disch:=omega) only[rdE,rdOf,go_sem,W,Q0a,Nat.mul_one];rfl);(intro τ hA hQ hN;((try simp only[Q1h,Op.operands,Call.operands,go_sem,W,Q0a,Nat.mul_one,go_sem,List.mem_cons,List.not_mem_nil,forall_eq_or_imp,forall_eq,List.append_toArray,Option.toArray] at hA);(try simp only[go_sem,W,Q0a,Nat.mul_one,List.mem_cons,List.not_mem_nil,forall_eq_or_imp,forall_eq] at hQ hN);(first|(revert hA;intro hA)|have hA:=trivial);(first|(revert hQ;intro hQ)|have hQ:=trivial);(first|(revert hN;intro hN)|have hN:=trivial);simp(disch:=omega) only[go_sem,W,Q0a,Nat.mul_one,go_sem,hA,hQ,hN];(repeat(refine ndI (by first|assumption|omega|rfl) ?_));(first|apply Q1b|apply Q1a|apply Q0w)))));(simp(disch:=omega) only[St.eff,setO,Q0q,go_sem,W,Q0a,Nat.mul_one]))|((with_reducible apply Q0o);rfl;rfl;rfl;all_goals intro hb;all_goals(simp(disch:=omega) only[St.eff,setO,Q0q,go_sem,W,Q0a,Nat.mul_one]))|((with_reducible refine Q0p ?_ ?_ ?_ ?_);kernel_rfl;kernel_rfl;(simp[Q0m,Q1j,St.free,Q1i,AV.refsL,AV.refs,Q0a]);intro R hR)))))
         all_goals exact hJ _ (St.le_of (by simp[leT]) (by simp[leH,hget]))
       · have c3:decide (d[a]! < d[u]!)=false:=decide_eq_false hlt
         rw[c3] at lf
         have hu2:=(up_go (p:=(qU d a)) (d:=d) hij (by show(!decide _)=true;rw[c3];rfl)).symm.trans hu
         have hN1:∀σ':St,σ'.le (stPe d n a b pv (u+1) j)→Ψ .normal σ':=fun σ' h=>hN σ' ⟨u+1,by omega,by omega,hu2⟩ (by dsimp only;omega) h
         clear hu hu2 hlt c3
         generalize d[u]! = zx at *
         generalize d[a]! = zy at *
         (have W:=ndI k1 (ndI w1 (ndI y0 (ndI y1 (ndI y2 @wrI))));(repeat(any_goals(first|((with_reducible refine Q0g ?_ ?_);rfl;intro K hK;simp(disch:=omega) only[go_sem,W,Q0a,Nat.mul_one];((repeat(refine ndI (by first|assumption|omega|rfl) ?_));refine hK _ ?_;clear hK K))|(with_reducible first|(refine Q0i ?_;refine hR _ ?_;clear hR R)|((first|refine Q0h ?_|refine Q0c ?_);intro Ψ hΨ hΨ')|(refine Q0b ?_;intro R hR)|(refine hΨ _ ?_;clear hΨ hΨ' Ψ)|refine Q0d ?_|refine Q0j ?_|refine Q0e ?_)|((with_reducible refine hΨ' _ _ ?_ ?_);(focus(simp;done));clear hΨ hΨ' Ψ)|((with_reducible apply Q0f);rfl;rfl;all_goals(intro hc;first|(cases hc;done)|(try simp only at hc)))|((with_reducible refine Q0t ?_ ?_);(apply Q1f);(focus(repeat(first|exact Sims.nil|((apply Sims.cons);(focus(first|((apply Ef.sim_row);assumption)|exact Ef.sim_refl _))))));kernel_rfl;(with_reducible refine hR _ ?_);clear hR R)|((first|((with_reducible apply Q0r);rfl;rfl;rfl;rfl)|((with_reducible apply Q0n);rfl;rfl;rfl)|((first|((with_reducible apply Q1m);rfl;rfl)|((with_reducible apply Q1p);rfl;rfl;rfl;rfl;rfl));((apply Q1g (lf);rfl;rfl;rfl;rfl;exact Try.func70);kernel_rfl;rfl;(focus((simp(disch:=omega) only[go_sem,W,Q0a,Nat.mul_one]);(try rfl);done));(first|rfl|simp[AV.inNL,AV.inN])))|((first|((with_reducible apply Q0u);rfl;rfl)|((with_reducible apply Q0s);rfl;rfl;rfl;rfl;rfl));(simp(disch:=omega) only[rdE,rdOf,go_sem,W,Q0a,Nat.mul_one];rfl);(intro τ hA hQ hN;((try simp only[Q1h,Op.operands,Call.operands,go_sem,W,Q0a,Nat.mul_one,go_sem,List.mem_cons,List.not_mem_nil,forall_eq_or_imp,forall_eq,List.append_toArray,Option.toArray] at hA);(try simp only[go_sem,W,Q0a,Nat.mul_one,List.mem_cons,List.not_mem_nil,forall_eq_or_imp,forall_eq] at hQ hN);(first|(revert hA;intro hA)|have hA:=trivial);(first|(revert hQ;intro hQ)|have hQ:=trivial);(first|(revert hN;intro hN)|have hN:=trivial);simp(disch:=omega) only[go_sem,W,Q0a,Nat.mul_one,go_sem,hA,hQ,hN];(repeat(refine ndI (by first|assumption|omega|rfl) ?_));(first|apply Q1b|apply Q1a|apply Q0w)))));(simp(disch:=omega) only[St.eff,setO,Q0q,go_sem,W,Q0a,Nat.mul_one]))|((with_reducible apply Q0o);rfl;rfl;rfl;all_goals intro hb;all_goals(simp(disch:=omega) only[St.eff,setO,Q0q,go_sem,W,Q0a,Nat.mul_one]))|((with_reducible refine Q0p ?_ ?_ ?_ ?_);kernel_rfl;kernel_rfl;(simp[Q0m,Q1j,St.free,Q1i,AV.refsL,AV.refs,Q0a]);intro R hR)))))
         all_goals exact hN1 _ (St.le_of (by simp[leT]) (by simp[leH,hget]))
     · have k1:decide ((u:Int)≤(j:Int))=false:=decide_eq_false (by omega)
       have hu2:=(Q7c (p:=(qU d a)) (d:=d) (fun h=>hij h.1)).symm.trans hu
       rw[←hu2] at hJ
       clear hu hu2
       (repeat(any_goals(first|((with_reducible refine Q0g ?_ ?_);rfl;intro K hK;simp(disch:=omega) only[go_sem,k1,Q0a,Nat.mul_one,wrI];((repeat(refine ndI (by first|assumption|omega|rfl) ?_));refine hK _ ?_;clear hK K))|(with_reducible first|(refine Q0i ?_;refine hR _ ?_;clear hR R)|((first|refine Q0h ?_|refine Q0c ?_);intro Ψ hΨ hΨ')|(refine Q0b ?_;intro R hR)|(refine hΨ _ ?_;clear hΨ hΨ' Ψ)|refine Q0d ?_|refine Q0j ?_|refine Q0e ?_)|((with_reducible refine hΨ' _ _ ?_ ?_);(focus(simp;done));clear hΨ hΨ' Ψ)|((with_reducible apply Q0f);rfl;rfl;all_goals(intro hc;first|(cases hc;done)|(try simp only at hc)))|((with_reducible refine Q0t ?_ ?_);(apply Q1f);(focus(repeat(first|exact Sims.nil|((apply Sims.cons);(focus(first|((apply Ef.sim_row);assumption)|exact Ef.sim_refl _))))));kernel_rfl;(with_reducible refine hR _ ?_);clear hR R)|((first|((with_reducible apply Q0r);rfl;rfl;rfl;rfl)|((with_reducible apply Q0n);rfl;rfl;rfl)|((first|((with_reducible apply Q0u);rfl;rfl)|((with_reducible apply Q0s);rfl;rfl;rfl;rfl;rfl));(simp(disch:=omega) only[rdE,rdOf,go_sem,k1,Q0a,Nat.mul_one,wrI];rfl);(intro τ hA hQ hN;((try simp only[Q1h,Op.operands,Call.operands,go_sem,k1,Q0a,Nat.mul_one,wrI,go_sem,List.mem_cons,List.not_mem_nil,forall_eq_or_imp,forall_eq,List.append_toArray,Option.toArray] at hA);(try simp only[go_sem,k1,Q0a,Nat.mul_one,wrI,List.mem_cons,List.not_mem_nil,forall_eq_or_imp,forall_eq] at hQ hN);(first|(revert hA;intro hA)|have hA:=trivial);(first|(revert hQ;intro hQ)|have hQ:=trivial);(first|(revert hN;intro hN)|have hN:=trivial);simp(disch:=omega) only[go_sem,k1,Q0a,Nat.mul_one,wrI,go_sem,hA,hQ,hN];(repeat(refine ndI (by first|assumption|omega|rfl) ?_));(first|apply Q1b|apply Q1a|apply Q0w)))));(simp(disch:=omega) only[St.eff,setO,Q0q,go_sem,k1,Q0a,Nat.mul_one,wrI]))|((with_reducible apply Q0o);rfl;rfl;rfl;all_goals intro hb;all_goals(simp(disch:=omega) only[St.eff,setO,Q0q,go_sem,k1,Q0a,Nat.mul_one,wrI]))|((with_reducible refine Q0p ?_ ?_ ?_ ?_);kernel_rfl;kernel_rfl;(simp[Q0m,Q1j,St.free,Q1i,AV.refsL,AV.refs,Q0a]);intro R hR))))
       all_goals exact hJ _ (St.le_of (by simp[leT]) (by simp[leH,hget]))
   (repeat(any_goals(first|((with_reducible refine Q0g ?_ ?_);rfl;intro K hK;simp(disch:=omega) only[go_sem];((repeat(refine ndI (by first|assumption|omega|rfl) ?_));refine hK _ ?_;clear hK K))|(with_reducible first|(refine Q0i ?_;refine hR _ ?_;clear hR R)|((first|refine Q0h ?_|refine Q0c ?_);intro Ψ hΨ hΨ')|(refine Q0b ?_;intro R hR)|(refine hΨ _ ?_;clear hΨ hΨ' Ψ)|refine Q0d ?_|refine Q0j ?_|refine Q0e ?_)|((with_reducible refine hΨ' _ _ ?_ ?_);(focus(simp;done));clear hΨ hΨ' Ψ)|((with_reducible apply Q0f);rfl;rfl;all_goals(intro hc;first|(cases hc;done)|(try simp only at hc)))|((with_reducible refine Q0t ?_ ?_);kernel_rfl;(with_reducible refine hR _ ?_);clear hR R)|((first|((with_reducible apply Q0r);rfl;rfl;rfl;rfl)|((with_reducible apply Q0n);rfl;rfl;rfl)|((first|((with_reducible apply Q0u);rfl;rfl)|((with_reducible apply Q0s);rfl;rfl;rfl;rfl;rfl));(simp(disch:=omega) only[rdE,rdOf,go_sem];rfl);(intro τ hA hQ hN;((try simp only[Q1h,Op.operands,Call.operands,go_sem,List.mem_cons,List.not_mem_nil,forall_eq_or_imp,forall_eq,List.append_toArray,Option.toArray] at hA);(try simp only[go_sem,List.mem_cons,List.not_mem_nil,forall_eq_or_imp,forall_eq] at hQ hN);(first|(revert hA;intro hA)|have hA:=trivial);(first|(revert hQ;intro hQ)|have hQ:=trivial);(first|(revert hN;intro hN)|have hN:=trivial);simp(disch:=omega) only[go_sem,hA,hQ,hN];(repeat(refine ndI (by first|assumption|omega|rfl) ?_));(first|apply Q1b|apply Q1a|apply Q0w)))));(simp(disch:=omega) only[St.eff,setO,Q0q,go_sem]))|((with_reducible apply Q0o);rfl;rfl;rfl;all_goals intro hb;all_goals(simp(disch:=omega) only[St.eff,setO,Q0q,go_sem]))|((with_reducible refine Q0p ?_ ?_ ?_ ?_);kernel_rfl;kernel_rfl;(first|kernel_rfl|simp[Q0m,Q1j,St.free,Q1i,AV.refsL,AV.refs]);intro R hR))))
   refine Q2z 4 (stPe d n a b pv i2 j2) (α:={v:Nat // v≤j∧i2≤v+1∧Sort.scanDown (qV d a) d i2 v=j2}) (fun q=>stPe d n a b pv i2 q.1) (fun q=>q.1) ⟨j,by omega,by omega,hj2⟩ (St.le_of (by simp[leT]) (by simp[leH,hget])) ?_ ?_
   rotate_left
   · rintro ⟨v,c1,c2,hu⟩ Ψ hN hJ
     (try dsimp only at c1 c2 hu hN ⊢)
     have y0:=Q1z d
     rw[hs] at y0
     by_cases hij:i2≤v
     · have k1:decide ((i2:Int)≤(v:Int))=true:=decide_eq_true (by omega)
       have y1:=Q2o d (j:=v) (by omega)
       have y2:=Q2o d (j:=a) (by omega)
       have lf:=Q3a d[a]! d[v]!
       have w1:(v:Int)-1=((v-1:Nat):Int):=by omega
       by_cases hlt:d[a]! < d[v]!
       · have c3:decide (d[a]! < d[v]!)=true:=decide_eq_true hlt
         rw[c3] at lf
         have hu2:=(X3v (p:=(qV d a)) (d:=d) hij (by omega) c3).symm.trans hu
         have hN1:∀σ':St,σ'.le (stPe d n a b pv i2 (v-1))→Ψ .normal σ':=fun σ' h=>hN σ' ⟨v-1,by omega,by omega,hu2⟩ (by dsimp only;omega) h
         clear hu hu2 hlt c3
         generalize d[v]! = zx at *
         generalize d[a]! = zy at *
         (have W:=ndI k1 (ndI w1 (ndI y0 (ndI y1 (ndI y2 @wrI))));(repeat(any_goals(first|((with_reducible refine Q0g ?_ ?_);rfl;intro K hK;simp(disch:=omega) only[go_sem,W,Q0a,Nat.mul_one];((repeat(refine ndI (by first|assumption|omega|rfl) ?_));refine hK _ ?_;clear hK K))|(with_reducible first|(refine Q0i ?_;refine hR _ ?_;clear hR R)|((first|refine Q0h ?_|refine Q0c ?_);intro Ψ hΨ hΨ')|(refine Q0b ?_;intro R hR)|(refine hΨ _ ?_;clear hΨ hΨ' Ψ)|refine Q0d ?_|refine Q0j ?_|refine Q0e ?_)|((with_reducible refine hΨ' _ _ ?_ ?_);(focus(simp;done));clear hΨ hΨ' Ψ)|((with_reducible apply Q0f);rfl;rfl;all_goals(intro hc;first|(cases hc;done)|(try simp only at hc)))|((with_reducible refine Q0t ?_ ?_);(apply Q1f);(focus(repeat(first|exact Sims.nil|((apply Sims.cons);(focus(first|((apply Ef.sim_row);assumption)|exact Ef.sim_refl _))))));kernel_rfl;(with_reducible refine hR _ ?_);clear hR R)|((first|((with_reducible apply Q0r);rfl;rfl;rfl;rfl)|((with_reducible apply Q0n);rfl;rfl;rfl)|((first|((with_reducible apply Q1m);rfl;rfl)|((with_reducible apply Q1p);rfl;rfl;rfl;rfl;rfl));((apply Q1g (lf);rfl;rfl;rfl;rfl;exact Try.func70);kernel_rfl;rfl;(focus((simp(disch:=omega) only[go_sem,W,Q0a,Nat.mul_one]);(try rfl);done));(first|rfl|simp[AV.inNL,AV.inN])))|((first|((with_reducible apply Q0u);rfl;rfl)|((with_reducible apply Q0s);rfl;rfl;rfl;rfl;rfl));(simp(disch:=omega) only[rdE,rdOf,go_sem,W,Q0a,Nat.mul_one];rfl);(intro τ hA hQ hN;((try simp only[Q1h,Op.operands,Call.operands,go_sem,W,Q0a,Nat.mul_one,go_sem,List.mem_cons,List.not_mem_nil,forall_eq_or_imp,forall_eq,List.append_toArray,Option.toArray] at hA);(try simp only[go_sem,W,Q0a,Nat.mul_one,List.mem_cons,List.not_mem_nil,forall_eq_or_imp,forall_eq] at hQ hN);(first|(revert hA;intro hA)|have hA:=trivial);(first|(revert hQ;intro hQ)|have hQ:=trivial);(first|(revert hN;intro hN)|have hN:=trivial);simp(disch:=omega) only[go_sem,W,Q0a,Nat.mul_one,go_sem,hA,hQ,hN];(repeat(refine ndI (by first|assumption|omega|rfl) ?_));(first|apply Q1b|apply Q1a|apply Q0w)))));(simp(disch:=omega) only[St.eff,setO,Q0q,go_sem,W,Q0a,Nat.mul_one]))|((with_reducible apply Q0o);rfl;rfl;rfl;all_goals intro hb;all_goals(simp(disch:=omega) only[St.eff,setO,Q0q,go_sem,W,Q0a,Nat.mul_one]))|((with_reducible refine Q0p ?_ ?_ ?_ ?_);kernel_rfl;kernel_rfl;(simp[Q0m,Q1j,St.free,Q1i,AV.refsL,AV.refs,Q0a]);intro R hR)))))
         all_goals exact hN1 _ (St.le_of (by simp[leT]) (by simp[leH,hget]))
       · have c3:decide (d[a]! < d[v]!)=false:=decide_eq_false hlt
         rw[c3] at lf
         have hu2:=(Q4t (p:=(qV d a)) (d:=d) (fun h=>absurd (show(decide (d[a]! < d[v]!))=true from h.2) (by rw[c3];simp))).symm.trans hu
         rw[←hu2] at hJ
         clear hu hu2 hlt c3
         generalize d[v]! = zx at *
         generalize d[a]! = zy at *
         (have W:=ndI k1 (ndI w1 (ndI y0 (ndI y1 (ndI y2 @wrI))));(repeat(any_goals(first|((with_reducible refine Q0g ?_ ?_);rfl;intro K hK;simp(disch:=omega) only[go_sem,W,Q0a,Nat.mul_one];((repeat(refine ndI (by first|assumption|omega|rfl) ?_));refine hK _ ?_;clear hK K))|(with_reducible first|(refine Q0i ?_;refine hR _ ?_;clear hR R)|((first|refine Q0h ?_|refine Q0c ?_);intro Ψ hΨ hΨ')|(refine Q0b ?_;intro R hR)|(refine hΨ _ ?_;clear hΨ hΨ' Ψ)|refine Q0d ?_|refine Q0j ?_|refine Q0e ?_)|((with_reducible refine hΨ' _ _ ?_ ?_);(focus(simp;done));clear hΨ hΨ' Ψ)|((with_reducible apply Q0f);rfl;rfl;all_goals(intro hc;first|(cases hc;done)|(try simp only at hc)))|((with_reducible refine Q0t ?_ ?_);(apply Q1f);(focus(repeat(first|exact Sims.nil|((apply Sims.cons);(focus(first|((apply Ef.sim_row);assumption)|exact Ef.sim_refl _))))));kernel_rfl;(with_reducible refine hR _ ?_);clear hR R)|((first|((with_reducible apply Q0r);rfl;rfl;rfl;rfl)|((with_reducible apply Q0n);rfl;rfl;rfl)|((first|((with_reducible apply Q1m);rfl;rfl)|((with_reducible apply Q1p);rfl;rfl;rfl;rfl;rfl));((apply Q1g (lf);rfl;rfl;rfl;rfl;exact Try.func70);kernel_rfl;rfl;(focus((simp(disch:=omega) only[go_sem,W,Q0a,Nat.mul_one]);(try rfl);done));(first|rfl|simp[AV.inNL,AV.inN])))|((first|((with_reducible apply Q0u);rfl;rfl)|((with_reducible apply Q0s);rfl;rfl;rfl;rfl;rfl));(simp(disch:=omega) only[rdE,rdOf,go_sem,W,Q0a,Nat.mul_one];rfl);(intro τ hA hQ hN;((try simp only[Q1h,Op.operands,Call.operands,go_sem,W,Q0a,Nat.mul_one,go_sem,List.mem_cons,List.not_mem_nil,forall_eq_or_imp,forall_eq,List.append_toArray,Option.toArray] at hA);(try simp only[go_sem,W,Q0a,Nat.mul_one,List.mem_cons,List.not_mem_nil,forall_eq_or_imp,forall_eq] at hQ hN);(first|(revert hA;intro hA)|have hA:=trivial);(first|(revert hQ;intro hQ)|have hQ:=trivial);(first|(revert hN;intro hN)|have hN:=trivial);simp(disch:=omega) only[go_sem,W,Q0a,Nat.mul_one,go_sem,hA,hQ,hN];(repeat(refine ndI (by first|assumption|omega|rfl) ?_));(first|apply Q1b|apply Q1a|apply Q0w)))));(simp(disch:=omega) only[St.eff,setO,Q0q,go_sem,W,Q0a,Nat.mul_one]))|((with_reducible apply Q0o);rfl;rfl;rfl;all_goals intro hb;all_goals(simp(disch:=omega) only[St.eff,setO,Q0q,go_sem,W,Q0a,Nat.mul_one]))|((with_reducible refine Q0p ?_ ?_ ?_ ?_);kernel_rfl;kernel_rfl;(simp[Q0m,Q1j,St.free,Q1i,AV.refsL,AV.refs,Q0a]);intro R hR)))))
         all_goals exact hJ _ (St.le_of (by simp[leT]) (by simp[leH,hget]))
     · have k1:decide ((i2:Int)≤(v:Int))=false:=decide_eq_false (by omega)
       have hu2:=(Q4t (p:=(qV d a)) (d:=d) (fun h=>hij h.1)).symm.trans hu
       rw[←hu2] at hJ
       clear hu hu2
       (repeat(any_goals(first|((with_reducible refine Q0g ?_ ?_);rfl;intro K hK;simp(disch:=omega) only[go_sem,k1,Q0a,Nat.mul_one,wrI];((repeat(refine ndI (by first|assumption|omega|rfl) ?_));refine hK _ ?_;clear hK K))|(with_reducible first|(refine Q0i ?_;refine hR _ ?_;clear hR R)|((first|refine Q0h ?_|refine Q0c ?_);intro Ψ hΨ hΨ')|(refine Q0b ?_;intro R hR)|(refine hΨ _ ?_;clear hΨ hΨ' Ψ)|refine Q0d ?_|refine Q0j ?_|refine Q0e ?_)|((with_reducible refine hΨ' _ _ ?_ ?_);(focus(simp;done));clear hΨ hΨ' Ψ)|((with_reducible apply Q0f);rfl;rfl;all_goals(intro hc;first|(cases hc;done)|(try simp only at hc)))|((with_reducible refine Q0t ?_ ?_);(apply Q1f);(focus(repeat(first|exact Sims.nil|((apply Sims.cons);(focus(first|((apply Ef.sim_row);assumption)|exact Ef.sim_refl _))))));kernel_rfl;(with_reducible refine hR _ ?_);clear hR R)|((first|((with_reducible apply Q0r);rfl;rfl;rfl;rfl)|((with_reducible apply Q0n);rfl;rfl;rfl)|((first|((with_reducible apply Q0u);rfl;rfl)|((with_reducible apply Q0s);rfl;rfl;rfl;rfl;rfl));(simp(disch:=omega) only[rdE,rdOf,go_sem,k1,Q0a,Nat.mul_one,wrI];rfl);(intro τ hA hQ hN;((try simp only[Q1h,Op.operands,Call.operands,go_sem,k1,Q0a,Nat.mul_one,wrI,go_sem,List.mem_cons,List.not_mem_nil,forall_eq_or_imp,forall_eq,List.append_toArray,Option.toArray] at hA);(try simp only[go_sem,k1,Q0a,Nat.mul_one,wrI,List.mem_cons,List.not_mem_nil,forall_eq_or_imp,forall_eq] at hQ hN);(first|(revert hA;intro hA)|have hA:=trivial);(first|(revert hQ;intro hQ)|have hQ:=trivial);(first|(revert hN;intro hN)|have hN:=trivial);simp(disch:=omega) only[go_sem,k1,Q0a,Nat.mul_one,wrI,go_sem,hA,hQ,hN];(repeat(refine ndI (by first|assumption|omega|rfl) ?_));(first|apply Q1b|apply Q1a|apply Q0w)))));(simp(disch:=omega) only[St.eff,setO,Q0q,go_sem,k1,Q0a,Nat.mul_one,wrI]))|((with_reducible apply Q0o);rfl;rfl;rfl;all_goals intro hb;all_goals(simp(disch:=omega) only[St.eff,setO,Q0q,go_sem,k1,Q0a,Nat.mul_one,wrI]))|((with_reducible refine Q0p ?_ ?_ ?_ ?_);kernel_rfl;kernel_rfl;(simp[Q0m,Q1j,St.free,Q1i,AV.refsL,AV.refs,Q0a]);intro R hR))))
       all_goals exact hJ _ (St.le_of (by simp[leT]) (by simp[leH,hget]))
   by_cases hgt:i2>j2
   · have k1:decide ((i2:Int)>(j2:Int))=true:=decide_eq_true (by omega)
     rw[if_pos hgt] at hq
     simp only[Prod.mk.injEq] at hq
     rw[←hq.1,←hq.2] at hJ
     (repeat(any_goals(first|((with_reducible refine Q0g ?_ ?_);rfl;intro K hK;simp(disch:=omega) only[go_sem,k1,Q0a,Nat.mul_one,wrI];((repeat(refine ndI (by first|assumption|omega|rfl) ?_));refine hK _ ?_;clear hK K))|(with_reducible first|(refine Q0i ?_;refine hR _ ?_;clear hR R)|((first|refine Q0h ?_|refine Q0c ?_);intro Ψ hΨ hΨ')|(refine Q0b ?_;intro R hR)|(refine hΨ _ ?_;clear hΨ hΨ' Ψ)|refine Q0d ?_|refine Q0j ?_|refine Q0e ?_)|((with_reducible refine hΨ' _ _ ?_ ?_);(focus(simp;done));clear hΨ hΨ' Ψ)|((with_reducible apply Q0f);rfl;rfl;all_goals(intro hc;first|(cases hc;done)|(try simp only at hc)))|((with_reducible refine Q0t ?_ ?_);(apply Q1f);(focus(repeat(first|exact Sims.nil|((apply Sims.cons);(focus(first|((apply Ef.sim_row);assumption)|exact Ef.sim_refl _))))));kernel_rfl;(with_reducible refine hR _ ?_);clear hR R)|((first|((with_reducible apply Q0r);rfl;rfl;rfl;rfl)|((with_reducible apply Q0n);rfl;rfl;rfl)|((first|((with_reducible apply Q0u);rfl;rfl)|((with_reducible apply Q0s);rfl;rfl;rfl;rfl;rfl));(simp(disch:=omega) only[rdE,rdOf,go_sem,k1,Q0a,Nat.mul_one,wrI];rfl);(intro τ hA hQ hN;((try simp only[Q1h,Op.operands,Call.operands,go_sem,k1,Q0a,Nat.mul_one,wrI,go_sem,List.mem_cons,List.not_mem_nil,forall_eq_or_imp,forall_eq,List.append_toArray,Option.toArray] at hA);(try simp only[go_sem,k1,Q0a,Nat.mul_one,wrI,List.mem_cons,List.not_mem_nil,forall_eq_or_imp,forall_eq] at hQ hN);(first|(revert hA;intro hA)|have hA:=trivial);(first|(revert hQ;intro hQ)|have hQ:=trivial);(first|(revert hN;intro hN)|have hN:=trivial);simp(disch:=omega) only[go_sem,k1,Q0a,Nat.mul_one,wrI,go_sem,hA,hQ,hN];(repeat(refine ndI (by first|assumption|omega|rfl) ?_));(first|apply Q1b|apply Q1a|apply Q0w)))));(simp(disch:=omega) only[St.eff,setO,Q0q,go_sem,k1,Q0a,Nat.mul_one,wrI]))|((with_reducible apply Q0o);rfl;rfl;rfl;all_goals intro hb;all_goals(simp(disch:=omega) only[St.eff,setO,Q0q,go_sem,k1,Q0a,Nat.mul_one,wrI]))|((with_reducible refine Q0p ?_ ?_ ?_ ?_);kernel_rfl;kernel_rfl;(simp[Q0m,Q1j,St.free,Q1i,AV.refsL,AV.refs,Q0a]);intro R hR))))
     all_goals exact hJ _ (St.le_of (by simp[leT]) (by simp[leH,hget]))
   · have k1:decide ((i2:Int)>(j2:Int))=false:=decide_eq_false (by omega)
     rw[if_neg hgt] at hq
     have lt3:=lt2 hgt
     have hs2:(Sort.swp d i2 j2).size=n:=by rw[Q2m];exact hs
     have w3:(i2:Int)+1=((i2+1:Nat):Int):=by omega
     have w4:(j2:Int)-1=((j2-1:Nat):Int):=by omega
     have hN1:∀σ':St,σ'.le (stPe (Sort.swp d i2 j2) n a b pv (i2+1) (j2-1))→Ψr .normal σ':=fun σ' h=>hN σ' ⟨((i2+1,j2-1),Sort.swp d i2 j2),by dsimp only;omega,by dsimp only;omega,by dsimp only;omega,hs2,hq⟩ (by dsimp only;omega) h
     clear hq hi2 hj2 lt2
     generalize hd9:Sort.swp d i2 j2=d2 at hN1 hs2
     have z0:=Q1z d
     rw[hs] at z0
     have z1:=Q2o d (j:=i2) (by omega)
     have z2:=Q2o d (j:=j2) (by omega)
     obtain⟨t1,t2⟩:=Q3p d (i:=i2) (j:=j2) (by omega) (by omega)
     have z4:(rI (d.setIfInBounds i2 d[j2]!)).length=n:=by rw[Q1z,Array.size_setIfInBounds];exact hs
     generalize d.setIfInBounds i2 d[j2]! = e1 at t1 t2 z4
     generalize d[i2]! = zi at *
     generalize d[j2]! = zj at *
     rw[hd9] at t2
     (have W:=ndI k1 (ndI w3 (ndI w4 (ndI z0 (ndI z1 (ndI z2 (ndI z4 (ndI t1 (ndI t2 @wrI))))))));(repeat(any_goals(first|((with_reducible refine Q0g ?_ ?_);rfl;intro K hK;simp(disch:=omega) only[go_sem,W,Q0a,Nat.mul_one];((repeat(refine ndI (by first|assumption|omega|rfl) ?_));refine hK _ ?_;clear hK K))|(with_reducible first|(refine Q0i ?_;refine hR _ ?_;clear hR R)|((first|refine Q0h ?_|refine Q0c ?_);intro Ψ hΨ hΨ')|(refine Q0b ?_;intro R hR)|(refine hΨ _ ?_;clear hΨ hΨ' Ψ)|refine Q0d ?_|refine Q0j ?_|refine Q0e ?_)|((with_reducible refine hΨ' _ _ ?_ ?_);(focus(simp;done));clear hΨ hΨ' Ψ)|((with_reducible apply Q0f);rfl;rfl;all_goals(intro hc;first|(cases hc;done)|(try simp only at hc)))|((with_reducible refine Q0t ?_ ?_);(apply Q1f);(focus(repeat(first|exact Sims.nil|((apply Sims.cons);(focus(first|((apply Ef.sim_row);assumption)|exact Ef.sim_refl _))))));kernel_rfl;(with_reducible refine hR _ ?_);clear hR R)|((first|((with_reducible apply Q0r);rfl;rfl;rfl;rfl)|((with_reducible apply Q0n);rfl;rfl;rfl)|((first|((with_reducible apply Q0u);rfl;rfl)|((with_reducible apply Q0s);rfl;rfl;rfl;rfl;rfl));(simp(disch:=omega) only[rdE,rdOf,go_sem,W,Q0a,Nat.mul_one];rfl);(intro τ hA hQ hN;((try simp only[Q1h,Op.operands,Call.operands,go_sem,W,Q0a,Nat.mul_one,go_sem,List.mem_cons,List.not_mem_nil,forall_eq_or_imp,forall_eq,List.append_toArray,Option.toArray] at hA);(try simp only[go_sem,W,Q0a,Nat.mul_one,List.mem_cons,List.not_mem_nil,forall_eq_or_imp,forall_eq] at hQ hN);(first|(revert hA;intro hA)|have hA:=trivial);(first|(revert hQ;intro hQ)|have hQ:=trivial);(first|(revert hN;intro hN)|have hN:=trivial);simp(disch:=omega) only[go_sem,W,Q0a,Nat.mul_one,go_sem,hA,hQ,hN];(repeat(refine ndI (by first|assumption|omega|rfl) ?_));(first|apply Q1b|apply Q1a|apply Q0w)))));(simp(disch:=omega) only[St.eff,setO,Q0q,go_sem,W,Q0a,Nat.mul_one]))|((with_reducible apply Q0o);rfl;rfl;rfl;all_goals intro hb;all_goals(simp(disch:=omega) only[St.eff,setO,Q0q,go_sem,W,Q0a,Nat.mul_one]))|((with_reducible refine Q0p ?_ ?_ ?_ ?_);kernel_rfl;kernel_rfl;(simp[Q0m,Q1j,St.free,Q1i,AV.refsL,AV.refs,Q0a]);intro R hR)))))
     all_goals exact hN1 _ (St.le_of (by simp[leT]) (by simp[leH,hget]))
 (repeat(any_goals(first|((with_reducible refine Q0g ?_ ?_);rfl;intro K hK;simp(disch:=omega) only[go_sem,Q0a,Nat.mul_one,wrI];((repeat(refine ndI (by first|assumption|omega|rfl) ?_));refine hK _ ?_;clear hK K))|(with_reducible first|(refine Q0i ?_;refine hR _ ?_;clear hR R)|((first|refine Q0h ?_|refine Q0c ?_);intro Ψ hΨ hΨ')|(refine Q0b ?_;intro R hR)|(refine hΨ _ ?_;clear hΨ hΨ' Ψ)|refine Q0d ?_|refine Q0j ?_|refine Q0e ?_)|((with_reducible refine hΨ' _ _ ?_ ?_);(focus(simp;done));clear hΨ hΨ' Ψ)|((with_reducible apply Q0f);rfl;rfl;all_goals(intro hc;first|(cases hc;done)|(try simp only at hc)))|((with_reducible refine Q0t ?_ ?_);(apply Q1f);(focus(repeat(first|exact Sims.nil|((apply Sims.cons);(focus(first|((apply Ef.sim_row);assumption)|exact Ef.sim_refl _))))));kernel_rfl;(with_reducible refine hR _ ?_);clear hR R)|((first|((with_reducible apply Q0r);rfl;rfl;rfl;rfl)|((with_reducible apply Q0n);rfl;rfl;rfl)|((first|((with_reducible apply Q0u);rfl;rfl)|((with_reducible apply Q0s);rfl;rfl;rfl;rfl;rfl));(simp(disch:=omega) only[rdE,rdOf,go_sem,Q0a,Nat.mul_one,wrI];rfl);(intro τ hA hQ hN;((try simp only[Q1h,Op.operands,Call.operands,go_sem,Q0a,Nat.mul_one,wrI,go_sem,List.mem_cons,List.not_mem_nil,forall_eq_or_imp,forall_eq,List.append_toArray,Option.toArray] at hA);(try simp only[go_sem,Q0a,Nat.mul_one,wrI,List.mem_cons,List.not_mem_nil,forall_eq_or_imp,forall_eq] at hQ hN);(first|(revert hA;intro hA)|have hA:=trivial);(first|(revert hQ;intro hQ)|have hQ:=trivial);(first|(revert hN;intro hN)|have hN:=trivial);simp(disch:=omega) only[go_sem,Q0a,Nat.mul_one,wrI,go_sem,hA,hQ,hN];(repeat(refine ndI (by first|assumption|omega|rfl) ?_));(first|apply Q1b|apply Q1a|apply Q0w)))));(simp(disch:=omega) only[St.eff,setO,Q0q,go_sem,Q0a,Nat.mul_one,wrI]))|((with_reducible apply Q0o);rfl;rfl;rfl;all_goals intro hb;all_goals(simp(disch:=omega) only[St.eff,setO,Q0q,go_sem,Q0a,Nat.mul_one,wrI]))|((with_reducible refine Q0p ?_ ?_ ?_ ?_);kernel_rfl;kernel_rfl;(simp[Q0m,Q1j,St.free,Q1i,AV.refsL,AV.refs,Q0a]);intro R hR))))
 all_goals(refine⟨by simp,⟨_,?_,AV.le_refl _⟩,Q0y (by simp[leH,hget])⟩;simp only[Try.results71,resL,ldA,Q1o,go_sem])
end
end Go.Proofs.Ytbmcdemnnbndeaa
