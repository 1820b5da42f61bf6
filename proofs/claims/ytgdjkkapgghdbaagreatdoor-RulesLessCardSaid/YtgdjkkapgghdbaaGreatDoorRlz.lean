/-
  The law RulesLess at what was read.
-/
import Derived.Test.YtgdjkkapgghdbaaGreatDoorRlq
import Derived.Test.YtgdjkkapgghdbaaGreatDoorRll
import Derived.Test.YtgdjkkapgghdbaaGreatDoorYm
import Derived.Test.YtgdjkkapgghdbaaGreatDoorRows
import Derived.Test.YtgdjkkapgghdbaaGreatDoorAvF
import Derived.ProofKit
import Derived.OpenShut
import Derived.ChangeOld
import Derived.Deep.Slices
import Derived.Test.YtgdjkkapgghdbaaGreatDoorAvO
import Derived.Test.YtgdjkkapgghdbaaGreatDoorTrh
import Derived.MakeChecks
namespace Go.Proofs.YtgdjkkapgghdbaaGreatDoor
set_option linter.unusedSimpArgs false
set_option linter.unusedVariables false
section
open Go.RowKit
open Nat (reduceBEq)
attribute [-go_sem] IntKind.bits
set_option maxRecDepth 20000
set_option maxHeartbeats 4000000
abbrev phT:Nat:=54
abbrev evT:Nat:=58
abbrev zC:List AV:=[vi .u64 0,nilA,nilA]
abbrev stU(s:Int)(M:List Ph)(r rc:Nat)(m:Nat)(cd cs X:List AV)(n i:Nat):St:=⟨[.any,.any,.ptr 2 0,.ptr 3 0,.any,.any,.any,.any,.any,.any,.any,.any,.any,.any,.any,.any,.any,.any,.any,.any,.any,.any,.any,.any,phs false M,vi .i64 M.length,vi .i64 i,.any,.any,.any,.any,.any,.any,.any,.any,.any,.any,.any,.any,.any,.any,.any,.any,.any,.any,.any,.any,.any,.any,.any,.any,.any,.any,.any,.any,.any,.any,.any,.any,.any,.any,.any,.any,.any,.any,.any,.any,.any,.any,.any,.any,.any,.any,.any,.any],[(2,zC),(3,[vi .u64 s,.row r phT 4 n,.row rc 23 1 m]),(r,cs),(rc,cd),(700,X)]⟩
abbrev X5u(s:Int)(M:List Ph)(m:Nat)(cd cs:List AV)(y:Ph)(i n:Nat)(tc:AV)(j:Nat)(X E:List AV):St:=⟨[.any,.any,.ptr 2 0,.ptr 3 0,.any,.ptr 5 0,.any,.any,.any,.any,.any,.any,.any,.any,.any,.any,.any,.any,.any,.any,.any,.any,.any,.any,phs false M,vi .i64 M.length,vi .i64 i,.any,.any,.any,.any,.any,.any,.any,.any,.any,.any,.any,.any,.any,.any,vi .i64 n,vi .i64 j,.any,.any,.any,.any,.any,.any,.any,.any,.any,.any,.any,.any,.any,.any,.any,.any,.any,.any,.any,.any,.any,.any,.any,.any,.any,.any,.any,.any,.any,.any,.any,.any],[(2,zC),(3,[vi .u64 s,.row 600 phT 4 i,.row 601 23 1 m]),(5,[vi .i64 y.role,vi .u64 y.who,vb y.stk,tc]),(600,cs),(601,cd),(700,X),(37,E)]⟩
abbrev X3p(s:Int)(M:List Ph)(m:Nat)(cd cs:List AV)(y:Ph)(i n:Nat)(tc:AV)(j:Nat)(r:Nat)(E:List AV):St:=⟨[.any,.any,.ptr 2 0,.ptr 3 0,.any,.ptr 5 0,.any,.any,.any,.any,.any,.any,.any,.any,.any,.any,.any,.any,.any,.any,.any,.any,.any,.any,phs false M,vi .i64 M.length,vi .i64 i,.any,.any,.any,.any,.any,.any,.any,.any,.any,.any,.any,.any,.any,.any,vi .i64 n,vi .i64 j,.any,.any,.any,.any,.any,.any,.any,.any,.any,.any,.any,.any,.any,.any,.any,.any,.any,.any,.any,.any,.any,.any,.any,.any,.any,.any,.any,.any,.any,.any,.any,.any],[(2,zC),(3,[vi .u64 s,.row 600 phT 4 i,.row 601 23 1 m]),(5,[vi .i64 y.role,vi .u64 y.who,vb y.stk,tc]),(600,cs),(601,cd),(r,E)]⟩
theorem few_frz(s:Int)(M:List Ph)(m:Nat)(cd cs:List AV)(y:Ph)(i:Nat)(N:List Ev)(X:List AV)(h1:AV.frzL 37 (N.flatMap Ev.pv) cd=cd)(h2:AV.frzL 37 (N.flatMap Ev.pv) cs=cs)(h3:AV.frzL 37 (N.flatMap Ev.pv) X=X):(X5u s M m cd cs y i N.length (.row 37 evT 14 N.length) N.length X (raE N)).to (X3p s M m cd cs y i N.length (evs false N) N.length 700 X):=by
 have h:=St.to.frz (σ:=X5u s M m cd cs y i N.length (.row 37 evT 14 N.length) N.length X (raE N)) 37 (pcs:=N.flatMap Ev.pv) rfl
 have e:((X5u s M m cd cs y i N.length (.row 37 evT 14 N.length) N.length X (raE N)).frz 37 (N.flatMap Ev.pv))=X3p s M m cd cs y i N.length (evs false N) N.length 700 X:=by
  simp[St.frz,AV.frz,AV.frzL,frzH,Q0o Q7x,h1,h2,h3]
 rwa [e] at h
theorem few_rn(s:Int)(M:List Ph)(m:Nat)(cd cs:List AV)(y:Ph)(i n:Nat)(X E:List AV)(h1:∀ρ,ρ 700=700→AV.renL ρ cs=cs)(h2:∀ρ,AV.renL ρ cd=cd)(h3:∀ρ,AV.renL ρ E=E)(g2:∀N,AV.inNL N cd=true)(g3:∀N,AV.inNL N E=true)(gi:∀N,AV.inNL N cs=true):(X5u s M m cd cs y i n (.row 37 evT 14 n) n X E).to (X3p s M m cd cs y i n (.row 700 evT 14 n) n 700 E):=by
 refine St.to.trans (St.to.of_le (τ:=X3p s M m cd cs y i n (.row 37 evT 14 n) n 37 E) (St.le_of (by simp[leT]) (by simp[leH,hget]))) ?_
 have h:=St.to.rn (σ:=X3p s M m cd cs y i n (.row 37 evT 14 n) n 37 E) (fun r=>if r=37 then 700 else r) (fun r=>if r=700 then 37 else r) [2,3,5,600,601,37] (by simp[AV.inNL,AV.inN]) (by simp) (by simp[inH,AV.inNL,AV.inN,Q0p,g2,g3,gi]) (by simp) (by simp)
 simp[AV.renL,AV.ren,renH,h1,h2,h3] at h
 exact h
theorem stU_rn(s:Int)(M:List Ph)(m:Nat)(cd cs X:List AV)(n i:Nat)(h1:∀ρ,ρ 700=700→AV.renL ρ cs=cs)(h2:∀ρ,AV.renL ρ cd=cd)(h3:∀ρ,AV.renL ρ X=X)(g1:∀N:List Nat,N.contains 700=true→AV.inNL N cs=true)(g2:∀N,AV.inNL N cd=true)(g3:∀N,AV.inNL N X=true):(stU s M 71 601 m cd cs X n i).to (stU s M 600 601 m cd cs X n i):=by
 have h:=St.to.rn (σ:=stU s M 71 601 m cd cs X n i) (fun r=>if r=71 then 600 else r) (fun r=>if r=600 then 71 else r) [2,3,71,601,700] (by simp[AV.inNL,AV.inN]) (by simp) (by simp[inH,AV.inNL,AV.inN,Q0p,g1,g2,g3]) (by simp) (by simp)
 simp[AV.renL,AV.ren,renH,h1,h2,h3] at h
 exact h
theorem X8u(n k:Nat):(if (k:Int)<(n:Int) then(k:Int) else(n:Int))=((min n k:Nat):Int):=by split<;>omega
theorem Q7k{α : Type}(l:List α)(k:Nat):l.take (min l.length k)=l.take k:=by
 rcases Nat.le_total l.length k with h|h
 · rw[Nat.min_eq_left h,List.take_length,List.take_of_length_le h]
 · rw[Nat.min_eq_right h]
theorem X0u(k:Nat)(l:List Ph)(d:Nat):AV.refsL d (Q2y k l)=false:=by
 unfold Q2y
 split
 · exact Q0l d _
 · rfl
theorem Z1c(k:Nat)(l:List Ph)(ρ : Nat→Nat):AV.renL ρ (Q2y k l)=Q2y k l:=by
 unfold Q2y
 split
 · exact Q0m ρ _
 · rfl
theorem cellsX_in(k:Nat)(l:List Ph)(N:List Nat):AV.inNL N (Q2y k l)=true:=by
 unfold Q2y
 split
 · exact Q0p N _
 · rfl
theorem Z1d(k:Nat)(l:List Ph)(pcs:List PV):AV.frzL 37 pcs (Q2y k l)=Q2y k l:=by
 unfold Q2y
 split
 · exact Q3l _ _ _
 · rfl
theorem X5q(r:Nat)(pcs:List PV)(a b:List AV):AV.frzL r pcs (a++b)=AV.frzL r pcs a++AV.frzL r pcs b:=by
 induction a with
 |nil=>simp[AV.frzL]
 |cons x a ih=>simp[AV.frzL,ih]
theorem X2f:∀(k:Nat) (l:List Ph) (pcs:List PV),AV.frzL 37 pcs (Q1j k l)=Q1j k l
 |_,[],pcs=>by simp[Q1j,AV.frzL]
 |0,p::l,pcs=>by simp[Q1j,AV.frzL,AV.frz]
 |k+1,p::l,pcs=>by
  simp only[Q1j]
  rw[X5q,Q3l,X2f k l pcs]
theorem few_fnK(k:Nat)(c:Cs)(hc:c.raw):Fn Tryz.prog 9 [csA c] [] (.agg [vi .u64 c.snd,.row 600 phT 4 (cutC c).ph.length,.row 601 23 1 (cutC c).cd.length]) [(600,Q1j k (cutC c).ph),(601,raA (cutC c).cd),(700,Q2y k (cutC c).ph)]:=by
 obtain⟨s,ph,cd⟩:=c
 obtain⟨hs,⟨hpl,hpo⟩,hcl,hco⟩:=hc
 dsimp only at hs hpl hpo hcl hco
 have p8:ph.length<9223372036854775808:=Nat.lt_succ_of_le hpl
 have c8:cd.length<9223372036854775808:=Nat.lt_succ_of_le hcl
 have c1:=X6e false (cd.take 60) (by rw[List.length_take];omega)
 have e1:(if (60:Int)<(cd.length:Int) then(60:Int) else(cd.length:Int))=((min cd.length 60:Nat):Int):=X8u cd.length 60
 have e2:(cd.flatMap apv).take (min cd.length 60*1)=(cd.take 60).flatMap apv:=by rw[Q5a Q3r,Q7k]
 have e3:(cd.take 60).length=min cd.length 60:=by rw[List.length_take,Nat.min_comm]
 have e4:(if (4:Int)<(ph.length:Int) then(4:Int) else(ph.length:Int))=((min ph.length 4:Nat):Int):=X8u ph.length 4
 have e5:(ph.flatMap Ph.pv).take (min ph.length 4*4)=(ph.take 4).flatMap Ph.pv:=by rw[Q5a Q6k,Q7k]
 have e6:(ph.take 4).length=min ph.length 4:=by rw[List.length_take,Nat.min_comm]
 have hpo':∀p∈ph.take 4,p.raw:=fun p hp=>hpo p (List.mem_of_mem_take hp)
 show Fn Tryz.prog 9 [.agg [vi .u64 s,phs false ph,asl false cd]] [] (.agg [vi .u64 s,.row 600 phT 4 ((ph.take 4).map cutP).length,.row 601 23 1 (cd.take 60).length]) [(600,Q1j k ((ph.take 4).map cutP)),(601,raA (cd.take 60)),(700,Q2y k ((ph.take 4).map cutP))]
 have h4:(ph.take 4).length≤4:=by rw[List.length_take];omega
 rw[e3] at c1
 rw[←e3] at e1 e2 c1
 rw[Nat.mul_one] at e2
 rw[←e6] at e4 e5
 generalize cd.take 60=D at *
 generalize ph.take 4=M at *
 unfold rcA at c1
 have f1:∀d,AV.refsL d ((D.flatMap apv).map .c)=false:=fun d=>Q0l d _
 have f4:((D.flatMap apv).map AV.c).length=D.length:=by rw[List.length_map,Q0o Q3r,Nat.mul_one]
 rw[show(M.map cutP).length=M.length from List.length_map _]
 (refine Q0v Tryz.func9 rfl (by rfl) ?_;simp only[Tryz.ntmps9,List.length_cons,List.length_nil,Nat.reduceAdd,Nat.reduceSub,List.replicate,List.cons_append,List.nil_append])
 (repeat(any_goals(first|((with_reducible refine Q0b ?_ ?_);rfl;intro K hK;simp(disch:=omega) only[go_sem,e1,e2,Bool.false_and,Nat.mul_one];((repeat(refine ndI (by first|assumption|rfl) ?_));refine hK _ ?_;clear hK K))|(with_reducible first|(refine Q0c ?_;refine hR _ ?_;clear hR R)|((first|refine Q0d ?_);intro J hJ hJ')|(refine Q0a ?_;intro R hR)|(refine hJ _ ?_;clear hJ hJ' J))|((first|((with_reducible apply Q0x);rfl;rfl;(simp(disch:=omega) only[rdE,rdOf,go_sem,e1,e2,Bool.false_and,Nat.mul_one];rfl);(intro τ hA hQ hN;((try simp only[Q1o,Op.operands,Call.operands,go_sem,e1,e2,Bool.false_and,Nat.mul_one,go_sem,List.mem_cons,List.not_mem_nil,forall_eq_or_imp,forall_eq,List.append_toArray,Option.toArray] at hA);(try simp only[go_sem,e1,e2,Bool.false_and,Nat.mul_one,List.mem_cons,List.not_mem_nil,forall_eq_or_imp,forall_eq] at hQ hN);(first|(revert hA;intro hA));(first|(revert hQ;intro hQ));(first|(revert hN;intro hN));simp(disch:=omega) only[go_sem,e1,e2,Bool.false_and,Nat.mul_one,go_sem,hA,hQ,hN];(repeat(refine ndI (by first|assumption|omega|rfl) ?_));(first|apply Q1f)))));(simp(disch:=omega) only[St.eff,setO,Q0r,go_sem,e1,e2,Bool.false_and,Nat.mul_one]))|((with_reducible refine Q0y ?_ ?_ ?_ ?_);kernel_rfl;kernel_rfl;(first|kernel_rfl);intro R hR))))
 refine X5v c1 rfl rfl rfl rfl rfl Tryz.func36 (by kernel_rfl) rfl ?_ rfl (by omega) ?_
 · simp only[Q0w,Q1k,AV.ren,go_sem]
 simp only[St.eff,setO,Q0r,go_sem]
 (have W:=ndI e4 (ndI e5 (ndI f1 f4));(repeat(any_goals(first|((with_reducible refine Q0b ?_ ?_);rfl;intro K hK;simp(disch:=omega) only[go_sem,W,Bool.false_and];((repeat(refine ndI (by first|assumption|omega|rfl) ?_));refine hK _ ?_;clear hK K))|(with_reducible first|(refine Q0c ?_;refine hR _ ?_;clear hR R)|((first|refine Q0d ?_|refine Q0g ?_);intro J hJ hJ')|(refine Q0a ?_;intro R hR)|(refine hJ _ ?_;clear hJ hJ' J))|((with_reducible refine Q0z ?_ ?_);(apply Q2e);(focus(repeat(first|exact Sims.nil|((apply Sims.cons);(focus(first|((apply Ef.sim_row);assumption)|exact Ef.sim_refl _))))));kernel_rfl;(with_reducible refine hR _ ?_);clear hR R)|((first|((with_reducible apply Q0x);rfl;rfl;(simp(disch:=omega) only[rdE,rdOf,go_sem,W,Bool.false_and];rfl);(intro τ hA hQ hN;((try simp only[Q1o,Op.operands,Call.operands,go_sem,W,Bool.false_and,go_sem,List.mem_cons,List.not_mem_nil,forall_eq_or_imp,forall_eq,List.append_toArray,Option.toArray] at hA);(try simp only[go_sem,W,Bool.false_and,List.mem_cons,List.not_mem_nil,forall_eq_or_imp,forall_eq] at hQ hN);(first|(revert hA;intro hA));(first|(revert hQ;intro hQ));(first|(revert hN;intro hN));simp(disch:=omega) only[go_sem,W,Bool.false_and,go_sem,hA,hQ,hN];(repeat(refine ndI (by first|assumption|rfl) ?_));(first|apply Q1f|apply Q6m))))|((first|((with_reducible apply evD_new);rfl;rfl;rfl));(intro τ hA hQ hN;((try simp(disch:=omega) only[Q1o,Op.operands,Call.operands,go_sem,W,Bool.false_and,go_sem,List.mem_cons,List.not_mem_nil,forall_eq_or_imp,forall_eq,List.append_toArray,Option.toArray] at hA);(try simp(disch:=omega) only[go_sem,W,Bool.false_and,List.mem_cons,List.not_mem_nil,forall_eq_or_imp,forall_eq] at hQ);(first|(revert hA;intro hA));(first|(revert hQ;intro hQ));simp(disch:=omega) only[go_sem,W,Bool.false_and,go_sem,hA,hQ,hN];(repeat(refine ndI (by first|assumption|rfl) ?_));exact eff_nw _ _ _ _))));(simp(disch:=omega) only[St.eff,setO,Q0r,go_sem,W,Bool.false_and]))))))
 have snoc:∀{i:Nat} {y:Ph},M[i]? = some y→(M.take (i+1)).map cutP=(M.take i).map cutP++[cutP y]:=fun h=>by
  rw[List.take_add_one,h,List.map_append];rfl
 have tl:∀i,i≤M.length→((M.take i).map cutP).length=i:=fun i h=>by rw[List.length_map,List.length_take];omega
 refine Q3y M.length (fun i=>stU s M 600 601 D.length (raA D) (Q1j k ((M.take i).map cutP)) (Q2y k ((M.take i).map cutP)) i i) ?_ ?_
 · refine St.to.trans (St.to.nilcell 3 600 phT 4 1 (cs:=[vi .u64 s,nilA,.row 16 23 1 D.length]) (by simp[hget]) rfl (by simp[St.free,Q1z,AV.refsL,AV.refs]) (by decide) (by decide)) ?_
   refine St.to.trans (St.to.noname 700 evT (by simp[St.free,Q1z,hput,AV.refsL,AV.refs]) (by decide)) ?_
   refine St.to.trans (St.to.of_le (τ:=stU s M 600 16 D.length (raA D) [] [] 0 0) (St.le_of (by simp[leT]) (by simp[leH,hget,hput]))) ?_
   have h:=St.to.rn (σ:=stU s M 600 16 D.length (raA D) [] [] 0 0) (fun r=>if r=16 then 601 else r) (fun r=>if r=601 then 16 else r) [2,3,600,16,700] (by simp[AV.inNL,AV.inN]) (by simp) (by simp[inH,AV.inNL,AV.inN,Q0p]) (by simp) (by simp)
   have e0:Q2y k ([]:List Ph)=[]:=rfl
   have e9:Q1j k ([]:List Ph)=[]:=by unfold Q1j;rfl
   simp only[List.take_zero,List.map_nil,e0,e9]
   simp[AV.renL,AV.ren,renH] at h
   exact h
 intro i hi J hJ hJ'
 (try dsimp only at hJ ⊢)
 have k8:M.length<9223372036854775808:=by omega
 rcases Nat.lt_or_ge i M.length with hlt|hge
 · obtain⟨y,hy⟩:∃x,M[i]? = some x:=⟨_,List.getElem?_eq_getElem hlt⟩
   have k1:(decide ((i:Int)<(M.length:Int)))=true:=decide_eq_true (by omega)
   have k2:=X1j hy
   have k7:(i:Int)+1=((i+1:Nat):Int):=by omega
   have yo:=hpo' y (List.mem_of_getElem? hy)
   have y8:y.tr.length<9223372036854775808:=Nat.lt_succ_of_le yo.2.1
   have ce:=cloneE_fn false (y.tr.take 60) (by rw[List.length_take];omega)
   have g1:(if (60:Int)<(y.tr.length:Int) then(60:Int) else(y.tr.length:Int))=((min y.tr.length 60:Nat):Int):=X8u y.tr.length 60
   have g2:(y.tr.flatMap Ev.pv).take (min y.tr.length 60*14)=(y.tr.take 60).flatMap Ev.pv:=by rw[Q5a Q7x,Q7k]
   have g3:(y.tr.take 60).length=min y.tr.length 60:=by rw[List.length_take,Nat.min_comm]
   have yo':∀e∈y.tr.take 60,e.raw:=fun e he=>yo.2.2 e (List.mem_of_mem_take he)
   have ey:cutP y={y with tr:=(y.tr.take 60).map cutE}:=rfl
   have sn:=snoc hy
   have tli:=tl i hi
   have ck:=X0v k ((M.take i).map cutP) (cutP y)
   rw[←sn,tli] at ck
   have cx:Q2y k ((M.take (i+1)).map cutP)=if i=k then raE ((y.tr.take 60).map cutE) else Q2y k ((M.take i).map cutP):=by
    rw[sn]
    unfold Q2y
    rcases Nat.lt_trichotomy k i with h|h|h
    · rw[if_neg (by omega),List.getElem?_append_left (by omega)]
    · rw[if_pos h.symm,List.getElem?_append_right (by omega),tli,h,Nat.sub_self];rfl
    · rw[if_neg (by omega),List.getElem?_eq_none (by rw[List.length_append,tli];simp;omega),List.getElem?_eq_none (by omega)]
   have cz:i=k→Q2y k ((M.take i).map cutP)=[]:=fun h=>by
    unfold Q2y
    rw[List.getElem?_eq_none (by omega)]
   have q1:=fun d h=>Q5f k ((M.take i).map cutP) d h
   have q2:=fun ρ h=>Q8m k ((M.take i).map cutP) ρ h
   have q3:=fun N h=>X0w k ((M.take i).map cutP) N h
   have q5:=fun pcs=>X2f k ((M.take i).map cutP) pcs
   have q4:=Q8n k ((M.take i).map cutP)
   rw[tli] at q4
   have x1:=fun d=>X0u k ((M.take i).map cutP) d
   have x2:=fun ρ=>Z1c k ((M.take i).map cutP) ρ
   have x4:=fun pcs=>Z1d k ((M.take i).map cutP) pcs
   have x3:=fun N=>cellsX_in k ((M.take i).map cutP) N
   have hP:i=k→∀N,AV.inNL N (Q1j k ((M.take i).map cutP))=true:=fun h N=>by
    rw[X0x _ _ (by omega)];exact Q0p N _
   rw[ck,cx] at hJ
   generalize Q1j k ((M.take i).map cutP)=cs at q1 q2 q3 q4 q5 hP hJ ck ⊢
   generalize Q2y k ((M.take i).map cutP)=X at x1 x2 x3 x4 cx cz hJ ⊢
   have hcp:cutP y=⟨y.role,y.who,y.stk,(y.tr.take 60).map cutE⟩:=rfl
   rw[hcp] at hJ
   rw[←g3] at g1 g2
   clear snoc sn ck cx hcp ey tl
   generalize y.tr.take 60=N at *
   have hJ0:=fun σ'=>hJ σ' (by omega)
   (have W:=ndI k1 (ndI k2 (ndI k7 (ndI g1 (ndI g2 (ndI q1 (ndI q2 (ndI q3 (ndI q4 (ndI x1 (ndI x2 x3))))))))));(repeat(any_goals(first|((with_reducible refine Q0n ?_ ?_ ?_);rfl;rfl;intro K hK;(apply Q0s (ce) (fun r=>37);rfl;rfl;rfl;rfl;exact Tryz.func37;kernel_rfl;rfl;rfl;(intro r hr q hq h;simp(disch:=omega) only[List.map_cons,List.map_nil,List.cons_append,List.nil_append,List.mem_cons,List.not_mem_nil,or_false] at hr hq;(try dsimp only at h);first|omega);(simp(disch:=omega) only[Q0w,Q1k,AV.ren,AV.renL,Q0m,List.mem_cons,List.not_mem_nil,forall_eq_or_imp,forall_eq,Q1g,List.contains_cons,List.contains_nil,AV.refsL,AV.refs,Q0l,AV.inN,AV.inNL,inH,Q0p,go_sem,W,Bool.false_and]));(simp(disch:=omega) only[Q0r,Q1h,renH,AV.ren,AV.renL,Q0m,go_sem,W,Bool.false_and];refine hK _ ?_;clear hK K))|((with_reducible refine Q0b ?_ ?_);rfl;intro K hK;simp(disch:=omega) only[go_sem,W,Bool.false_and];((repeat(refine ndI (by first|assumption|omega|rfl) ?_));refine hK _ ?_;clear hK K))|(with_reducible first|(refine Q0c ?_;refine hR _ ?_;clear hR R)|((first|refine Q0d ?_|refine Q0g ?_);intro J hJ hJ')|(refine Q0a ?_;intro R hR)|(refine hJ _ ?_;clear hJ hJ' J)|refine Q0i ?_)|((with_reducible apply Q0e);rfl;rfl;all_goals(intro hc;first|(cases hc;done)|(try simp only at hc)))))))
   refine Q3y N.length (fun j=>if j<N.length then X5u s M D.length (raA D) cs y i N.length (.row 37 evT 14 N.length) j X (raE ((N.take j).map cutE++N.drop j)) else if i=k then X3p s M D.length (raA D) cs y i N.length (.row 700 evT 14 N.length) j 700 (raE (N.map cutE)) else X3p s M D.length (raA D) cs y i N.length (evs false (N.map cutE)) j 700 X) ?_ ?_
   · have r0:∀ρ,AV.renL ρ (raA D)=raA D:=fun ρ=>Q0m ρ _
     by_cases h0:0<N.length
     · rw[if_pos h0]
       exact St.to.of_le (St.le_of (by simp[leT]) (by simp[leH,hget]))
     · obtain rfl:N=[]:=List.eq_nil_of_length_eq_zero (by omega)
       rw[if_neg h0]
       by_cases hik:i=k
       · rw[if_pos hik]
         exact St.to.trans (St.to.of_le (τ:=X5u s M D.length (raA D) cs y i 0 (.row 37 evT 14 0) 0 X (raE [])) (St.le_of (by simp[leT]) (by simp[leH,hget]))) (few_rn s M D.length (raA D) cs y i 0 X (raE []) q2 r0 (fun ρ=>Q0m ρ _) (fun N=>Q0p N _) (fun N=>Q0p N _) (hP hik))
       · rw[if_neg hik]
         exact St.to.trans (St.to.of_le (τ:=X5u s M D.length (raA D) cs y i 0 (.row 37 evT 14 0) 0 X (raE [])) (St.le_of (by simp[leT]) (by simp[leH,hget]))) (few_frz s M D.length (raA D) cs y i [] X (Q3l _ _ _) (q5 _) (x4 _))
   intro j hj J hJ hJ'
   (try dsimp only at hJ ⊢)
   have n8:N.length<9223372036854775808:=by omega
   have r0:∀ρ,AV.renL ρ (raA D)=raA D:=fun ρ=>Q0m ρ _
   rcases Nat.lt_or_ge j N.length with hjt|hje
   · obtain⟨e,he⟩:∃e,N[j]? = some e:=⟨N[j],List.getElem?_eq_getElem hjt⟩
     have c1:(decide ((j:Int)<(N.length:Int)))=true:=by simpa using hjt
     have c7:(j:Int)+1=((j+1:Nat):Int):=by omega
     rw[if_pos hjt]
     have hA:((N.take j).map cutE).length=j:=by rw[List.length_map,List.length_take];omega
     have d1:N.drop j=e::N.drop (j+1):=by
      rw[List.drop_eq_getElem_cons hjt]
      congr 1
      exact(List.getElem?_eq_some_iff.1 he).2
     have d2:(N.take (j+1)).map cutE++N.drop (j+1)=(N.take j).map cutE++(e.with (e.data.take 80))::N.drop (j+1):=by
      rw[List.take_add_one,he,List.map_append];simp[cutE]
     have eo:=yo' e (List.mem_of_getElem? he)
     have e8:e.data.length<9223372036854775808:=Nat.lt_succ_of_le eo.2.2.1
     have cb:=Z1a false (e.data.take 80) (by rw[List.length_take];omega)
     have m1:(if (80:Int)<(e.data.length:Int) then(80:Int) else(e.data.length:Int))=((min e.data.length 80:Nat):Int):=X8u e.data.length 80
     have m2:(e.data.flatMap bpv).take (min e.data.length 80)=(e.data.take 80).flatMap bpv:=by
      have:=Q5a (f:=bpv) Q4b e.data (min e.data.length 80)
      rw[Nat.mul_one] at this
      rw[this,Q7k]
     have m3:(e.data.take 80).length=min e.data.length 80:=by rw[List.length_take,Nat.min_comm]
     have fin:∀σ':St,σ'.to (X5u s M D.length (raA D) cs y i N.length (.row 37 evT 14 N.length) (j+1) X (raE ((N.take (j+1)).map cutE++N.drop (j+1))))→J .normal σ':=fun σ' h=>hJ σ' (by omega) (by
      by_cases hl:j+1<N.length
      · rw[if_pos hl];exact h
      · have ej:j+1=N.length:=by omega
        rw[if_neg hl]
        rw[ej,List.take_length,List.drop_length,List.append_nil] at h
        rw[ej]
        have lm:(N.map cutE).length=N.length:=List.length_map _
        by_cases hik:i=k
        · rw[if_pos hik]
          exact h.trans (few_rn s M D.length (raA D) cs y i N.length X (raE (N.map cutE)) q2 r0 (fun ρ=>Q0m ρ _) (fun N=>Q0p N _) (fun N=>Q0p N _) (hP hik))
        · rw[if_neg hik]
          have hf:=few_frz s M D.length (raA D) cs y i (N.map cutE) X (Q3l _ _ _) (q5 _) (x4 _)
          rw[lm] at hf
          exact h.trans hf)
     rw[d2] at fin
     rw[d1]
     generalize (N.take j).map cutE=A at hA fin ⊢
     generalize N.drop (j+1)=B at fin ⊢
     have u1:=ecell (B:=B) (y:=e) hA
     have u3:=spl_data (B:=B) (y:=e) hA (e.data.take 80)
     have u5:=Q5p (A++e::B)
     have v1:j*14+14≤(raE (A++e::B)).length:=by rw[u5,List.length_append,List.length_cons];omega
     rw[←m3] at m1 m2
     generalize e.data.take 80=D8 at *
     have w1:∀d,AV.refsL d (raE (A++e::B))=false:=fun d=>Q0l d _
     have w2:∀d,AV.refsL d (raE (A++e.with D8::B))=false:=fun d=>Q0l d _
     (have W:=ndI c1 (ndI c7 (ndI m1 (ndI m2 (ndI u1 (ndI u3 (ndI w1 (ndI w2 (ndI q1 (ndI x1 @wrI)))))))));(repeat(any_goals(first|((with_reducible refine Q0b ?_ ?_);rfl;intro K hK;simp(disch:=omega) only[go_sem,W,Bool.false_and,Nat.mul_one];((repeat(refine ndI (by first|assumption|rfl) ?_));refine hK _ ?_;clear hK K))|(with_reducible first|(refine Q0c ?_;refine hR _ ?_;clear hR R)|((first|refine Q0d ?_|refine Q0g ?_);intro J hJ hJ')|(refine Q0a ?_;intro R hR)|(refine hJ _ ?_;clear hJ hJ' J)|refine Q0i ?_)|((with_reducible refine hJ' _ _ ?_ ?_);(focus(simp;done));clear hJ hJ' J)|((with_reducible apply Q0e);rfl;rfl;all_goals(intro hc;first|(cases hc;done)|(try simp only at hc)))|((with_reducible refine Q0z ?_ ?_);(apply Q2e);(focus(repeat(first|exact Sims.nil|((apply Sims.cons);(focus(first|((apply Ef.sim_row);assumption)|exact Ef.sim_refl _))))));kernel_rfl;(with_reducible refine hR _ ?_);clear hR R)|((first|((with_reducible apply Q2g);rfl;rfl;((apply Q1c (cb);rfl;rfl;rfl;rfl;exact Tryz.func38);kernel_rfl;rfl;(focus((simp(disch:=omega) only[go_sem,W,Bool.false_and,Nat.mul_one]);(try rfl);done));(first|rfl)))|((with_reducible apply Q0x);rfl;rfl;(simp(disch:=omega) only[rdE,rdOf,go_sem,W,Bool.false_and,Nat.mul_one];rfl);(intro τ hA hQ hN;((try simp only[Q1o,Op.operands,Call.operands,go_sem,W,Bool.false_and,Nat.mul_one,go_sem,List.mem_cons,List.not_mem_nil,forall_eq_or_imp,forall_eq,List.append_toArray,Option.toArray] at hA);(try simp only[go_sem,W,Bool.false_and,Nat.mul_one,List.mem_cons,List.not_mem_nil,forall_eq_or_imp,forall_eq] at hQ hN);(first|(revert hA;intro hA));(first|(revert hQ;intro hQ));(first|(revert hN;intro hN));simp(disch:=omega) only[go_sem,W,Bool.false_and,Nat.mul_one,go_sem,hA,hQ,hN];(repeat(refine ndI (by first|assumption|omega|rfl) ?_));(first|apply Q1f|apply Q6m)))));(simp(disch:=omega) only[St.eff,setO,Q0r,go_sem,W,Bool.false_and,Nat.mul_one]))|((with_reducible refine Q0y ?_ ?_ ?_ ?_);kernel_rfl;kernel_rfl;(simp[Q2c,Q6y,St.free,Q1z,AV.refsL,AV.refs,q1,x1,w1]);intro R hR)))))
     all_goals exact fin _ (St.to.of_le (St.le_of (by simp[leT]) (by simp[leH,hget])))
   · have c1:(decide ((j:Int)<(N.length:Int)))=false:=by simpa using hje
     rw[if_neg (by omega)]
     have f5:(raA D).length=D.length:=by rw[List.length_map,Q0o Q3r,Nat.mul_one]
     have w3:∀d,AV.refsL d (raA D)=false:=fun d=>Q0l d _
     have w4:∀d,AV.refsL d (raE (N.map cutE))=false:=fun d=>Q0l d _
     have q6:cs.length=i*4:=q4
     have lm:(N.map cutE).length=N.length:=List.length_map _
     by_cases hik:i=k
     · rw[if_pos hik]
       rw[if_pos hik,if_pos hik] at hJ0
       dsimp only[X3p]
       (repeat(any_goals(first|((with_reducible refine Q0b ?_ ?_);rfl;intro K hK;simp(disch:=omega) only[go_sem,c1,k7,q1,q6,w3,w4,wrI];((repeat(refine ndI (by first|assumption|omega|rfl) ?_));refine hK _ ?_;clear hK K))|(with_reducible first|(refine Q0c ?_;refine hR _ ?_;clear hR R)|((first|refine Q0d ?_);intro J hJ hJ')|(refine Q0a ?_;intro R hR)|(refine hJ _ ?_;clear hJ hJ' J)|refine Q0t ?_)|((with_reducible refine hJ' _ _ ?_ ?_);(focus(simp;done));clear hJ hJ' J)|((with_reducible apply Q0e);rfl;rfl;all_goals(intro hc;first|(cases hc;done)|(try simp only at hc))))))
       all_goals refine hJ0 _ (St.to.trans (St.to.of_le (τ:=stU s M 71 601 D.length (raA D) (cs++phR ⟨y.role,y.who,y.stk,N.map cutE⟩) (raE (N.map cutE)) (i+1) (i+1)) (St.le_of (by simp[leT]) (by simp[leH,hget]))) (stU_rn s M D.length (raA D) _ _ _ _ ?_ r0 (fun ρ=>Q0m ρ _) ?_ (fun N=>Q0p N _) (fun N=>Q0p N _)))
       · intro ρ h
         rw[X2o,q2 ρ h]
         simp[AV.renL,AV.ren,h]
       · intro N h
         rw[X3h,q3 N h]
         simp[AV.inNL,AV.inN]
         simpa using h
     · rw[if_neg hik]
       rw[if_neg hik,if_neg hik] at hJ0
       dsimp only[X3p]
       (repeat(any_goals(first|((with_reducible refine Q0b ?_ ?_);rfl;intro K hK;simp(disch:=omega) only[go_sem,c1,k7,q1,q6,w3,x1,wrI];((repeat(refine ndI (by first|assumption|omega|rfl) ?_));refine hK _ ?_;clear hK K))|(with_reducible first|(refine Q0c ?_;refine hR _ ?_;clear hR R)|((first|refine Q0d ?_);intro J hJ hJ')|(refine Q0a ?_;intro R hR)|(refine hJ _ ?_;clear hJ hJ' J)|refine Q0t ?_)|((with_reducible refine hJ' _ _ ?_ ?_);(focus(simp;done));clear hJ hJ' J)|((with_reducible apply Q0e);rfl;rfl;all_goals(intro hc;first|(cases hc;done)|(try simp only at hc))))))
       all_goals refine hJ0 _ (St.to.trans (St.to.of_le (τ:=stU s M 71 601 D.length (raA D) (cs++(Ph.pv ⟨y.role,y.who,y.stk,N.map cutE⟩).map .c) X (i+1) (i+1)) (St.le_of (by simp[leT]) (by simp[leH,hget,Ph.pv]))) (stU_rn s M D.length (raA D) _ _ _ _ ?_ r0 x2 ?_ (fun N=>Q0p N _) x3))
       · intro ρ h
         rw[X2o,q2 ρ h,Q0m]
       · intro N h
         rw[X3h,q3 N h,Q0p]
         rfl
 · have k1:(decide ((i:Int)<(M.length:Int)))=false:=decide_eq_false (by omega)
   have ei:i=M.length:=by omega
   rw[ei,List.take_length]
   have w3:∀d,AV.refsL d (raA D)=false:=fun d=>Q0l d _
   have q1:=fun d h=>Q5f k (M.map cutP) d h
   have x1:=fun d=>X0u k (M.map cutP) d
   rw[ei] at k1
   (repeat(any_goals(first|((with_reducible refine Q0b ?_ ?_);rfl;intro K hK;simp(disch:=omega) only[go_sem,k1,q1,x1,w3,wrI];((repeat(refine ndI (by first|assumption|rfl) ?_));refine hK _ ?_;clear hK K))|(with_reducible first|(refine Q0c ?_;refine hR _ ?_;clear hR R)|((first|refine Q0d ?_);intro J hJ hJ')|(refine Q0a ?_;intro R hR)|(refine hJ _ ?_;clear hJ hJ' J)|refine Q0k ?_|refine Q0t ?_)|((with_reducible refine hJ' _ _ ?_ ?_);(focus(simp;done));clear hJ hJ' J)|((with_reducible apply Q0e);rfl;rfl;all_goals(intro hc;first|(cases hc;done)|(try simp only at hc))))))
   all_goals(refine⟨by simp,⟨_,?_,AV.le_refl _⟩,Q0h (by simp[leH,hget])⟩;simp only[Tryz.results9,resL,ldA,Q0q,go_sem])
end
section
open Go.RowKit
open Nat (reduceBEq)
attribute [-go_sem] IntKind.bits
set_option maxRecDepth 20000
set_option maxHeartbeats 2000000
theorem few_row(c:Cs)(hc:c.raw):Fn Tryz.prog 9 [csA c] [] (.agg [vi .u64 c.snd,.row 600 phT 4 (cutC c).ph.length,asl false (cutC c).cd]) [(600,raP (cutC c).ph)]:=by
 have h:=few_fnK 10 c hc
 have h4:=X3x c
 rw[X0x 10 _ (by omega)] at h
 have h1:=h.frzN (d:=601) (pcs:=(cutC c).cd.flatMap apv) (by simp[hget])
 have h2:=h1.weaken (H2:=[(600,raP (cutC c).ph)]) (AV.le_refl _) (fun r cs hr=>by
  rw[Q1y] at hr
  split at hr
  · rename_i e
    subst e;cases hr
    exact⟨[],by simp[frzH,hget]⟩
  · cases hr)
 have e1:((cutC c).cd.flatMap apv).length=(cutC c).cd.length*1:=Q0o Q3r _
 simpa [-List.length_flatMap,AV.frz,AV.frzL,e1] using h2
theorem few_fn(c:Cs)(hc:c.raw):Fn Tryz.prog 9 [csA c] [] (csA (cutC c)) []:=by
 have h1:=(few_row c hc).frzN (d:=600) (pcs:=(cutC c).ph.flatMap Ph.pv) (by simp[hget])
 have e1:((cutC c).ph.flatMap Ph.pv).length=(cutC c).ph.length*4:=Q0o Q6k _
 have e2:(cutC c).snd=c.snd:=rfl
 rw[←e2] at h1
 simpa [-List.length_flatMap,AV.frz,AV.frzL,frzH,e1] using h1
def PV.le(p q:PV):Prop:=∀S w v,RVp S w v p→RVp S w v q
theorem PV.le_refl(p:PV):p.le p:=fun _ _ _ h=>h
theorem PV.le_nil(ex:Bool)(sz:Nat):(PV.v (.slice none 0 0)).le (.sl ex sz 0 []):=fun S w v h=>by
 cases h with
 |v _ h=>exact .sl ex sz none 0 0 [] [] (Nat.le_refl _) (Nat.zero_le _) (fun _=>rfl) (fun _=>rfl) rfl (by simp) (fun h=>absurd rfl h) fun j u x hu=>by cases hu
def PV.leL:List PV→List PV→Prop
 |[],[]=>True
 |p::l,q::m=>p.le q∧PV.leL l m
 |_,_=>False
theorem PV.leL_len:∀{l m:List PV},PV.leL l m→l.length=m.length
 |[],[],_=>rfl
 |p::l,q::m,h=>by simp[PV.leL_len h.2]
theorem PV.leL_get:∀{l m:List PV},PV.leL l m→∀(j:Nat) (p q:PV),l[j]? = some p→m[j]? = some q→p.le q
 |[],[],_,j,p,q,h,_=>by simp at h
 |x::l,y::m,h,0,p,q,h1,h2=>by simp at h1 h2;subst h1 h2;exact h.1
 |x::l,y::m,h,j+1,p,q,h1,h2=>PV.leL_get h.2 j p q (by simpa using h1) (by simpa using h2)
theorem PV.le_sl{ex ex':Bool}(he:ex'=true→ex=true){sz n:Nat}{ps qs:List PV}(h:PV.leL ps qs):(PV.sl ex sz n ps).le (.sl ex' sz n qs):=fun S w v hv=>by
 cases hv with
 |sl _ _ A _ c us _ h1 h2 h3 hx hl hn h4 h5=>
  have hlen:=PV.leL_len h
  refine .sl ex' sz A n c us qs h1 h2 h3 (fun e=>hx (he e)) (hl.trans hlen) (by rw[←hlen];exact hn) h4 fun j u x hu hx'=>?_
  have hj:=(List.getElem?_eq_some_iff.1 hx').1
  have hp:ps[j]? = some ps[j]:=List.getElem?_eq_getElem (by omega)
  exact PV.leL_get h j _ _ hp hx' S w u (h5 j u _ hu hp)
theorem AV.le_pv{p q:PV}(h:p.le q):(AV.c p).le (.c q):=fun S ι w v hv=>by
 cases hv with
 |c _ _ hp=>exact .c _ _ (h S w v hp)
def plainE:Ev:=⟨2,0,30,0,0,5,0,[]⟩
def Q2s(b:Bool):Cs:=⟨20,[⟨2,20,false,[]⟩,⟨3,30,b,[plainE]⟩],[]⟩
theorem X8m(b:Bool):Fn Tryz.prog 35 [vb b] [] (csA (Q2s b)) []:=by
 have h:Fn Tryz.prog 35 [vb b] [] (.agg [vi .u64 20,.c (.sl true 4 2 [.v (.int .i64 2),.v (.int .u64 20),.v (.bool false),.v (.slice none 0 0),.v (.int .i64 3),.v (.int .u64 30),.v (.bool b),.sl true 14 1 [.v (.int .i64 2),.v (.int .i64 0),.v (.int .u64 30),.v (.int .u64 0),.v (.int .u8 0),.v (.int .u64 5),.v (.int .u64 0),.v (.int .u64 0),.v (.int .u64 0),.v (.int .u64 0),.v (.int .u64 0),.v (.int .u64 0),.v (.int .u64 0),.v (.slice none 0 0)]]),nilA]) []:=by
  (refine Q0v Tryz.func35 rfl (by rfl) ?_;simp only[Tryz.ntmps35,List.length_cons,List.length_nil,Nat.reduceAdd,Nat.reduceSub,List.replicate,List.cons_append,List.nil_append])
  (repeat(any_goals(first|((with_reducible refine Q2t ?_ ?_);rfl;intro K hK;apply Q2f;rfl;rfl;(focus(simp only[go_sem];try rfl));(focus(simp only[go_sem];try rfl));rfl;(first|omega);(first|omega);(first|omega);(simp only[go_sem];rfl);rfl;(focus((simp only[unC,Option.map_some]);(try rfl)));(simp only[go_sem];refine hK _ ?_;clear hK K))|((with_reducible refine Q0b ?_ ?_);rfl;intro K hK;simp only[go_sem];((repeat(refine ndI (by first|assumption) ?_));refine hK _ ?_;clear hK K))|(with_reducible first|(refine Q0c ?_;refine hR _ ?_;clear hR R)|((first|refine Q0d ?_);intro J hJ hJ')|(refine Q0a ?_;intro R hR)|(refine hJ _ ?_;clear hJ hJ' J)|refine Q0k ?_))))
  all_goals(refine⟨by simp,⟨_,?_,AV.le_refl _⟩,Q0h (by simp[leH,hget])⟩;simp only[Tryz.results35,resL,ldA,Q0q,go_sem])
 have hle:(AV.agg [vi .u64 20,.c (.sl true 4 2 [.v (.int .i64 2),.v (.int .u64 20),.v (.bool false),.v (.slice none 0 0),.v (.int .i64 3),.v (.int .u64 30),.v (.bool b),.sl true 14 1 [.v (.int .i64 2),.v (.int .i64 0),.v (.int .u64 30),.v (.int .u64 0),.v (.int .u8 0),.v (.int .u64 5),.v (.int .u64 0),.v (.int .u64 0),.v (.int .u64 0),.v (.int .u64 0),.v (.int .u64 0),.v (.int .u64 0),.v (.int .u64 0),.v (.slice none 0 0)]]),nilA]).le (csA (Q2s b)):=by
  refine AV.le_agg ⟨AV.le_refl _,AV.le_pv (PV.le_sl (by simp) ?_),AV.le_nil false 1,trivial⟩
  refine⟨PV.le_refl _,PV.le_refl _,PV.le_refl _,PV.le_nil false 14,PV.le_refl _,PV.le_refl _,PV.le_refl _,PV.le_sl (by simp) ?_,trivial⟩
  exact⟨PV.le_refl _,PV.le_refl _,PV.le_refl _,PV.le_refl _,PV.le_refl _,PV.le_refl _,PV.le_refl _,PV.le_refl _,PV.le_refl _,PV.le_refl _,PV.le_refl _,PV.le_refl _,PV.le_refl _,PV.le_nil false 1,trivial⟩
 exact h.weaken hle (fun r cs hr=>by cases hr)
theorem Q9f(b:Bool):(Q2s b).ok:=by
 refine⟨by cases b<;>decide,⟨by cases b<;>decide,fun p hp=>?_⟩,by cases b<;>decide,fun a ha=>by cases ha⟩
 rcases List.mem_cons.1 hp with rfl|hp
 · exact⟨by decide,by decide,fun e he=>by cases he⟩
 · rcases List.mem_cons.1 hp with rfl|hp
   · refine⟨by cases b<;>decide,by cases b<;>decide,fun e he=>?_⟩
     rcases List.mem_cons.1 he with rfl|he
     · exact⟨by decide,by decide,by decide,fun b hb=>(by cases hb),by decide,by decide⟩
     · cases he
   · cases hp
theorem Q4h(b:Bool):Q2u (Q2s b)=true:=by cases b<;>rfl
theorem X8o:brkC (Q2s false)=[⟨1,0,7⟩]:=by rfl
theorem X8n:brkC (Q2s true)=[]:=by rfl
theorem plain_for:(Q3b (Q2s true)).length=1:=by
 unfold Q3b
 rw[if_pos (Q4h true)]
 have e:canS (Q1s (fun s=>Q1u (Q2s true) s (Q2s true).snd) ((Q2s true).ph.flatMap fun p=>canS (Q3e [2,3] p.tr)))=[⟨30,5⟩]:=by
  have e1:((Q2s true).ph.flatMap fun p=>canS (Q3e [2,3] p.tr))=[⟨30,5⟩]:=by
   show canS []++(canS [(⟨30,5⟩:Sp)]++[])=_
   simp[canS,ddS]
  rw[e1]
  have e2:Q1s (fun s=>Q1u (Q2s true) s (Q2s true).snd) [⟨30,5⟩]=[⟨30,5⟩]:=by rfl
  rw[e2]
  simp[canS,ddS]
 rw[e]
 rfl
theorem X7v:Fn Tryz.prog 8 [] [] (vb true) []:=by
 have p0:=X8m false
 have p1:=X8m true
 have h0:=X3j (Q2s false) (Q9f false)
 have h1:=X3j (Q2s true) (Q9f true)
 obtain⟨r,hr1,hr2,en⟩:=X5y (Q2s true) (Q9f true) (Q4h true)
 have fo:=Q8k (Q2s true) (Q9f true)
 have e0:X0k (Q2s false)=⟨1,0,7⟩:=by unfold X0k Q5w;rw[if_pos (Q4h false),X8o]
 have e1:Q8u (Q2s false)=321:=by unfold Q8u;rw[if_pos (Q4h false),X8o]
 have e2:X0k (Q2s true)=⟨0,0,0⟩:=by unfold X0k Q5w;rw[if_pos (Q4h true),X8n]
 have e3:Q8u (Q2s true)=0:=by unfold Q8u;rw[if_pos (Q4h true),X8n]
 rw[e0,e1] at h0
 rw[e2,e3] at h1
 have er:r=[20,30]:=X6r hr1 (by decide) fun x=>by rw[hr2];rfl
 subst er
 have ef:=plain_for
 generalize Q3b (Q2s true)=F at fo ef
 clear e0 e1 e2 e3 hr1 hr2
 generalize Q2s false=P0 at p0 h0
 generalize Q2s true=P1 at p1 h1 en fo
 have k1:((F.length:Int)==1)=true:=by rw[ef];rfl
 (refine Q0v Tryz.func8 rfl (by rfl) ?_;simp only[Tryz.ntmps8,List.length_cons,List.length_nil,Nat.reduceAdd,Nat.reduceSub,List.replicate,List.cons_append,List.nil_append])
 (repeat(any_goals(first|((with_reducible refine Q0n ?_ ?_ ?_);rfl;rfl;intro K hK;(first|((apply Q0j (p0);rfl;rfl;rfl;rfl;exact Tryz.func35);kernel_rfl;rfl;(focus((simp only[go_sem,k1]);(try rfl);done));(first|rfl))|((apply Q0j (p1);rfl;rfl;rfl;rfl;exact Tryz.func35);kernel_rfl;rfl;(focus((simp only[go_sem,k1]);(try rfl);done));(first|rfl))|((apply Q0j (h0);rfl;rfl;rfl;rfl;exact Tryz.func27);kernel_rfl;rfl;(focus((simp only[go_sem,k1]);(try rfl);done));(first|rfl))|((apply Q0j (h1);rfl;rfl;rfl;rfl;exact Tryz.func27);kernel_rfl;rfl;(focus((simp only[go_sem,k1]);(try rfl);done));(first|rfl)));(simp only[go_sem,k1];refine hK _ ?_;clear hK K))|((with_reducible refine Q0b ?_ ?_);rfl;intro K hK;simp only[go_sem,k1];((repeat(refine ndI (by first|assumption) ?_));refine hK _ ?_;clear hK K))|(with_reducible first|(refine Q0c ?_;refine hR _ ?_;clear hR R)|((first|refine Q0d ?_);intro J hJ hJ')|(refine Q0a ?_;intro R hR)|(refine hJ _ ?_;clear hJ hJ' J)|refine Q0k ?_)|((with_reducible apply Q1a);rfl;rfl;rfl;all_goals(intro hb;first|(cases hb;done)|((try simp only[Bool.not_true,Bool.not_false] at hb);(first|((with_reducible intro K hK);(first|((first|(apply Q0j (en);rfl;rfl;rfl;rfl;exact Tryz.func17)|(apply Q0j (fo);rfl;rfl;rfl;rfl;exact Tryz.func13));kernel_rfl;rfl;(focus((simp only[go_sem,k1]);(try rfl);done));(first|rfl))|((apply Q0j (p1);rfl;rfl;rfl;rfl;exact Tryz.func35);kernel_rfl;rfl;(focus((simp only[go_sem,k1]);(try rfl);done));(first|rfl))|skip);simp only[go_sem,k1];((repeat(refine ndI (by first|assumption) ?_));refine hK _ ?_;clear hK K)))))))))
 all_goals(refine⟨by simp,⟨_,?_,AV.le_refl _⟩,Q0h (by simp[leH,hget])⟩;simp only[Tryz.results8,resL,ldA,Q0q,go_sem])
end
section
open Go.RowKit
open Nat (reduceBEq)
attribute [-go_sem] IntKind.bits
set_option maxRecDepth 20000
set_option maxHeartbeats 2000000
theorem bk_at{l:List Bk}{i:Nat}{b:Bk}(h:l[i]? = some b):((l.flatMap Bk.pv).drop (i*3)).take 3=[.v (.int .i64 b.i),.v (.int .i64 b.j),.v (.int .i64 b.r)]:=Q4s (f:=Bk.pv) X9v h
theorem Z0p(ex:Bool)(l:List Sp)(x:Sp)(hl:l.length≤1000000)(hlo:∀y∈l,y.ok)(hx:x.ok):Fn Tryz.prog 65 [spl5 ex l,spA x] [] (vi .i64 (idxF (fun y=>decide (x=y)) l 0)) []:=by
 obtain⟨r,hr⟩:∃r,idxF (fun y=>decide (x=y)) l 0=r:=⟨_,rfl⟩
 rw[hr]
 (refine Q0v Tryz.func65 rfl (by rfl) ?_;simp only[Tryz.ntmps65,List.length_cons,List.length_nil,Nat.reduceAdd,Nat.reduceSub,List.replicate,List.cons_append,List.nil_append])
 (repeat(any_goals(first|((with_reducible refine Q0b ?_ ?_);rfl;intro K hK;simp only[go_sem];((repeat(refine ndI (by first|assumption) ?_));refine hK _ ?_;clear hK K))|(with_reducible first|(refine Q0c ?_;refine hR _ ?_;clear hR R)|((first|refine Q0d ?_|refine Q0g ?_);intro J hJ hJ')|(refine Q0a ?_;intro R hR)|(refine hJ _ ?_;clear hJ hJ' J)))))
 refine Q1t (α:={i:Nat // i≤l.length∧idxF (fun y=>decide (x=y)) (l.drop i) i=r}) (fun p=>⟨[spl5 ex l,.any,.any,.ptr 3 0,.any,.any,.any,vi .i64 l.length,vi .i64 (p.1:Int),.any,.any,.any,.any,.any,.any,.any,.any,.any,.any],[(3,[vi .u64 x.a,vi .u64 (l0 x.k),vi .u64 (l1 x.k),vi .u64 (l2 x.k),vi .u64 (l3 x.k)])]⟩) (fun p=>l.length-p.1) ⟨0,Nat.zero_le _,hr⟩ (St.le_of (by simp[leT]) (by simp[leH,hget])) ?_
 rintro ⟨i,hi,hd⟩ J hJ hJ'
 (try dsimp only at hJ ⊢)
 rcases Nat.lt_or_ge i l.length with hlt|hge
 · obtain⟨y,hy⟩:∃y,l[i]? = some y:=⟨_,List.getElem?_eq_getElem hlt⟩
   have k1:(decide ((i:Int)<(l.length:Int)))=true:=by simp;omega
   have k2:=X6p hy
   have k7:(i:Int)+1=((i+1:Nat):Int):=by omega
   have hdr:l.drop i=y::l.drop (i+1):=by
    rw[List.drop_eq_getElem_cons hlt]
    rw[List.getElem?_eq_getElem hlt] at hy
    rw[Option.some.inj hy]
   have k4:=X2l hx (hlo y (List.mem_of_getElem? hy))
   rw[hdr] at hd
   unfold idxF at hd
   by_cases hxy:x=y
   · rw[decide_eq_true hxy] at k4
     rw[if_pos (by simp[hxy])] at hd
     (have W:=ndI k1 (ndI k2 (ndI k4 (ndI k7 @wrI)));(repeat(any_goals(first|((with_reducible refine Q0b ?_ ?_);rfl;intro K hK;simp(disch:=omega) only[go_sem,W];((repeat(refine ndI (by first|assumption|rfl) ?_));refine hK _ ?_;clear hK K))|(with_reducible first|(refine Q0c ?_;refine hR _ ?_;clear hR R)|((first|refine Q0d ?_|refine Q0g ?_);intro J hJ hJ')|(refine Q0a ?_;intro R hR)|(refine hJ _ ?_;clear hJ hJ' J)|refine Q0i ?_|refine Q0k ?_)|((with_reducible refine hJ' _ _ ?_ ?_);(focus(simp;done));clear hJ hJ' J)|((with_reducible apply Q0e);rfl;rfl;all_goals(intro hc;first|(cases hc;done)|(try simp only at hc)))|((with_reducible refine Q0z ?_ ?_);kernel_rfl;(with_reducible refine hR _ ?_);clear hR R)|(((with_reducible apply Q0x);rfl;rfl;(simp(disch:=omega) only[rdE,rdOf,go_sem,W];rfl);(intro τ hA hQ hN;((try simp only[Q1o,Op.operands,Call.operands,go_sem,W,go_sem,List.mem_cons,List.not_mem_nil,forall_eq_or_imp,forall_eq,List.append_toArray,Option.toArray] at hA);(try simp only[go_sem,W,List.mem_cons,List.not_mem_nil,forall_eq_or_imp,forall_eq] at hQ hN);(first|(revert hA;intro hA));(first|(revert hQ;intro hQ));(first|(revert hN;intro hN));simp(disch:=omega) only[go_sem,W,go_sem,hA,hQ,hN];(repeat(refine ndI (by first|assumption|omega|rfl) ?_));(first|apply Q1f))));(simp(disch:=omega) only[St.eff,setO,Q0r,go_sem,W]))|((with_reducible refine Q0y ?_ ?_ ?_ ?_);kernel_rfl;kernel_rfl;(first|kernel_rfl);intro R hR)))))
     all_goals rw[←hd]
     all_goals(refine⟨by simp,⟨_,?_,AV.le_refl _⟩,Q0h (by simp[leH,hget])⟩;simp only[Tryz.results65,resL,ldA,Q0q,go_sem])
   · rw[decide_eq_false hxy] at k4
     rw[if_neg (by simp[hxy])] at hd
     have hJ1:=fun σ'=>hJ σ' ⟨i+1,hlt,hd⟩ (by dsimp only;omega)
     dsimp only at hJ1
     (have W:=ndI k1 (ndI k2 (ndI k4 (ndI k7 @wrI)));(repeat(any_goals(first|((with_reducible refine Q0b ?_ ?_);rfl;intro K hK;simp(disch:=omega) only[go_sem,W];((repeat(refine ndI (by first|assumption|rfl) ?_));refine hK _ ?_;clear hK K))|(with_reducible first|(refine Q0c ?_;refine hR _ ?_;clear hR R)|((first|refine Q0d ?_|refine Q0g ?_);intro J hJ hJ')|(refine Q0a ?_;intro R hR)|(refine hJ _ ?_;clear hJ hJ' J)|refine Q0i ?_)|((with_reducible refine hJ' _ _ ?_ ?_);(focus(simp;done));clear hJ hJ' J)|((with_reducible apply Q0e);rfl;rfl;all_goals(intro hc;first|(cases hc;done)|(try simp only at hc)))|((with_reducible refine Q0z ?_ ?_);kernel_rfl;(with_reducible refine hR _ ?_);clear hR R)|(((with_reducible apply Q0x);rfl;rfl;(simp(disch:=omega) only[rdE,rdOf,go_sem,W];rfl);(intro τ hA hQ hN;((try simp only[Q1o,Op.operands,Call.operands,go_sem,W,go_sem,List.mem_cons,List.not_mem_nil,forall_eq_or_imp,forall_eq,List.append_toArray,Option.toArray] at hA);(try simp only[go_sem,W,List.mem_cons,List.not_mem_nil,forall_eq_or_imp,forall_eq] at hQ hN);(first|(revert hA;intro hA));(first|(revert hQ;intro hQ));(first|(revert hN;intro hN));simp(disch:=omega) only[go_sem,W,go_sem,hA,hQ,hN];(repeat(refine ndI (by first|assumption|omega|rfl) ?_));(first|apply Q1f))));(simp(disch:=omega) only[St.eff,setO,Q0r,go_sem,W]))|((with_reducible refine Q0y ?_ ?_ ?_ ?_);kernel_rfl;kernel_rfl;(first|kernel_rfl);intro R hR)))))
     all_goals exact hJ1 _ (St.le_of (by simp[leT]) (by simp[leH,hget]))
 · have k1:(decide ((i:Int)<(l.length:Int)))=false:=by simp;omega
   rw[List.drop_eq_nil_of_le hge] at hd
   have hd:r = -1:=hd.symm
   (repeat(any_goals(first|((with_reducible refine Q0b ?_ ?_);rfl;intro K hK;simp only[go_sem,k1];((repeat(refine ndI (by first|assumption) ?_));refine hK _ ?_;clear hK K))|(with_reducible first|(refine Q0c ?_;refine hR _ ?_;clear hR R)|((first|refine Q0d ?_);intro J hJ hJ')|(refine Q0a ?_;intro R hR)|(refine hJ _ ?_;clear hJ hJ' J)|refine Q0k ?_|refine Q0t ?_)|((with_reducible refine hJ' _ _ ?_ ?_);(focus(simp;done));clear hJ hJ' J)|((with_reducible apply Q0e);rfl;rfl;all_goals(intro hc;first|(cases hc;done)|(try simp only at hc))))))
   all_goals rw[hd]
   all_goals(refine⟨by simp,⟨_,?_,AV.le_refl _⟩,Q0h (by simp[leH,hget])⟩;simp only[Tryz.results65,resL,ldA,Q0q,go_sem])
theorem X3y(ex:Bool)(l:List Sp)(x:Sp)(hl:l.length≤1000000)(hlo:∀y∈l,y.ok)(hx:x.ok):Fn Tryz.prog 29 [spl5 ex l,spA x] [] (vb (decide (x∈l))) []:=by
 have h:=Z0p ex l x hl hlo hx
 have e:=Q6z (fun y=>decide (x=y)) l 0
 rw[show(l.any fun y=>decide (x=y))=decide (x∈l) by rw[Bool.eq_iff_iff];simp] at e
 generalize idxF (fun y=>decide (x=y)) l 0=r at h e
 rw[←e]
 (refine Q0v Tryz.func29 rfl (by rfl) ?_;simp only[Tryz.ntmps29,List.length_cons,List.length_nil,Nat.reduceAdd,Nat.reduceSub,List.replicate,List.cons_append,List.nil_append])
 (repeat(any_goals(first|((with_reducible refine Q0n ?_ ?_ ?_);rfl;rfl;intro K hK;((apply Q0j (h);rfl;rfl;rfl;rfl;exact Tryz.func65);kernel_rfl;rfl;(focus((simp only[go_sem]);(try rfl);done));(first|rfl));(simp only[go_sem];refine hK _ ?_;clear hK K))|((with_reducible refine Q0b ?_ ?_);rfl;intro K hK;simp only[go_sem];((repeat(refine ndI (by first|assumption) ?_));refine hK _ ?_;clear hK K))|(with_reducible first|(refine Q0c ?_;refine hR _ ?_;clear hR R)|((first|refine Q0d ?_);intro J hJ hJ')|(refine Q0a ?_;intro R hR)|(refine hJ _ ?_;clear hJ hJ' J)|refine Q0k ?_))))
 all_goals(refine⟨by simp,⟨_,?_,AV.le_refl _⟩,Q0h (by simp[leH,hget])⟩;simp only[Tryz.results29,resL,ldA,Q0q,go_sem])
end
section
open Go.RowKit
section
variable {P:Program} {o:Oper} {σ : St} {K:St→Prop}
theorem X3b{f:FuncId}{fn:Func}{cargs:List AV}{d r e sz n:Nat}{pcs:List PV}{fo:Operand}{cas:Array Operand}{ts:Array TypeId}{caps:List AV}(hF:Fn P f cargs [] (.row r e sz n) [(r,pcs.map .c)])(hpc:∀p∈pcs,∃x,p = .v x)(ho:o.op = .call {callee:=.value fo,args:=cas,argTypes:=ts})(hfo:Q0f fo=true)(has:cas.toList.all Q0f=true)(hf:σ.ev fo = .fn f caps)
 (hfn:P.funcs[f]? = some fn) (hname:(fn.name == "runtime.NumGoroutine")=false) (hbody:fn.body.isNone=false)
 (hargs:AV.viewL σ.H (cas.toList.map σ.ev++caps)=cargs) (hfr:σ.free d=true) (hd2:d<1000) (hK:K ((St.mk σ.T (hput σ.H d (pcs.map .c))).put o.dst (.row d e sz n))):OpA P o σ K:=by
 intro E ι a w hc K' Q hK'
 have hfv:=hc.ev fo hfo
 rw[hf] at hfv
 generalize hfe:a.eval fo=fv at hfv
 cases hfv with
 |fn _ us _ hul hus=>
  have hvs:∀(j:Nat) (v:Value) (y:AV),(cas.toList.map a.eval++us)[j]? = some v→(cas.toList.map σ.ev++caps)[j]? = some y→RV (Sx E ι σ.H) ι w v y:=fun j v y hv hy=>by
   rw[List.getElem?_append] at hv hy
   simp only[List.length_map] at hv hy
   split at hv
   · rename_i hj
     rw[if_pos hj] at hy
     rw[List.getElem?_map,Option.map_eq_some_iff] at hv hy
     obtain⟨x1,hx1,rfl⟩:=hv
     obtain⟨x2,hx2,rfl⟩:=hy
     rw[hx1] at hx2;cases hx2
     exact hc.ev x1 (List.all_eq_true.1 has x1 (List.mem_of_getElem? hx1))
   · rename_i hj
     rw[if_neg hj] at hy
     exact hus _ v y hv hy
  have hlen:(cas.toList.map a.eval++us).length=cargs.length:=by rw[←hargs,Q2w];simp[hul]
  have hcall:=hF {w:=w,S:=fun _=>True,ι:=ι,D:=[],hD:=fun r hr=>(by cases hr),hG:=hc.glob0} (cas.toList.map a.eval++us) rfl (fun r cs b hr=>(by cases hr)) ⟨fun r cs hr=>(by cases hr),fun r q cs ds hr=>(by cases hr)⟩ hlen (fun j v x hv hx=>by
   rw[←hargs,Q3u,Option.map_eq_some_iff] at hx
   obtain⟨y,hy,rfl⟩:=hx
   exact(hvs j v y hv hy).view hc.heap.blk)
  have hrun:(execOp a.eval o).run P w = .ok (.enter f (cas.toList.map a.eval++us).toArray) w:=by
   have h1:cas.map a.eval=(cas.toList.map a.eval).toArray:=by rw[←Array.toList_map]
   have hen:=Q4j hfn hname hbody ((cas.toList.map a.eval).toArray++us.toArray) w
   simp only[List.append_toArray] at hen
   simp only[execOp,ho,resolve,hfe,Deferred.ofValue,h1,Sem.run_bind,Sem.run_pure,Result.andThen_ok,invoke,Array.empty_append,List.append_toArray,List.nil_append,hen]
  unfold Oper.wp
  rw[hrun,Oper.upon_enter]
  refine hcall.mono fun e' w'=>?_
  rintro ⟨v,ι',rfl,hres,hH1,hk⟩
  simp only
  have hblk:∀b,b<w.heap.size→w'.heap[b]? = w.heap[b]?:=fun b hb=>hk.block b hb fun r hr=>by cases hr
  have hg:w.grownBy w' none:=⟨hk.os,hk.tape,hk.output,hk.size,fun b hb _=>hblk b hb⟩
  have hgr:hget [(r,pcs.map AV.c)] r=some (pcs.map .c):=by simp[hget]
  have hm:=(hk.mine r _ hgr).2 (fun h=>by cases h)
  have hcg:=hc.grow hfr hd2 hg none (fun b hb=>by cases hb) (ι' r) (cs:=pcs.map .c) (fun h=>.inr (by
   rcases hm h with h1|⟨q,hq,_⟩
   · exact h1
   · cases hq)) (Q0l d pcs) (by
   rcases hH1.blk r _ hgr with h0|⟨cur,hh,hs,hl,hcur,h1⟩
   · exact .inl h0
   · refine .inr ⟨cur,hh,hs,hl,fun j u x hu hx=>?_,h1⟩
     obtain⟨hrv,h2⟩:=hcur j u x hu hx
     rw[List.getElem?_map,Option.map_eq_some_iff] at hx
     obtain⟨p,hp,rfl⟩:=hx
     obtain⟨y,rfl⟩:=hpc p (List.mem_of_getElem? hp)
     cases hrv with
     |c _ _ h=>cases h with
      |v _ hone=>exact⟨.c _ _ (.v _ hone),h2⟩)
  have hcg:Conc E (upd ι d (ι' r)) ⟨σ.T,hput σ.H d (pcs.map .c)⟩ a w':=hcg
  refine hK' _ _ _ _ hK (hcg.put o.dst ?_)
  cases hres with
  |row _ _ _ _ c g1 g2 g3 g4 g0=>
   have eu:upd ι d (ι' r) d = ι' r:=Q1i
   have:=RV.row (S:=Sx E (upd ι d (ι' r)) (hput σ.H d (pcs.map .c))) (ι:=upd ι d (ι' r)) (w:=w') d e sz n c g1 g2 (by rw[eu];exact g3) (by rw[eu];exact g4) (by rw[eu];exact g0)
   rw[eu] at this
   exact this
  |rnil A _ _ _ g=>exact .rnil A d e sz (by rw[Q1i];exact g)
end
end
section
open Go.RowKit
open Nat (reduceBEq)
attribute [-go_sem] IntKind.bits
set_option maxRecDepth 100000
set_option maxHeartbeats 4000000
theorem X7k(snd:Int)(ph:List Ph)(cs:List PV)(R:Ph→Nat→Ev→Int)(hl:ph.length≤1000)(hp:∀p∈ph,p.tr.length≤1000)
 (hRu:∀p∈ph,∀(j:Nat) (e:Ev),p.tr[j]? = some e→Fn Tryz.prog 68 [.ep (.v (.int .u64 snd) :: .sl false 4 ph.length (ph.flatMap Ph.pv)::cs),phA p,vi .i64 j] [] (vi .i64 (R p j e)) []) :
 Fn Tryz.prog 60 [.fn 94 [.ptr 1001 0]] [(1001,[.ep (.v (.int .u64 snd) :: .sl false 4 ph.length (ph.flatMap Ph.pv)::cs)])] (.row 600 bkT 3 (brkG R ph 0).length) [(600,raB (brkG R ph 0))]:=by
 have h0:=X2h snd ph cs R hl hp hRu
 generalize (.v (.int .u64 snd) :: .sl false 4 ph.length (ph.flatMap Ph.pv)::cs)=ks at h0 ⊢
 generalize brkG R ph 0=res at h0 ⊢
 have h:=h0
 clear h0 hRu
 have r9:∀r,AV.refsL r (raB res)=false:=fun r=>Q0l r _
 (refine Q0v Tryz.func60 rfl (by rfl) ?_;simp only[Tryz.ntmps60,List.length_cons,List.length_nil,Nat.reduceAdd,Nat.reduceSub,List.replicate,List.cons_append,List.nil_append])
 (repeat(any_goals(first|((with_reducible refine Q0n ?_ ?_ ?_);rfl;rfl;intro K hK;(apply Q0s (h) (fun r=>r);rfl;rfl;rfl;rfl;exact Tryz.func93;kernel_rfl;rfl;rfl;(intro r hr q hq h;simp only[List.map_cons,List.map_nil,List.cons_append,List.nil_append,List.mem_cons,List.not_mem_nil,or_false] at hr hq;(try dsimp only at h);first|omega);(simp only[Q0w,Q1k,AV.ren,AV.renL,Q0m,List.mem_cons,List.not_mem_nil,forall_eq_or_imp,forall_eq,Q1g,List.contains_cons,List.contains_nil,AV.refsL,AV.refs,Q0l,AV.inN,AV.inNL,inH,Q0p,go_sem,r9]));(simp only[Q0r,Q1h,renH,AV.ren,AV.renL,Q0m,go_sem,r9];refine hK _ ?_;clear hK K))|((with_reducible refine Q0b ?_ ?_);rfl;intro K hK;simp only[go_sem,r9];((repeat(refine ndI (by first|assumption) ?_));refine hK _ ?_;clear hK K))|(with_reducible first|(refine Q0c ?_;refine hR _ ?_;clear hR R)|((first|refine Q0d ?_);intro J hJ hJ')|(refine Q0a ?_;intro R hR)|(refine hJ _ ?_;clear hJ hJ' J)|refine Q0k ?_))))
 all_goals(refine⟨by simp,⟨_,?_,AV.le_refl _⟩,Q0h (by simp[leH,hget])⟩;simp only[Tryz.results60,resL,ldA,Q0q,go_sem])
theorem Z1e(c:Cs)(hc:c.ok)(hr:Q2u c=true):Fn Tryz.prog 22 [csA c] [] (.row 600 bkT 3 (brkC c).length) [(600,raB (brkC c))]:=by
 have h:=Q6g c hc hr
 change Fn _ _ [.agg [vi .u64 c.snd,phs false c.ph,asl false c.cd]] _ _ _ at h
 have co:=X7k c.snd c.ph [.sl false 1 c.cd.length (c.cd.flatMap apv),.v (.bool (ofM c)),.v (.bool (ofF c))] (Q6t c) hc.2.1.1 (fun p hp=>(hc.2.1.2 p hp).2.1) fun p hp j e he=>X6q c hc (X0z hr) p (hc.2.1.2 p hp) j e he
 unfold brkC
 generalize brkG (Q6t c) c.ph 0=res at co ⊢
 have r9:∀r,AV.refsL r (raB res)=false:=fun r=>Q0l r _
 have br:=X1c (ktL c)
 change Fn _ _ _ _ (.ep (ktL c)) _ at h
 change Fn _ _ _ [(1001,[.ep (ktL c)])] _ _ at co
 generalize ktL c=ks at h co br
 clear hr hc
 (refine Q0v Tryz.func22 rfl (by rfl) ?_;simp only[Tryz.ntmps22,List.length_cons,List.length_nil,Nat.reduceAdd,Nat.reduceSub,List.replicate,List.cons_append,List.nil_append])
 (repeat(any_goals(first|((with_reducible refine Q2t ?_ ?_);rfl;intro K hK;(first|(apply Q4y;rfl;rfl;kernel_rfl;rfl));(simp only[go_sem,r9];refine hK _ ?_;clear hK K))|((with_reducible refine Q0n ?_ ?_ ?_);rfl;rfl;intro K hK;(first|((apply Q0j (h);rfl;rfl;rfl;rfl;exact Tryz.func43);kernel_rfl;rfl;(focus((simp only[go_sem,r9]);(try rfl);done));(first|rfl))|(apply Q0s (br) (fun r=>r+99);rfl;rfl;rfl;rfl;exact Tryz.func61;kernel_rfl;rfl;rfl;(intro r hr q hq h;simp only[List.map_cons,List.map_nil,List.cons_append,List.nil_append,List.mem_cons,List.not_mem_nil,or_false] at hr hq;(try dsimp only at h);first|omega);(simp only[Q0w,Q1k,AV.ren,AV.renL,Q0m,List.mem_cons,List.not_mem_nil,forall_eq_or_imp,forall_eq,Q1g,List.contains_cons,List.contains_nil,AV.refsL,AV.refs,Q0l,AV.inN,AV.inNL,inH,Q0p,go_sem,r9]))|(apply Q0s (co) (fun r=>if r=1001 then 100 else r);rfl;rfl;rfl;rfl;exact Tryz.func60;kernel_rfl;rfl;rfl;(intro r hr q hq h;simp only[List.map_cons,List.map_nil,List.cons_append,List.nil_append,List.mem_cons,List.not_mem_nil,or_false] at hr hq;(try dsimp only at h);first|(rcases hr with rfl|rfl|rfl<;>rcases hq with rfl|rfl|rfl<;>simp at h ⊢));(simp only[Q0w,Q1k,AV.ren,AV.renL,Q0m,List.mem_cons,List.not_mem_nil,forall_eq_or_imp,forall_eq,Q1g,List.contains_cons,List.contains_nil,AV.refsL,AV.refs,Q0l,AV.inN,AV.inNL,inH,Q0p,go_sem,r9])));(simp only[Q0r,Q1h,renH,AV.ren,AV.renL,Q0m,go_sem,r9];refine hK _ ?_;clear hK K))|((with_reducible refine Q0b ?_ ?_);rfl;intro K hK;simp only[go_sem,r9];((repeat(refine ndI (by first|assumption) ?_));refine hK _ ?_;clear hK K))|(with_reducible first|(refine Q0c ?_;refine hR _ ?_;clear hR R)|((first|refine Q0d ?_);intro J hJ hJ')|(refine Q0a ?_;intro R hR)|(refine hJ _ ?_;clear hJ hJ' J)|refine Q0i ?_|refine Q0k ?_)|((with_reducible apply Q0e);rfl;rfl;all_goals(intro hc;first|(cases hc;done)|(try simp only at hc))))))
 all_goals(refine⟨by simp,⟨_,?_,AV.le_refl _⟩,Q0h (by simp[leH,hget])⟩;simp only[Tryz.results22,resL,ldA,Q0q,go_sem])
theorem raP_len(l:List Ph):(raP l).length=l.length*4:=by rw[List.length_map,Q0o Q6k]
theorem raP_mid(A B:List Ph)(y:Ph):raP (A++y::B)=raP A++([vi .i64 y.role,vi .u64 y.who,vb y.stk,evs false y.tr]++raP B):=by simp[raP,Ph.pv]
theorem raB_v{l:List Bk}{x:PV}(h:x∈l.flatMap Bk.pv):∃v,x = .v v:=by
 obtain⟨b,_,hb⟩:=List.mem_flatMap.1 h
 simp only[Bk.pv,List.mem_cons,List.not_mem_nil,or_false] at hb
 rcases hb with rfl|rfl|rfl<;>exact⟨_,rfl⟩
theorem X9t{c:Cs}(hc:c.ok):(brkC c).length≤1000000:=by
 have h:=X4f (Q6t c) c.ph 0 fun p hp=>(hc.2.1.2 p hp).2.1
 have:=hc.2.1.1
 unfold brkC
 omega
end
section
open Go.RowKit
open Nat (reduceBEq)
attribute [-go_sem] IntKind.bits
set_option maxRecDepth 20000
set_option maxHeartbeats 2000000
theorem X2r(l:List Int):(raA l).length=l.length:=by rw[List.length_map,Q0o Q3r,Nat.mul_one]
theorem Q7m(l:List Int):raA l=l.map fun a=>vi .u64 a:=by
 induction l with
 |nil=>rfl
 |cons a l ih=>
  show _::raA l=_
  rw[ih]
  rfl
theorem raA_at{l:List Int}{i:Nat}{y:Int}(h:l[i]? = some y):(raA l)[i]? = some (vi .u64 y):=by
 rw[Q7m,List.getElem?_map,h];rfl
theorem raA_take(l:List Int)(k:Nat):(raA l).take k=raA (l.take k):=by rw[Q7m,Q7m,List.map_take]
theorem raA_app(l r:List Int):raA (l++r)=raA l++raA r:=by rw[Q7m,Q7m,Q7m,List.map_append]
theorem raA_set(l:List Int)(k:Nat)(x:Int)(h:k<l.length):(raA l).take k++([vi .u64 x]++(raA l).drop (k+1))=raA (l.set k x):=by
 rw[Q7m,Q7m,List.set_eq_take_append_cons_drop,if_pos h,List.map_append,List.map_take,List.map_cons,List.map_drop]
 rfl
theorem zerosA_ra(k:Nat):Q3t [.int .u64 0] k=raA (List.replicate k 0):=by
 rw[Q7m,List.map_replicate]
 unfold Q3t
 induction k with
 |zero=>rfl
 |succ k ih=>
  rw[List.replicate_succ,List.flatten_cons,ih,List.replicate_succ]
  rfl
theorem idxAc_fn (c:Nat) (ex:Bool) (l:List Int) (hlc:l.length≤c) (hcm:c≤maxLen) (p:Int→Bool) (zz:Int) {g:FuncId} {fn:Func} (hl:l.length≤1000000) (hgf:Tryz.prog.funcs[g]? = some fn) (hgn:(fn.name == "runtime.NumGoroutine")=false) (hgb:fn.body.isNone=false)
 (hp:∀x∈l,Fn Tryz.prog g [vi .u64 x,.ptr 1001 0] [(1001,[vi .u64 zz])] (vb (p x)) [(1001,[vi .u64 zz])]) :
 Fn Tryz.prog 62 [.cut 1000 23 1 0 l.length c ex,.fn g [.ptr 1001 0]] [(1000,raA l),(1001,[vi .u64 zz])] (vi .i64 (idxF p l 0)) [(1000,raA l),(1001,[vi .u64 zz])]:=by
 obtain⟨r,hr⟩:∃r,idxF p l 0=r:=⟨_,rfl⟩
 rw[hr]
 (refine Q0v Tryz.func62 rfl (by rfl) ?_;simp only[Tryz.ntmps62,List.length_cons,List.length_nil,Nat.reduceAdd,Nat.reduceSub,List.replicate,List.cons_append,List.nil_append])
 (repeat(any_goals(first|((with_reducible refine Q0b ?_ ?_);rfl;intro K hK;simp only[go_sem];((repeat(refine ndI (by first|assumption) ?_));refine hK _ ?_;clear hK K))|(with_reducible first|(refine Q0c ?_;refine hR _ ?_;clear hR R)|((first|refine Q0d ?_|refine Q0g ?_);intro J hJ hJ')|(refine Q0a ?_;intro R hR)|(refine hJ _ ?_;clear hJ hJ' J)))))
 refine Q1t (α:={i:Nat // i≤l.length∧idxF p (l.drop i) i=r}) (fun q=>⟨[.cut 1000 23 1 0 l.length c ex,.fn g [.ptr 1001 0],.any,.any,.any,.any,.any,vi .i64 l.length,vi .i64 (q.1:Int),.any,.any,.any,.any,.any,.any,.any,.any,.any,.any],[(1000,raA l),(1001,[vi .u64 zz])]⟩) (fun q=>l.length-q.1) ⟨0,Nat.zero_le _,hr⟩ (St.le_of (by simp[leT]) (by simp[leH,hget])) ?_
 rintro ⟨i,hi,hd⟩ J hJ hJ'
 (try dsimp only at hJ ⊢)
 rcases Nat.lt_or_ge i l.length with hlt|hge
 · obtain⟨y,hy⟩:∃y,l[i]? = some y:=⟨_,List.getElem?_eq_getElem hlt⟩
   have k1:(decide ((i:Int)<(l.length:Int)))=true:=by simp;omega
   have k2:=raA_at hy
   have k3:=X2r l
   have k7:(i:Int)+1=((i+1:Nat):Int):=by omega
   have hdr:l.drop i=y::l.drop (i+1):=by
    rw[List.drop_eq_getElem_cons hlt]
    rw[List.getElem?_eq_getElem hlt] at hy
    rw[Option.some.inj hy]
   have hp1:=hp y (List.mem_of_getElem? hy)
   rw[hdr] at hd
   unfold idxF at hd
   have r9:∀r,AV.refsL r (raA l)=false:=fun r=>Q0l r _
   cases hxy:p y
   · rw[hxy] at hp1 hd
     rw[if_neg (by simp)] at hd
     have hJ1:=fun σ'=>hJ σ' ⟨i+1,hlt,hd⟩ (by dsimp only;omega)
     dsimp only at hJ1
     (have W:=ndI k1 (ndI k2 (ndI k3 (ndI k7 (ndI r9 @wrI))));(repeat(any_goals(first|((with_reducible refine Q0n ?_ ?_ ?_);rfl;rfl;intro K hK;(apply Q0s (hp1) (fun r=>r);rfl;rfl;rfl;rfl;exact hgf;exact hgn;exact hgb;rfl;(intro r hr q hq h;simp(disch:=omega) only[List.map_cons,List.map_nil,List.cons_append,List.nil_append,List.mem_cons,List.not_mem_nil,or_false] at hr hq;(try dsimp only at h);first|omega);(simp(disch:=omega) only[Q0w,Q1k,AV.ren,AV.renL,Q0m,List.mem_cons,List.not_mem_nil,forall_eq_or_imp,forall_eq,Q1g,List.contains_cons,List.contains_nil,AV.refsL,AV.refs,Q0l,AV.inN,AV.inNL,inH,Q0p,go_sem,W,Nat.mul_one]));(simp(disch:=omega) only[Q0r,Q1h,renH,AV.ren,AV.renL,Q0m,go_sem,W,Nat.mul_one];refine hK _ ?_;clear hK K))|((with_reducible refine Q0b ?_ ?_);rfl;intro K hK;simp(disch:=omega) only[go_sem,W,Nat.mul_one];((repeat(refine ndI (by first|assumption|rfl) ?_));refine hK _ ?_;clear hK K))|((with_reducible refine Q0b ?_ ?_);rfl;intro K hK;(try simp(disch:=omega) only[go_sem,W,Nat.mul_one]);(repeat(refine ndI (by first|assumption|rfl) ?_));refine Q1n rfl rfl rfl rfl rfl ?_ ?_ ?_;(focus(simp only[go_sem];try rfl));(first|omega);(simp(disch:=omega) only[go_sem,W,Nat.mul_one];refine hK _ ?_;clear hK K))|(with_reducible first|(refine Q0c ?_;refine hR _ ?_;clear hR R)|((first|refine Q0d ?_|refine Q0g ?_);intro J hJ hJ')|(refine Q0a ?_;intro R hR)|(refine hJ _ ?_;clear hJ hJ' J)|refine Q0i ?_)|((with_reducible refine hJ' _ _ ?_ ?_);(focus(simp;done));clear hJ hJ' J)|((with_reducible apply Q0e);rfl;rfl;all_goals(intro hc;first|(cases hc;done)|(try simp only at hc)))))))
     all_goals exact hJ1 _ (St.le_of (by simp[leT]) (by simp[leH,hget]))
   · rw[hxy] at hp1 hd
     rw[if_pos rfl] at hd
     (have W:=ndI k1 (ndI k2 (ndI k3 (ndI k7 (ndI r9 @wrI))));(repeat(any_goals(first|((with_reducible refine Q0n ?_ ?_ ?_);rfl;rfl;intro K hK;(apply Q0s (hp1) (fun r=>r);rfl;rfl;rfl;rfl;exact hgf;exact hgn;exact hgb;rfl;(intro r hr q hq h;simp(disch:=omega) only[List.map_cons,List.map_nil,List.cons_append,List.nil_append,List.mem_cons,List.not_mem_nil,or_false] at hr hq;(try dsimp only at h);first|omega);(simp(disch:=omega) only[Q0w,Q1k,AV.ren,AV.renL,Q0m,List.mem_cons,List.not_mem_nil,forall_eq_or_imp,forall_eq,Q1g,List.contains_cons,List.contains_nil,AV.refsL,AV.refs,Q0l,AV.inN,AV.inNL,inH,Q0p,go_sem,W,Nat.mul_one]));(simp(disch:=omega) only[Q0r,Q1h,renH,AV.ren,AV.renL,Q0m,go_sem,W,Nat.mul_one];refine hK _ ?_;clear hK K))|((with_reducible refine Q0b ?_ ?_);rfl;intro K hK;simp(disch:=omega) only[go_sem,W,Nat.mul_one];((repeat(refine ndI (by first|assumption|rfl) ?_));refine hK _ ?_;clear hK K))|((with_reducible refine Q0b ?_ ?_);rfl;intro K hK;(try simp(disch:=omega) only[go_sem,W,Nat.mul_one]);(repeat(refine ndI (by first|assumption|rfl) ?_));refine Q1n rfl rfl rfl rfl rfl ?_ ?_ ?_;(focus(simp only[go_sem];try rfl));(first|omega);(simp(disch:=omega) only[go_sem,W,Nat.mul_one];refine hK _ ?_;clear hK K))|(with_reducible first|(refine Q0c ?_;refine hR _ ?_;clear hR R)|((first|refine Q0d ?_|refine Q0g ?_);intro J hJ hJ')|(refine Q0a ?_;intro R hR)|(refine hJ _ ?_;clear hJ hJ' J)|refine Q0i ?_|refine Q0k ?_)|((with_reducible refine hJ' _ _ ?_ ?_);(focus(simp;done));clear hJ hJ' J)|((with_reducible apply Q0e);rfl;rfl;all_goals(intro hc;first|(cases hc;done)|(try simp only at hc)))))))
     all_goals rw[←hd]
     all_goals(refine⟨by simp,⟨_,?_,AV.le_refl _⟩,Q0h (by simp[leH,hget])⟩;simp only[Tryz.results62,resL,ldA,Q0q,go_sem])
 · have k1:(decide ((i:Int)<(l.length:Int)))=false:=by simp;omega
   rw[List.drop_eq_nil_of_le hge] at hd
   have hd:r = -1:=hd.symm
   (repeat(any_goals(first|((with_reducible refine Q0b ?_ ?_);rfl;intro K hK;simp only[go_sem,k1];((repeat(refine ndI (by first|assumption) ?_));refine hK _ ?_;clear hK K))|(with_reducible first|(refine Q0c ?_;refine hR _ ?_;clear hR R)|((first|refine Q0d ?_);intro J hJ hJ')|(refine Q0a ?_;intro R hR)|(refine hJ _ ?_;clear hJ hJ' J)|refine Q0k ?_|refine Q0t ?_)|((with_reducible refine hJ' _ _ ?_ ?_);(focus(simp;done));clear hJ hJ' J)|((with_reducible apply Q0e);rfl;rfl;all_goals(intro hc;first|(cases hc;done)|(try simp only at hc))))))
   all_goals rw[hd]
   all_goals(refine⟨by simp,⟨_,?_,AV.le_refl _⟩,Q0h (by simp[leH,hget])⟩;simp only[Tryz.results62,resL,ldA,Q0q,go_sem])
theorem delAc_fnE (c:Nat) (ex:Bool) (l:List Int) (hlc:l.length≤c) (hcm:c≤maxLen) (p:Int→Bool) (zz:Int) {g:FuncId} {fn:Func} (hl:l.length≤1000000) (hgf:Tryz.prog.funcs[g]? = some fn) (hgn:(fn.name == "runtime.NumGoroutine")=false) (hgb:fn.body.isNone=false)
 (hp:∀x∈l,Fn Tryz.prog g [vi .u64 x,.ptr 1001 0] [(1001,[vi .u64 zz])] (vb (p x)) [(1001,[vi .u64 zz])]) :
 Fn Tryz.prog 23 [.cut 1000 23 1 0 l.length c ex,.fn g [.ptr 1001 0]] [(1000,raA l),(1001,[vi .u64 zz])] (.cut 1000 23 1 0 (Q1s p l).length c ex) [(1000,raA (Q1s p l++List.replicate (l.length-(Q1s p l).length) 0)),(1001,[vi .u64 zz])]:=by
 have ix:=idxAc_fn c ex l hlc hcm p zz hl hgf hgn hgb hp
 have e1:=X2r l
 rcases X0j p l 0 with⟨hi,hno⟩|⟨n,hn,hi,hno,z,hz,hpz⟩
 · rw[hi] at ix
   rw[Q7s hno,Nat.sub_self,List.replicate_zero,List.append_nil]
   have k1:((-1:Int) == -1)=true:=rfl
   (refine Q0v Tryz.func23 rfl (by rfl) ?_;simp only[Tryz.ntmps23,List.length_cons,List.length_nil,Nat.reduceAdd,Nat.reduceSub,List.replicate,List.cons_append,List.nil_append])
   (repeat(any_goals(first|((with_reducible refine Q0n ?_ ?_ ?_);rfl;rfl;intro K hK;(apply Q0s (ix) (fun r=>r);rfl;rfl;rfl;rfl;exact Tryz.func62;kernel_rfl;rfl;rfl;(intro r hr q hq h;simp(disch:=omega) only[List.map_cons,List.map_nil,List.cons_append,List.nil_append,List.mem_cons,List.not_mem_nil,or_false] at hr hq;(try dsimp only at h);first|omega);(simp(disch:=omega) only[Q0w,Q1k,AV.ren,AV.renL,Q0m,List.mem_cons,List.not_mem_nil,forall_eq_or_imp,forall_eq,Q1g,List.contains_cons,List.contains_nil,AV.refsL,AV.refs,Q0l,AV.inN,AV.inNL,inH,Q0p,go_sem,k1]));(simp(disch:=omega) only[Q0r,Q1h,renH,AV.ren,AV.renL,Q0m,go_sem,k1];refine hK _ ?_;clear hK K))|((with_reducible refine Q0b ?_ ?_);rfl;intro K hK;simp(disch:=omega) only[go_sem,k1];((repeat(refine ndI (by first|assumption) ?_));refine hK _ ?_;clear hK K))|(with_reducible first|(refine Q0c ?_;refine hR _ ?_;clear hR R)|((first|refine Q0d ?_);intro J hJ hJ')|(refine Q0a ?_;intro R hR)|(refine hJ _ ?_;clear hJ hJ' J)|refine Q0k ?_)|((with_reducible refine hJ' _ _ ?_ ?_);(focus(simp;done));clear hJ hJ' J)|((with_reducible apply Q0e);rfl;rfl;all_goals(intro hc;first|(cases hc;done)|(try simp only at hc))))))
   all_goals(refine⟨by simp,⟨_,?_,AV.le_refl _⟩,Q0h (by simp[leH,hget])⟩;simp only[Tryz.results23,resL,ldA,Q0q,go_sem])
 · rw[Nat.zero_add] at hi
   rw[hi] at ix
   have k1:((n:Int) == -1)=false:=by simp
   have k6:(n:Int)+1=((n+1:Nat):Int):=by omega
   obtain⟨r,hr⟩:∃r,Q1s p l=r:=⟨_,rfl⟩
   have hrl:r.length≤l.length:=by rw[←hr];exact Q5t p l
   rw[hr]
   have hk0:Q1s p (l.take (n+1))=l.take n:=by
    rw[Q5y p hz,if_pos hpz];exact Q7s hno
   (refine Q0v Tryz.func23 rfl (by rfl) ?_;simp only[Tryz.ntmps23,List.length_cons,List.length_nil,Nat.reduceAdd,Nat.reduceSub,List.replicate,List.cons_append,List.nil_append])
   (have W:=ndI k1 (ndI k6 @wrI);(repeat(any_goals(first|((with_reducible refine Q0n ?_ ?_ ?_);rfl;rfl;intro K hK;(apply Q0s (ix) (fun r=>r);rfl;rfl;rfl;rfl;exact Tryz.func62;kernel_rfl;rfl;rfl;(intro r hr q hq h;simp(disch:=omega) only[List.map_cons,List.map_nil,List.cons_append,List.nil_append,List.mem_cons,List.not_mem_nil,or_false] at hr hq;(try dsimp only at h);first|omega);(simp(disch:=omega) only[Q0w,Q1k,AV.ren,AV.renL,Q0m,List.mem_cons,List.not_mem_nil,forall_eq_or_imp,forall_eq,Q1g,List.contains_cons,List.contains_nil,AV.refsL,AV.refs,Q0l,AV.inN,AV.inNL,inH,Q0p,go_sem,W,Nat.mul_one]));(simp(disch:=omega) only[Q0r,Q1h,renH,AV.ren,AV.renL,Q0m,go_sem,W,Nat.mul_one];refine hK _ ?_;clear hK K))|((with_reducible refine Q0b ?_ ?_);rfl;intro K hK;simp(disch:=omega) only[go_sem,W,Nat.mul_one];((repeat(refine ndI (by first|assumption|rfl) ?_));refine hK _ ?_;clear hK K))|(with_reducible first|(refine Q0c ?_;refine hR _ ?_;clear hR R)|((first|refine Q0d ?_|refine Q0g ?_);intro J hJ hJ')|(refine Q0a ?_;intro R hR)|(refine hJ _ ?_;clear hJ hJ' J)|refine Q0i ?_)|((with_reducible apply Q0e);rfl;rfl;all_goals(intro hc;first|(cases hc;done)|(try simp only at hc)))))))
   refine Q1t (α:={q:Nat×List Int // q.1≤l.length∧(Q1s p (l.take q.1)).length<q.1∧q.2.length=l.length∧q.2.take (Q1s p (l.take q.1)).length=Q1s p (l.take q.1)∧q.2.drop q.1=l.drop q.1}) (fun q=>⟨[.cut 1000 23 1 0 l.length c ex,.fn g [.ptr 1001 0],.any,.any,.any,vi .i64 ((Q1s p (l.take q.1.1)).length:Int),vi .i64 (q.1.1:Int),.any,.any,.any,.any,.any,.any,.any,.any,.any,.any,.any,.any,.any,.any,.any,.any,.any,.any,.any,.any,.any,.any,.any,.any,.any,.any,.any,.any,.any,.any,.any,.any,.any,.any,.any],[(1000,raA q.1.2),(1001,[vi .u64 zz])]⟩) (fun q=>l.length-q.1.1) ⟨(n+1,l),by dsimp only;omega,by dsimp only;rw[hk0,List.length_take];omega,rfl,by dsimp only;rw[hk0,List.length_take,Nat.min_eq_left (by omega)],rfl⟩ (St.le_of (by simp[leT,hk0];try omega) (by simp[leH,hget])) ?_
   rintro ⟨⟨j,m⟩,c1,c2,c3,c4,c5⟩ J hJ hJ'
   dsimp only at c1 c2 c3 c4 c5
   (try dsimp only at hJ ⊢)
   have hml:(raA m).length=l.length:=by rw[X2r,c3]
   have r9:∀r,AV.refsL r (raA m)=false:=fun r=>Q0l r _
   rcases Nat.lt_or_ge j l.length with hlt|hge
   · obtain⟨y,hy⟩:∃y,l[j]? = some y:=⟨_,List.getElem?_eq_getElem hlt⟩
     have n1:(decide ((j:Int)<(l.length:Int)))=true:=by simp;omega
     have hy':m[j]? = some y:=by
      rw[←hy,←Nat.add_zero j,←List.getElem?_drop,←List.getElem?_drop,c5]
     have n2:=raA_at hy'
     have n7:(j:Int)+1=((j+1:Nat):Int):=by omega
     have hp1:=hp y (List.mem_of_getElem? hy)
     have ks:=Q5y p hy
     obtain⟨d,hd⟩:∃d,(Q1s p (l.take j)).length=d:=⟨_,rfl⟩
     rw[hd] at c2 c4
     rw[hd]
     cases hxy:p y
     · rw[hxy] at hp1 ks
       rw[if_neg (by simp)] at ks
       have hset:(raA m).take d++[vi .u64 y]++(raA m).drop (d+1)=raA (m.set d y):=by
        rw[List.append_assoc]
        exact raA_set m d y (by omega)
       have n6:(d:Int)+1=((d+1:Nat):Int):=by omega
       have hl':(Q1s p (l.take (j+1))).length=d+1:=by rw[ks,List.length_append,hd];rfl
       have hJ1:=fun σ'=>hJ σ' ⟨(j+1,m.set d y),by dsimp only;omega,by dsimp only;omega,by dsimp only;rw[List.length_set];exact c3,by
        dsimp only
        rw[hl',ks,List.set_eq_take_append_cons_drop,if_pos (by omega),c4,List.take_append,hd]
        rw[List.take_of_length_le (by omega),show d+1-d=1 by omega]
        rfl,by
        dsimp only
        rw[List.drop_set,if_pos (by omega),←List.drop_drop,c5,List.drop_drop]⟩ (by dsimp only;omega)
       dsimp only at hJ1
       rw[hl'] at hJ1
       (have W:=ndI n1 (ndI n2 (ndI n6 (ndI n7 (ndI r9 @wrI))));(repeat(any_goals(first|((with_reducible refine Q0n ?_ ?_ ?_);rfl;rfl;intro K hK;(apply Q0s (hp1) (fun r=>r);rfl;rfl;rfl;rfl;exact hgf;exact hgn;exact hgb;rfl;(intro r hr q hq h;simp(disch:=omega) only[List.map_cons,List.map_nil,List.cons_append,List.nil_append,List.mem_cons,List.not_mem_nil,or_false] at hr hq;(try dsimp only at h);first|omega);(simp(disch:=omega) only[Q0w,Q1k,AV.ren,AV.renL,Q0m,List.mem_cons,List.not_mem_nil,forall_eq_or_imp,forall_eq,Q1g,List.contains_cons,List.contains_nil,AV.refsL,AV.refs,Q0l,AV.inN,AV.inNL,inH,Q0p,go_sem,W,hset,hml,Nat.mul_one]));(simp(disch:=omega) only[Q0r,Q1h,renH,AV.ren,AV.renL,Q0m,go_sem,W,hset,hml,Nat.mul_one];refine hK _ ?_;clear hK K))|((with_reducible refine Q0b ?_ ?_);rfl;intro K hK;simp(disch:=omega) only[go_sem,W,hset,hml,Nat.mul_one];((repeat(refine ndI (by first|assumption|omega|rfl) ?_));refine hK _ ?_;clear hK K))|((with_reducible refine Q0b ?_ ?_);rfl;intro K hK;(try simp(disch:=omega) only[go_sem,W,hset,hml,Nat.mul_one]);(repeat(refine ndI (by first|assumption|rfl) ?_));refine Q1n rfl rfl rfl rfl rfl ?_ ?_ ?_;(focus(simp only[go_sem];try rfl));(first|omega);(simp(disch:=omega) only[go_sem,W,hset,hml,Nat.mul_one];refine hK _ ?_;clear hK K))|(with_reducible first|(refine Q0c ?_;refine hR _ ?_;clear hR R)|((first|refine Q0d ?_|refine Q0g ?_);intro J hJ hJ')|(refine Q0a ?_;intro R hR)|(refine hJ _ ?_;clear hJ hJ' J)|refine Q0i ?_)|((with_reducible refine hJ' _ _ ?_ ?_);(focus(simp;done));clear hJ hJ' J)|((with_reducible apply Q0e);rfl;rfl;all_goals(intro hc;first|(cases hc;done)|(try simp only at hc)))))))
       all_goals exact hJ1 _ (St.le_of (by simp[leT]) (by simp[leH,hget]))
     · rw[hxy] at hp1 ks
       rw[if_pos rfl] at ks
       have hl':(Q1s p (l.take (j+1))).length=d:=by rw[ks,hd]
       have hJ1:=fun σ'=>hJ σ' ⟨(j+1,m),by dsimp only;omega,by dsimp only;omega,c3,by
        dsimp only
        rw[hl',ks];exact c4,by
        dsimp only
        rw[←List.drop_drop,c5,List.drop_drop]⟩ (by dsimp only;omega)
       dsimp only at hJ1
       rw[hl'] at hJ1
       (have W:=ndI n1 (ndI n2 (ndI n7 (ndI r9 @wrI)));(repeat(any_goals(first|((with_reducible refine Q0n ?_ ?_ ?_);rfl;rfl;intro K hK;(apply Q0s (hp1) (fun r=>r);rfl;rfl;rfl;rfl;exact hgf;exact hgn;exact hgb;rfl;(intro r hr q hq h;simp(disch:=omega) only[List.map_cons,List.map_nil,List.cons_append,List.nil_append,List.mem_cons,List.not_mem_nil,or_false] at hr hq;(try dsimp only at h);first|omega);(simp(disch:=omega) only[Q0w,Q1k,AV.ren,AV.renL,Q0m,List.mem_cons,List.not_mem_nil,forall_eq_or_imp,forall_eq,Q1g,List.contains_cons,List.contains_nil,AV.refsL,AV.refs,Q0l,AV.inN,AV.inNL,inH,Q0p,go_sem,W,hml,Nat.mul_one]));(simp(disch:=omega) only[Q0r,Q1h,renH,AV.ren,AV.renL,Q0m,go_sem,W,hml,Nat.mul_one];refine hK _ ?_;clear hK K))|((with_reducible refine Q0b ?_ ?_);rfl;intro K hK;simp(disch:=omega) only[go_sem,W,hml,Nat.mul_one];((repeat(refine ndI (by first|assumption|rfl) ?_));refine hK _ ?_;clear hK K))|((with_reducible refine Q0b ?_ ?_);rfl;intro K hK;(try simp(disch:=omega) only[go_sem,W,hml,Nat.mul_one]);(repeat(refine ndI (by first|assumption|rfl) ?_));refine Q1n rfl rfl rfl rfl rfl ?_ ?_ ?_;(focus(simp only[go_sem];try rfl));(first|omega);(simp(disch:=omega) only[go_sem,W,hml,Nat.mul_one];refine hK _ ?_;clear hK K))|(with_reducible first|(refine Q0c ?_;refine hR _ ?_;clear hR R)|((first|refine Q0d ?_|refine Q0g ?_);intro J hJ hJ')|(refine Q0a ?_;intro R hR)|(refine hJ _ ?_;clear hJ hJ' J)|refine Q0i ?_)|((with_reducible refine hJ' _ _ ?_ ?_);(focus(simp;done));clear hJ hJ' J)|((with_reducible apply Q0e);rfl;rfl;all_goals(intro hc;first|(cases hc;done)|(try simp only at hc)))))))
       all_goals exact hJ1 _ (St.le_of (by simp[leT]) (by simp[leH,hget]))
   · have n1:(decide ((j:Int)<(l.length:Int)))=false:=by simp;omega
     have ej:l.take j=l:=List.take_of_length_le hge
     rw[ej,hr] at c2 c4
     rw[ej,hr]
     obtain⟨d,hd⟩:∃d,r.length=d:=⟨_,rfl⟩
     rw[hd] at hrl c2 c4
     rw[hd]
     have hfin:raA (r++List.replicate (l.length-d) 0)=spl (raA m) d (Q3t [.int .u64 0] (l.length-d)):=by
      unfold spl
      rw[zerosA_ra,X2r,List.length_replicate,raA_app,raA_take,c4,List.drop_of_length_le (by rw[hml];omega)]
      show _=_++[]
      rw[List.append_nil]
     (have W:=ndI n1 (ndI r9 @wrI);(repeat(any_goals(first|((with_reducible refine Q0b ?_ ?_);rfl;intro K hK;simp(disch:=omega) only[go_sem,W,hml,Nat.mul_one];((repeat(refine ndI (by first|assumption|rfl) ?_));refine hK _ ?_;clear hK K))|((with_reducible refine Q0b ?_ ?_);rfl;intro K hK;(try simp(disch:=omega) only[go_sem,W,hml,Nat.mul_one]);(repeat(refine ndI (by first|assumption|rfl) ?_));refine Q3k rfl rfl rfl rfl rfl ?_ rfl rfl rfl rfl ?_ ?_ ?_;(focus(simp only[go_sem];try rfl));(intro h;first|rfl|cases h);(first|omega);(simp(disch:=omega) only[go_sem,W,hml,Nat.mul_one];refine hK _ ?_;clear hK K))|((with_reducible refine Q0b ?_ ?_);rfl;intro K hK;(try simp(disch:=omega) only[go_sem,W,hml,Nat.mul_one]);(repeat(refine ndI (by first|assumption) ?_));apply Q5r;rfl;rfl;(focus(simp only[go_sem];try rfl));(first|omega);(simp(disch:=omega) only[go_sem,Option.bind_some];rfl);rfl;rfl;rfl;rfl;(first|omega);(simp(disch:=omega) only[go_sem,W,hml,Nat.mul_one];refine hK _ ?_;clear hK K))|(with_reducible first|(refine Q0c ?_;refine hR _ ?_;clear hR R)|((first|refine Q0d ?_);intro J hJ hJ')|(refine Q0a ?_;intro R hR)|(refine hJ _ ?_;clear hJ hJ' J)|refine Q0k ?_|refine Q0t ?_)|((with_reducible refine hJ' _ _ ?_ ?_);(focus(simp;done));clear hJ hJ' J)|((with_reducible apply Q0e);rfl;rfl;all_goals(intro hc;first|(cases hc;done)|(try simp only at hc)))))))
     all_goals rw[hd,hfin]
     all_goals refine⟨by simp,⟨_,rfl,AV.le_refl _⟩,Q0h ⟨?_,?_,trivial⟩⟩
     all_goals simp[Q1y,spl,List.append_assoc]
theorem delAc_fn (c:Nat) (ex:Bool) (l:List Int) (hlc:l.length≤c) (hcm:c≤maxLen) (p:Int→Bool) (zz:Int) {g:FuncId} {fn:Func} (hl:l.length≤1000000) (hgf:Tryz.prog.funcs[g]? = some fn) (hgn:(fn.name == "runtime.NumGoroutine")=false) (hgb:fn.body.isNone=false)
 (hp:∀x∈l,Fn Tryz.prog g [vi .u64 x,.ptr 1001 0] [(1001,[vi .u64 zz])] (vb (p x)) [(1001,[vi .u64 zz])]) :
 Fn Tryz.prog 23 [.cut 1000 23 1 0 l.length c ex,.fn g [.ptr 1001 0]] [(1000,raA l),(1001,[vi .u64 zz])] (.cut 1000 23 1 0 (Q1s p l).length c ex) [(1000,raA (Q1s p l))]:=
 (delAc_fnE c ex l hlc hcm p zz hl hgf hgn hgb hp).weaken (AV.le_refl _) (leHp (ds:=raA (List.replicate (l.length-(Q1s p l).length) 0)) (by rw[raA_app];simp[hget]))
end
section
open Go.RowKit
open Nat (reduceBEq)
attribute [-go_sem] IntKind.bits
set_option maxRecDepth 20000
set_option maxHeartbeats 2000000
theorem less1_fn(b a:Int):Fn Tryz.prog 24 [vi .u64 b,.ptr 1001 0] [(1001,[vi .u64 a])] (vb (b==a)) [(1001,[vi .u64 a])]:=by
 (refine Q0v Tryz.func24 rfl (by rfl) ?_;simp only[Tryz.ntmps24,List.length_cons,List.length_nil,Nat.reduceAdd,Nat.reduceSub,List.replicate,List.cons_append,List.nil_append])
 (repeat(any_goals(first|((with_reducible refine Q0b ?_ ?_);rfl;intro K hK;simp only[go_sem];((repeat(refine ndI (by first|assumption) ?_));refine hK _ ?_;clear hK K))|(with_reducible first|(refine Q0c ?_;refine hR _ ?_;clear hR R)|((first|refine Q0d ?_);intro J hJ hJ')|(refine Q0a ?_;intro R hR)|(refine hJ _ ?_;clear hJ hJ' J)|refine Q0k ?_))))
 all_goals(refine⟨by simp,⟨_,?_,AV.le_refl _⟩,Q0h (by simp[leH,hget])⟩;simp only[Tryz.results24,resL,ldA,Q0q,go_sem])
theorem delA_row(l:List Int)(a:Int)(hl:l.length≤1000000):Fn Tryz.prog 23 [.row 1000 23 1 l.length,.fn 24 [.ptr 1001 0]] [(1000,raA l),(1001,[vi .u64 a])] (.row 1000 23 1 (Q1s (fun b=>b==a) l).length) [(1000,raA (Q1s (fun b=>b==a) l))]:=
 Fn.cut0 fun c h1 h2=>(delAc_fn c true l h1 h2 (fun b=>b==a) a hl Tryz.func24 (by kernel_rfl) rfl fun x _=>less1_fn x a).weaken (AV.le_cut _ _ _ _ _) fun r cs hr=>⟨[],by rw[List.append_nil];exact hr⟩
def atB(b y:Bk):Bool:=(y.i==b.i)&&(y.j==b.j)
abbrev bkC(b:Bk):List AV:=[vi .i64 b.i,vi .i64 b.j,vi .i64 b.r]
theorem less2_fn(y b:Bk):Fn Tryz.prog 26 [bkA y,.ptr 1001 0] [(1001,bkC b)] (vb (atB b y)) [(1001,bkC b)]:=by
 unfold atB
 obtain⟨b1,h1⟩:∃x,(y.i==b.i)=x:=⟨_,rfl⟩
 obtain⟨b2,h2⟩:∃x,(y.j==b.j)=x:=⟨_,rfl⟩
 rw[h1,h2]
 (refine Q0v Tryz.func26 rfl (by rfl) ?_;simp only[Tryz.ntmps26,List.length_cons,List.length_nil,Nat.reduceAdd,Nat.reduceSub,List.replicate,List.cons_append,List.nil_append])
 (repeat(any_goals(first|((with_reducible refine Q0b ?_ ?_);rfl;intro K hK;simp only[go_sem,h1,h2];((repeat(refine ndI (by first|assumption) ?_));refine hK _ ?_;clear hK K))|(with_reducible first|(refine Q0c ?_;refine hR _ ?_;clear hR R)|((first|refine Q0d ?_);intro J hJ hJ')|(refine Q0a ?_;intro R hR)|(refine hJ _ ?_;clear hJ hJ' J)|refine Q0k ?_)|((with_reducible apply Q1a);rfl;rfl;rfl;all_goals(intro hb;first|(cases hb;done)|((try simp only[Bool.not_true,Bool.not_false] at hb);(first|((with_reducible intro K hK);simp only[go_sem,h1,h2];((repeat(refine ndI (by first|assumption) ?_));refine hK _ ?_;clear hK K))|((fail_if_success (with_reducible intro _));simp only[go_sem,h1,h2]))))))))
 all_goals(subst_vars;(refine⟨by simp,⟨_,?_,AV.le_refl _⟩,Q0h (by simp[leH,hget])⟩;simp only[Tryz.results26,resL,ldA,Q0q,go_sem]))
 all_goals simp_all
theorem idxBl_fn(ex:Bool)(l:List Bk)(b:Bk)(hl:l.length≤1000000) :
 Fn Tryz.prog 63 [bks ex l,.fn 26 [.ptr 1001 0]] [(1001,bkC b)] (vi .i64 (idxF (atB b) l 0)) [(1001,bkC b)]:=by
 obtain⟨r,hr⟩:∃r,idxF (atB b) l 0=r:=⟨_,rfl⟩
 rw[hr]
 (refine Q0v Tryz.func63 rfl (by rfl) ?_;simp only[Tryz.ntmps63,List.length_cons,List.length_nil,Nat.reduceAdd,Nat.reduceSub,List.replicate,List.cons_append,List.nil_append])
 (repeat(any_goals(first|((with_reducible refine Q0b ?_ ?_);rfl;intro K hK;simp only[go_sem];((repeat(refine ndI (by first|assumption) ?_));refine hK _ ?_;clear hK K))|(with_reducible first|(refine Q0c ?_;refine hR _ ?_;clear hR R)|((first|refine Q0d ?_|refine Q0g ?_);intro J hJ hJ')|(refine Q0a ?_;intro R hR)|(refine hJ _ ?_;clear hJ hJ' J)))))
 refine Q1t (α:={i:Nat // i≤l.length∧idxF (atB b) (l.drop i) i=r}) (fun q=>⟨[bks ex l,.fn 26 [.ptr 1001 0],.any,.any,.any,.any,.any,vi .i64 l.length,vi .i64 (q.1:Int),.any,.any,.any,.any,.any,.any,.any,.any,.any,.any],[(1001,bkC b)]⟩) (fun q=>l.length-q.1) ⟨0,Nat.zero_le _,hr⟩ (St.le_of (by simp[leT]) (by simp[leH,hget])) ?_
 rintro ⟨i,hi,hd⟩ J hJ hJ'
 (try dsimp only at hJ ⊢)
 rcases Nat.lt_or_ge i l.length with hlt|hge
 · obtain⟨y,hy⟩:∃y,l[i]? = some y:=⟨_,List.getElem?_eq_getElem hlt⟩
   have k1:(decide ((i:Int)<(l.length:Int)))=true:=by simp;omega
   have k2:=bk_at hy
   have k7:(i:Int)+1=((i+1:Nat):Int):=by omega
   have hdr:l.drop i=y::l.drop (i+1):=by
    rw[List.drop_eq_getElem_cons hlt]
    rw[List.getElem?_eq_getElem hlt] at hy
    rw[Option.some.inj hy]
   have hp1:=less2_fn y b
   rw[hdr] at hd
   unfold idxF at hd
   cases hxy:atB b y
   · rw[hxy] at hp1 hd
     rw[if_neg (by simp)] at hd
     have hJ1:=fun σ'=>hJ σ' ⟨i+1,hlt,hd⟩ (by dsimp only;omega)
     dsimp only at hJ1
     (have W:=ndI k1 (ndI k2 (ndI k7 @wrI));(repeat(any_goals(first|((with_reducible refine Q0n ?_ ?_ ?_);rfl;rfl;intro K hK;(apply Q0s (hp1) (fun r=>r);rfl;rfl;rfl;rfl;exact Tryz.func26;kernel_rfl;rfl;rfl;(intro r hr q hq h;simp(disch:=omega) only[List.map_cons,List.map_nil,List.cons_append,List.nil_append,List.mem_cons,List.not_mem_nil,or_false] at hr hq;(try dsimp only at h);first|omega);(simp(disch:=omega) only[Q0w,Q1k,AV.ren,AV.renL,Q0m,List.mem_cons,List.not_mem_nil,forall_eq_or_imp,forall_eq,Q1g,List.contains_cons,List.contains_nil,AV.refsL,AV.refs,Q0l,AV.inN,AV.inNL,inH,Q0p,go_sem,W]));(simp(disch:=omega) only[Q0r,Q1h,renH,AV.ren,AV.renL,Q0m,go_sem,W];refine hK _ ?_;clear hK K))|((with_reducible refine Q0b ?_ ?_);rfl;intro K hK;simp(disch:=omega) only[go_sem,W];((repeat(refine ndI (by first|assumption|omega|rfl) ?_));refine hK _ ?_;clear hK K))|(with_reducible first|(refine Q0c ?_;refine hR _ ?_;clear hR R)|((first|refine Q0d ?_|refine Q0g ?_);intro J hJ hJ')|(refine Q0a ?_;intro R hR)|(refine hJ _ ?_;clear hJ hJ' J)|refine Q0i ?_)|((with_reducible refine hJ' _ _ ?_ ?_);(focus(simp;done));clear hJ hJ' J)|((with_reducible apply Q0e);rfl;rfl;all_goals(intro hc;first|(cases hc;done)|(try simp only at hc)))))))
     all_goals exact hJ1 _ (St.le_of (by simp[leT]) (by simp[leH,hget]))
   · rw[hxy] at hp1 hd
     rw[if_pos rfl] at hd
     (have W:=ndI k1 (ndI k2 (ndI k7 @wrI));(repeat(any_goals(first|((with_reducible refine Q0n ?_ ?_ ?_);rfl;rfl;intro K hK;(apply Q0s (hp1) (fun r=>r);rfl;rfl;rfl;rfl;exact Tryz.func26;kernel_rfl;rfl;rfl;(intro r hr q hq h;simp(disch:=omega) only[List.map_cons,List.map_nil,List.cons_append,List.nil_append,List.mem_cons,List.not_mem_nil,or_false] at hr hq;(try dsimp only at h);first|omega);(simp(disch:=omega) only[Q0w,Q1k,AV.ren,AV.renL,Q0m,List.mem_cons,List.not_mem_nil,forall_eq_or_imp,forall_eq,Q1g,List.contains_cons,List.contains_nil,AV.refsL,AV.refs,Q0l,AV.inN,AV.inNL,inH,Q0p,go_sem,W]));(simp(disch:=omega) only[Q0r,Q1h,renH,AV.ren,AV.renL,Q0m,go_sem,W];refine hK _ ?_;clear hK K))|((with_reducible refine Q0b ?_ ?_);rfl;intro K hK;simp(disch:=omega) only[go_sem,W];((repeat(refine ndI (by first|assumption|omega|rfl) ?_));refine hK _ ?_;clear hK K))|(with_reducible first|(refine Q0c ?_;refine hR _ ?_;clear hR R)|((first|refine Q0d ?_|refine Q0g ?_);intro J hJ hJ')|(refine Q0a ?_;intro R hR)|(refine hJ _ ?_;clear hJ hJ' J)|refine Q0i ?_|refine Q0k ?_)|((with_reducible refine hJ' _ _ ?_ ?_);(focus(simp;done));clear hJ hJ' J)|((with_reducible apply Q0e);rfl;rfl;all_goals(intro hc;first|(cases hc;done)|(try simp only at hc)))))))
     all_goals rw[←hd]
     all_goals(refine⟨by simp,⟨_,?_,AV.le_refl _⟩,Q0h (by simp[leH,hget])⟩;simp only[Tryz.results63,resL,ldA,Q0q,go_sem])
 · have k1:(decide ((i:Int)<(l.length:Int)))=false:=by simp;omega
   rw[List.drop_eq_nil_of_le hge] at hd
   have hd:r = -1:=hd.symm
   (repeat(any_goals(first|((with_reducible refine Q0b ?_ ?_);rfl;intro K hK;simp only[go_sem,k1];((repeat(refine ndI (by first|assumption) ?_));refine hK _ ?_;clear hK K))|(with_reducible first|(refine Q0c ?_;refine hR _ ?_;clear hR R)|((first|refine Q0d ?_);intro J hJ hJ')|(refine Q0a ?_;intro R hR)|(refine hJ _ ?_;clear hJ hJ' J)|refine Q0k ?_|refine Q0t ?_)|((with_reducible refine hJ' _ _ ?_ ?_);(focus(simp;done));clear hJ hJ' J)|((with_reducible apply Q0e);rfl;rfl;all_goals(intro hc;first|(cases hc;done)|(try simp only at hc))))))
   all_goals rw[hd]
   all_goals(refine⟨by simp,⟨_,?_,AV.le_refl _⟩,Q0h (by simp[leH,hget])⟩;simp only[Tryz.results63,resL,ldA,Q0q,go_sem])
theorem hasBl_fn(ex:Bool)(l:List Bk)(b:Bk)(hl:l.length≤1000000) :
 Fn Tryz.prog 25 [bks ex l,.fn 26 [.ptr 1001 0]] [(1001,bkC b)] (vb (l.any (atB b))) []:=by
 have h:=idxBl_fn ex l b hl
 have e:=Q6z (atB b) l 0
 generalize idxF (atB b) l 0=r at h e
 rw[←e]
 (refine Q0v Tryz.func25 rfl (by rfl) ?_;simp only[Tryz.ntmps25,List.length_cons,List.length_nil,Nat.reduceAdd,Nat.reduceSub,List.replicate,List.cons_append,List.nil_append])
 (repeat(any_goals(first|((with_reducible refine Q0n ?_ ?_ ?_);rfl;rfl;intro K hK;(apply Q0s (h) (fun r=>r);rfl;rfl;rfl;rfl;exact Tryz.func63;kernel_rfl;rfl;rfl;(intro r hr q hq h;simp only[List.map_cons,List.map_nil,List.cons_append,List.nil_append,List.mem_cons,List.not_mem_nil,or_false] at hr hq;(try dsimp only at h);first|omega);(simp only[Q0w,Q1k,AV.ren,AV.renL,Q0m,List.mem_cons,List.not_mem_nil,forall_eq_or_imp,forall_eq,Q1g,List.contains_cons,List.contains_nil,AV.refsL,AV.refs,Q0l,AV.inN,AV.inNL,inH,Q0p,go_sem]));(simp only[Q0r,Q1h,renH,AV.ren,AV.renL,Q0m,go_sem];refine hK _ ?_;clear hK K))|((with_reducible refine Q0b ?_ ?_);rfl;intro K hK;simp only[go_sem];((repeat(refine ndI (by first|assumption) ?_));refine hK _ ?_;clear hK K))|(with_reducible first|(refine Q0c ?_;refine hR _ ?_;clear hR R)|((first|refine Q0d ?_);intro J hJ hJ')|(refine Q0a ?_;intro R hR)|(refine hJ _ ?_;clear hJ hJ' J)|refine Q0k ?_))))
 all_goals(refine⟨by simp,⟨_,?_,AV.le_refl _⟩,Q0h (by simp[leH,hget])⟩;simp only[Tryz.results25,resL,ldA,Q0q,go_sem])
end
section
open Go.RowKit
def unE(e:Ev):Ev:=if e.kind=1 then⟨6,e.dep,e.self,0,241,0,0,[]⟩ else e
theorem unE_no{e:Ev}(h:e.kind≠1):unE e=e:=if_neg h
theorem unE_kind(e:Ev):(unE e).kind≠1:=by
 unfold unE
 by_cases h:e.kind=1
 · rw[if_pos h];show(6:Int)≠1;decide
 · rw[if_neg h];exact h
theorem unE_right{e:Ev}(h:Q3d e=true):Q3d (unE e)=true:=by
 unfold unE
 by_cases hk:e.kind=1
 · rw[if_pos hk]
   unfold Q3d at h ⊢
   have h1:=(Bool.and_eq_true_iff.1 h).1
   dsimp only
   rw[h1]
   rfl
 · rw[if_neg hk];exact h
theorem unE_tr{l:List Ev}(h:trB l=true):trB (l.map unE)=true:=by
 unfold trB at h ⊢
 obtain⟨h1,h2⟩:=Bool.and_eq_true_iff.1 h
 rw[Bool.and_eq_true_iff]
 refine⟨by simpa using h1,?_⟩
 rw[List.all_eq_true] at h2 ⊢
 intro e he
 obtain⟨f,hf,rfl⟩:=List.mem_map.1 he
 exact unE_right (h2 f hf)
theorem unE_cre(e:Ev):creB (unE e)=creB e:=by
 unfold creB unE
 by_cases h:e.kind=1
 · rw[if_pos h,h];rfl
 · rw[if_neg h]
theorem X8y{α β : Type}(p:β→Bool)(f:α→β):∀(l:List α) (k:Nat),idxF p (l.map f) k=idxF (fun x=>p (f x)) l k
 |[],_=>rfl
 |x::l,k=>by
  rw[List.map_cons]
  unfold idxF
  rw[X8y p f l (k+1)]
theorem unE_bases(W:List Nat)(l:List Ev):Q5h W (l.map unE)=[]:=by
 unfold Q5h selG
 have:(l.map unE).filter (fun e=>decide (e.kind∈[1]))=[]:=by
  rw[List.filter_eq_nil_iff]
  intro e he
  obtain⟨f,_,rfl⟩:=List.mem_map.1 he
  have:=unE_kind f
  simpa using this
 rw[this]
 rfl
theorem unE_assoc{l:List Ev}(h:trB l=true)(a:Int)(k:Nat)(ha:X6k a k (l.map unE)=true):X6k a k l=true:=by
 unfold X6k at ha ⊢
 rw[unE_bases] at ha
 rw[h]
 have h2:=(Bool.and_eq_true_iff.1 ha).2
 simp only[List.any_nil,Bool.or_false] at h2
 rw[h2]
 rfl
def unP(p q:Ph):Prop:=p.role=q.role∧p.who=q.who∧p.stk=q.stk∧(q.tr=p.tr∨q.tr=p.tr.map unE)
def unPs:List Ph→List Ph→Prop
 |[],[]=>True
 |p::l,q::m=>unP p q∧unPs l m
 |_,_=>False
theorem X4m:∀l:List Ph,unPs l l
 |[]=>trivial
 |p::l=>⟨⟨rfl,rfl,rfl,.inl rfl⟩,X4m l⟩
theorem X7w:∀(l:List Ph) (k:Nat) (p:Ph),l[k]? = some p→unPs l (l.set k {p with tr:=p.tr.map unE})
 |[],k,p,h=>by simp at h
 |q::l,0,p,h=>by
  simp at h;subst h
  exact⟨⟨rfl,rfl,rfl,.inr rfl⟩,X4m l⟩
 |q::l,k+1,p,h=>⟨⟨rfl,rfl,rfl,.inl rfl⟩,X7w l k p (by simpa using h)⟩
theorem X7x:∀{l m:List Ph},unPs l m→∀(i:Nat) (p:Ph),l[i]? = some p→∃q,m[i]? = some q∧unP p q
 |p::l,q::m,h,0,x,hx=>by simp at hx;subst hx;exact⟨q,rfl,h.1⟩
 |p::l,q::m,h,i+1,x,hx=>by
  obtain⟨y,h1,h2⟩:=X7x h.2 i x (by simpa using hx)
  exact⟨y,by simpa using h1,h2⟩
 |[],[],_,i,x,hx=>by simp at hx
def unC'(c d:Cs)(a:Int):Prop:=c.snd=d.snd∧d.cd=Q1s (fun b=>b==a) c.cd∧unPs c.ph d.ph
theorem phsB_un(s:Int):∀{l m:List Ph},unPs l m→∀k,phsB s l k=true→phsB s m k=true
 |[],[],_,_,_=>rfl
 |p::l,q::m,h,k,hp=>by
  obtain⟨⟨h1,h2,h3,h4⟩,h5⟩:=h
  unfold phsB phB at hp ⊢
  obtain⟨g1,g2⟩:=Bool.and_eq_true_iff.1 hp
  obtain⟨g3,g4⟩:=Bool.and_eq_true_iff.1 g1
  have ht:trB p.tr=true:=by
   cases ht:trB p.tr
   · rw[ht] at g3;simp at g3
   · rfl
  have hq:trB q.tr=true:=by
   rcases h4 with e|e
   · rw[e];exact ht
   · rw[e];exact unE_tr ht
  rw[←h1,←h2,hq]
  rw[ht] at g3
  rw[g3,g4,phsB_un s h5 _ g2]
  rfl
theorem phsB_tr(s:Int):∀{l:List Ph} {k:Int},phsB s l k=true→∀p∈l,trB p.tr=true
 |[],_,_,p,hp=>by cases hp
 |q::l,k,h,p,hp=>by
  unfold phsB phB at h
  obtain⟨g1,g2⟩:=Bool.and_eq_true_iff.1 h
  obtain⟨g3,g4⟩:=Bool.and_eq_true_iff.1 g1
  rcases List.mem_cons.1 hp with rfl|hp
  · cases ht:trB p.tr
    · rw[ht] at g3;simp at g3
    · rfl
  · exact phsB_tr s g2 p hp
theorem X7m{c:Cs}(h:Q2u c=true):∀p∈c.ph,trB p.tr=true:=by
 unfold Q2u at h
 exact phsB_tr _ (Bool.and_eq_true_iff.1 h).1
theorem anyR_un:∀{l m:List Ph},unPs l m→(l.any fun p=>p.role==2)=m.any fun p=>p.role==2
 |[],[],_=>rfl
 |p::l,q::m,h=>by
  simp only[List.any_cons]
  rw[h.1.1,anyR_un h.2]
theorem ofS_un:∀{l m:List Ph},unPs l m→∀s,ofS l s=ofS m s
 |[],[],_,_=>rfl
 |p::l,q::m,h,s=>by
  unfold ofS
  rw[h.1.1,h.1.2.2.1,ofS_un h.2]
theorem case_un{c d:Cs}{a:Int}(h:unC' c d a)(hc:Q2u c=true):Q2u d=true:=by
 unfold Q2u at hc ⊢
 obtain⟨h1,h2⟩:=Bool.and_eq_true_iff.1 hc
 obtain⟨h3,h4⟩:=Bool.and_eq_true_iff.1 h2
 rw[←h.1,phsB_un _ h.2.2 _ h1,←anyR_un h.2.2,h3]
 have:Q9w d.cd=true:=by
  unfold Q9w at h4 ⊢
  rw[decide_eq_true_iff] at h4 ⊢
  rw[h.2.1]
  exact h4.sublist List.filter_sublist
 rw[this]
 rfl
theorem X2g{c d:Cs}{a:Int}(h:unC' c d a)(hc:Q2u c=true)(s:Sp)(x:Int)(hb:Q1u d s x=true):Q1u c s x=true:=by
 unfold Q1u at hb ⊢
 rcases Bool.or_eq_true_iff.1 hb with h1|h1
 · rw[h1];rfl
 · have ht:=X7m hc
   have key:∀{l m:List Ph},unPs l m→(∀p∈l,trB p.tr=true)→m.any (assP x s)=true→l.any (assP x s)=true:=by
    intro l
    induction l with
    |nil=>intro m hm _ h;cases m with
     |nil=>exact h
     |cons=>cases hm
    |cons p l ih=>
     intro m hm ht h
     cases m with
     |nil=>cases hm
     |cons q m=>
      simp only[List.any_cons] at h ⊢
      rcases Bool.or_eq_true_iff.1 h with h1|h1
      · have:assP x s p=true:=by
         unfold assP at h1 ⊢
         rcases hm.1.2.2.2 with e|e
         · rw[←e];exact h1
         · rw[e] at h1;exact unE_assoc (ht p (by simp)) x s.k h1
        rw[this];rfl
      · rw[ih hm.2 (fun q hq=>ht q (by simp[hq])) h1,Bool.or_true]
   rw[key h.2.2 ht h1,Bool.or_true]
theorem touch_un{c d:Cs}{a:Int}(h:unC' c d a)(hc:Q2u c=true){p q:Ph}(hp:unP p q)(e:Ev)(ht:Q6j d (ofF d) q e=true):Q6j c (ofF c) p e=true:=by
 have hf:ofF d=ofF c:=by unfold ofF;rw[ofS_un h.2.2]
 have h1:=X2g h hc e.sp d.snd
 have h2:=X2g h hc e.sp q.who
 unfold Q6j at ht ⊢
 rw[hf] at ht
 rw[h.1,hp.2.1,hp.2.2.1]
 generalize Q1u d e.sp d.snd=b1 at *
 generalize Q1u d e.sp q.who=b2 at *
 generalize Q1u c e.sp d.snd=b3 at *
 generalize Q1u c e.sp q.who=b4 at *
 generalize (e.self==d.snd)=b5 at *
 generalize (e.kind==2)=b6 at *
 generalize ofF c=b7 at *
 generalize q.stk=b8 at *
 clear hf hc h hp
 revert b1 b2 b3 b4 b5 b6 b7 b8
 decide
theorem X4s(q1 q2 q3 q4 q5 q6 q7:Bool):ruleN q1 q2 q3 q4 q5 q6 q7>0↔(q1||q2||q3||q4||q5||q6||q7)=true:=by
 cases q1<;>cases q2<;>cases q3<;>cases q4<;>cases q5<;>cases q6<;>cases q7<;>decide
theorem rule_kind{c:Cs}{p:Ph}{j:Nat}{e:Ev}(hr:Q6t c p j e>0):e.kind≠1:=fun h=>by
 unfold Q6t at hr
 rw[X4s,h] at hr
 simp at hr
theorem rule_un{c d:Cs}{a:Int}(h:unC' c d a)(hc:Q2u c=true){p q:Ph}(hp:unP p q)(j:Nat)(e:Ev)(hr:Q6t c p j e>0):Q6t d q j e>0:=by
 have ht:=touch_un h hc hp e
 have hm:Q7q d q j e=Q7q c p j e:=by
  unfold Q7q
  have:idxF creB q.tr 0=idxF creB p.tr 0:=by
   rcases hp.2.2.2 with e|e
   · rw[e]
   · rw[e,X8y]
     congr 1
     funext x
     exact unE_cre x
  rw[this,h.1,hp.1]
 have hcd:Q6o d (ofM d) e.to=true→Q6o c (ofM c) e.to=true:=fun hd=>by
  have hM:ofM d=ofM c:=by unfold ofM;rw[ofS_un h.2.2]
  unfold Q6o at hd ⊢
  rw[hM,←h.1] at hd
  rcases Bool.or_eq_true_iff.1 hd with h1|h1
  · have:e.to∈c.cd:=by
     have h1:=of_decide_eq_true h1
     rw[h.2.1] at h1
     exact(List.mem_filter.1 h1).1
    rw[decide_eq_true this];rfl
  · rw[h1,Bool.or_true]
 have hstk:=hp.2.2.1
 unfold Q6t at hr ⊢
 rw[X4s] at hr ⊢
 rw[hm,←hstk]
 generalize Q6o d (ofM d) e.to=b1 at *
 generalize Q6o c (ofM c) e.to=b2 at *
 generalize Q6j d (ofF d) q e=b3 at *
 generalize Q6j c (ofF c) p e=b4 at *
 generalize Q7q c p j e=b5 at *
 generalize ((e.kind==5) && !(p.stk&&decide (e.op∈[49,71])))=k1 at *
 generalize ((e.kind==6) && !decide (e.op∈[241,244,250]))=k2 at *
 generalize (((e.kind==4)&&(e.to==1))&&(!decide (e.op∈[241])||decide ((e.data.length:Int)>0)))=k3 at *
 generalize ((e.kind==4)&&decide (e.op∈[245]))=k4 at *
 generalize ((((e.kind==4)&&decide (e.op∈[241]))&&(e.to != 1)) && !decide (e.val=0))=k5 at *
 generalize (((e.kind==4) && !decide (e.op∈[245]))&&(e.to != 1))=k6 at *
 generalize ((e.kind==2)||(e.kind==3))=k7 at *
 clear hm hc h hp hstk
 revert b1 b2 b3 b4 b5 k1 k2 k3 k4 k5 k6 k7
 decide
theorem X6h{R:Nat→Ev→Int}{i:Nat}:∀{l:List Ev} {k:Nat} {b:Bk},b∈brkP R i l k→∃j e,l[j]? = some e∧R (k+j) e>0∧b=⟨i,((k+j:Nat):Int),R (k+j) e⟩
 |[],_,b,hb=>by cases hb
 |e::l,k,b,hb=>by
  unfold brkP at hb
  have tl:b∈brkP R i l (k+1)→∃j f,(e::l)[j]? = some f∧R (k+j) f>0∧b=⟨i,((k+j:Nat):Int),R (k+j) f⟩:=fun h=>by
   obtain⟨j,f,h1,h2,h3⟩:=X6h h
   exact⟨j+1,f,by simpa using h1,by rw[show k+(j+1)=k+1+j by omega];exact h2,by rw[show k+(j+1)=k+1+j by omega];exact h3⟩
  split at hb
  · rename_i hz
    rcases List.mem_cons.1 hb with rfl|hb
    · exact⟨0,e,rfl,hz,rfl⟩
    · exact tl hb
  · exact tl hb
theorem X6i{R:Ph→Nat→Ev→Int}:∀{l:List Ph} {k:Nat} {b:Bk},b∈brkG R l k→∃i p j e,l[i]? = some p∧p.tr[j]? = some e∧R p j e>0∧b=⟨((k+i:Nat):Int),j,R p j e⟩
 |[],_,b,hb=>by cases hb
 |p::l,k,b,hb=>by
  unfold brkG at hb
  rcases List.mem_append.1 hb with hb|hb
  · obtain⟨j,e,h1,h2,h3⟩:=X6h hb
    rw[Nat.zero_add] at h2 h3
    exact⟨0,p,j,e,rfl,h1,h2,h3⟩
  · obtain⟨i,q,j,e,h1,h2,h3,h4⟩:=X6i hb
    exact⟨i+1,q,j,e,by simpa using h1,h2,h3,by rw[show k+(i+1)=k+1+i by omega];exact h4⟩
theorem broken_un{c d:Cs}{a:Int}(h:unC' c d a)(hc:Q2u c=true)(b:Bk)(hb:b∈brkC c):(brkC d).any (atB b)=true:=by
 unfold brkC at hb
 obtain⟨i,p,j,e,h1,h2,h3,rfl⟩:=X6i hb
 obtain⟨q,h4,h5⟩:=X7x h.2.2 i p h1
 have hk:=rule_kind h3
 have he:q.tr[j]? = some e:=by
  rcases h5.2.2.2 with e'|e'
  · rw[e'];exact h2
  · rw[e',List.getElem?_map,h2,Option.map_some,unE_no hk]
 have hr:=rule_un h hc h5 j e h3
 have hm:=X7o (Q6t d) h4 he hr
 rw[List.any_eq_true]
 refine⟨_,hm,?_⟩
 simp[atB]
def noT(p:Ph):Ph:={p with tr:=[]}
theorem X8p(s:Int):∀{l:List Ph} {k:Int},phsB s l k=true→phsB s (l.map noT) k=true
 |[],_,_=>rfl
 |p::l,k,h=>by
  rw[List.map_cons]
  unfold phsB phB at h ⊢
  obtain⟨g1,g2⟩:=Bool.and_eq_true_iff.1 h
  obtain⟨g3,g4⟩:=Bool.and_eq_true_iff.1 g1
  have ht:trB p.tr=true:=by
   cases ht:trB p.tr
   · rw[ht] at g3;simp at g3
   · rfl
  rw[ht] at g3
  have e:trB (noT p).tr=true:=rfl
  rw[e]
  show((!(decide (p.role≤k)||(decide (p.role>3)||((p.who==0) || !true))) && !((p.role==2)&&(p.who != s)))&&phsB s (l.map noT) p.role)=true
  rw[g3,g4,X8p s g2]
  rfl
theorem X9q{c:Cs}(hc:Q2u c=true):Q2u ⟨c.snd,c.ph.map noT,c.cd⟩=true:=by
 unfold Q2u at hc ⊢
 obtain⟨h1,h2⟩:=Bool.and_eq_true_iff.1 hc
 dsimp only
 rw[X8p _ h1]
 have:((c.ph.map noT).any fun p=>p.role==2)=c.ph.any fun p=>p.role==2:=by rw[List.any_map];rfl
 rw[this,h2]
 rfl
theorem brk_noT(R:Ph→Nat→Ev→Int):∀(l:List Ph) (k:Nat),brkG R (l.map noT) k=[]
 |[],_=>rfl
 |p::l,k=>by
  rw[List.map_cons]
  unfold brkG
  rw[brk_noT R l (k+1)]
  rfl
theorem noT_holds{c:Cs}(hc:Q2u c=true):Q8u ⟨c.snd,c.ph.map noT,c.cd⟩=0:=by
 unfold Q8u brkC
 rw[if_pos (X9q hc),brk_noT]
theorem noT_for{c:Cs}(hc:Q2u c=true):Q3b ⟨c.snd,c.ph.map noT,c.cd⟩=[]:=by
 unfold Q3b
 rw[if_pos (X9q hc)]
 have e:((c.ph.map noT).flatMap fun p=>canS (Q3e [2,3] p.tr))=[]:=by
  rw[List.flatMap_map]
  induction c.ph with
  |nil=>rfl
  |cons p l ih=>
   rw[List.flatMap_cons,ih]
   have:canS (Q3e [2,3] (noT p).tr)=[]:=by
    show canS []=[]
    simp[canS,ddS]
   rw[this]
   rfl
 rw[e]
 simp[Q1s,canS,ddS]
theorem X9z{c:Cs}(ho:c.ok):∀e∈c.ph.flatMap Ph.tr,e.ok:=fun e he=>by
 obtain⟨p,hp,h⟩:=List.mem_flatMap.1 he
 exact(ho.2.1.2 p hp).2.2 e h
theorem all_tr{c:Cs}(hc:Q2u c=true)(hl:(c.ph.flatMap Ph.tr).length≤2000):trB (c.ph.flatMap Ph.tr)=true:=by
 unfold trB
 rw[decide_eq_true hl,Bool.true_and,List.all_eq_true]
 intro e he
 obtain⟨p,hp,h⟩:=List.mem_flatMap.1 he
 have ht:=X7m hc p hp
 unfold trB at ht
 exact List.all_eq_true.1 (Bool.and_eq_true_iff.1 ht).2 e h
theorem for_spec{c:Cs}(ho:c.ok)(hc:Q2u c=true)(hl:(c.ph.flatMap Ph.tr).length≤2000)(s:Sp)(hs:s∈Q3b c):s∈canS (Q3e [2,3] (c.ph.flatMap Ph.tr))∧ownB' c s=false∧(s.a==c.snd)=false:=by
 have ot:∀x∈c.ph.flatMap (fun p=>canS (Q3e [2,3] p.tr)),x.ok:=fun x hx=>by
  obtain⟨p,hp,h⟩:=List.mem_flatMap.1 hx
  have o:=Q4c (ho.2.1.2 p hp).2.2 [2,3]
  exact o x (((Q3o _ o).2 x).1 h)
 unfold Q3b at hs
 rw[if_pos hc] at hs
 have hs:=((Q3o _ fun x hx=>ot x (List.mem_filter.1 hx).1).2 s).1 hs
 obtain⟨h1,h2⟩:=List.mem_filter.1 hs
 have h2:Q1u c s c.snd=false:=by simpa using h2
 refine⟨?_,?_,?_⟩
 · rw[(Q3o _ (Q4c (X9z ho) _)).2]
   obtain⟨p,hp,h⟩:=List.mem_flatMap.1 h1
   rw[(Q3o _ (Q4c (ho.2.1.2 p hp).2.2 [2,3])).2] at h
   unfold Q3e at h ⊢
   rw[if_pos (X7m hc p hp)] at h
   rw[if_pos (all_tr hc hl)]
   unfold selS at h ⊢
   obtain⟨e,he,rfl⟩:=List.mem_map.1 h
   obtain⟨g1,g2⟩:=List.mem_filter.1 he
   exact List.mem_map.2 ⟨e,List.mem_filter.2 ⟨List.mem_flatMap.2 ⟨p,hp,g1⟩,g2⟩,rfl⟩
 · unfold ownB'
   rw[h2,Bool.and_false]
 · unfold Q1u at h2
   exact(Bool.or_eq_false_iff.1 h2).1
theorem for_len{c:Cs}(hc:c.ok):(Q3b c).length≤1000000:=by
 unfold Q3b
 split
 · have h1:=Q9n (Q1s (fun s=>Q1u c s c.snd) (c.ph.flatMap fun p=>canS (Q3e [2,3] p.tr)))
   have h2:=Q5t (fun s=>Q1u c s c.snd) (c.ph.flatMap fun p=>canS (Q3e [2,3] p.tr))
   have h3:=X8q (fun p=>canS (Q3e [2,3] p.tr)) c.ph (fun p hp=>by
    have h1:=Q9n (Q3e [2,3] p.tr)
    have h2:=Q7j [2,3] p.tr
    have h3:=(hc.2.1.2 p hp).2.1
    omega) hc.2.1.1 c.ph.length
   unfold outT at h3
   rw[List.take_length] at h3
   omega
 · exact Nat.zero_le _
end
section
open Go.RowKit
open Nat (reduceBEq)
attribute [-go_sem] IntKind.bits
set_option maxRecDepth 100000
set_option maxHeartbeats 4000000
theorem X6f:∀(k:Nat) (l:List Ph) (p:Ph),l[k]? = some p→(Q1j k l)[k*4+3]? = some (.row 700 evT 14 p.tr.length)
 |_,[],p,h=>by simp at h
 |0,q::l,p,h=>by
  simp at h;subst h
  rfl
 |k+1,q::l,p,h=>by
  have h1:=X6f k l p (by simpa using h)
  unfold Q1j
  have e:((q.pv.map AV.c)).length=4:=by rw[List.length_map,Q6k]
  rw[List.getElem?_append_right (by omega),e,show(k+1)*4+3-4=k*4+3 by omega]
  exact h1
theorem X0y:∀(k:Nat) (l:List Ph) (p:Ph) (L:List Ev),l[k]? = some p→L.length=p.tr.length→AV.frzL 700 (L.flatMap Ev.pv) (Q1j k l)=raP (l.set k {p with tr:=L})
 |_,[],p,L,h,_=>by simp at h
 |0,q::l,p,L,h,hl=>by
  simp at h;subst h
  have e:(L.flatMap Ev.pv).length=q.tr.length*14:=by rw[Q0o Q7x,hl]
  simp[Q1j,AV.frzL,AV.frz,-List.length_flatMap,e]
  show _=(List.flatMap Ph.pv (_::l)).map AV.c
  simp[Ph.pv,hl]
 |k+1,q::l,p,L,h,hl=>by
  have h1:=X0y k l p L (by simpa using h) hl
  simp only[Q1j,List.set_cons_succ]
  rw[X5q,Q3l,h1]
  simp[raP]
theorem ecells{A B:List Ev}{y:Ev}{k:Nat}(hA:A.length=k):(raE (A++y::B))[k*14]? = some (vi .i64 y.kind)∧(raE (A++y::B))[k*14+1]? = some (vi .i64 y.dep)∧(raE (A++y::B))[k*14+2]? = some (vi .u64 y.self):=by
 have hl:=Q5p A
 rw[hA] at hl
 rw[Q8h]
 refine⟨?_,?_,?_⟩
 · rw[List.getElem?_append_right (by omega),hl,show k*14-k*14=0 by omega];rfl
 · rw[List.getElem?_append_right (by omega),hl,show k*14+1-k*14=1 by omega];rfl
 · rw[List.getElem?_append_right (by omega),hl,show k*14+2-k*14=2 by omega];rfl
theorem spl_ev{A B:List Ev}{y:Ev}{k:Nat}(hA:A.length=k)(c:List AV)(hc:c.length=14):spl (raE (A++y::B)) (k*14) c=raE A++(c++raE B):=by
 have hl:=Q5p A
 rw[hA] at hl
 rw[Q8h]
 generalize raE A=X at hl
 have e2:(c14 y.kind y.dep y.self y.to (y.op:Int) (l0 y.key) (l1 y.key) (l2 y.key) (l3 y.key) (l0 y.val) (l1 y.val) (l2 y.val) (l3 y.val) (bsl false y.data)).length=14:=rfl
 generalize c14 y.kind y.dep y.self y.to (y.op:Int) (l0 y.key) (l1 y.key) (l2 y.key) (l3 y.key) (l0 y.val) (l1 y.val) (l2 y.val) (l3 y.val) (bsl false y.data)=Z at e2
 unfold spl
 rw[List.take_append,List.drop_append,hc,hl,List.take_of_length_le (by omega),Nat.sub_self,List.take_zero,List.append_nil,List.drop_eq_nil_of_le (by omega),show k*14+14-k*14=14 by omega,List.drop_append,e2,List.drop_eq_nil_of_le (by omega)]
 simp
theorem spl_tr{A B:List Ph}{y:Ph}{k:Nat}(hA:A.length=k)(c:AV):spl (raP (A++y::B)) (k*4+3) [c]=raP A++([vi .i64 y.role,vi .u64 y.who,vb y.stk,c]++raP B):=by
 have hl:=raP_len A
 rw[hA] at hl
 rw[raP_mid]
 generalize raP A=X at hl
 unfold spl
 rw[List.take_append,List.drop_append]
 simp[hl,List.take_of_length_le,show k*4+3-k*4=3 by omega,show k*4+3+1-k*4=4 by omega,show X.length≤k*4+3 by omega,List.drop_eq_nil_of_le,show k*4≤k*4+3+1 by omega]
theorem X3g{a b c d:List AV}(h1:leL a b)(h2:leL c d):leL (a++c) (b++d):=by
 induction a generalizing b with
 |nil=>cases b with
  |nil=>exact h2
  |cons=>cases h1
 |cons x a ih=>cases b with
  |nil=>cases h1
  |cons y b=>exact⟨h1.1,ih h1.2⟩
theorem X0h:∀l:List AV,leL l l
 |[]=>trivial
 |x::l=>⟨AV.le_refl _,X0h l⟩
abbrev lsH(s:Int)(c:Cs)(n m:Nat)(cs cd E:List AV):List (Nat×List AV):=[(7,[vi .u64 c.snd,phs false c.ph,asl false c.cd]),(9,[vi .u64 s,.row 600 phT 4 n,.row 601 23 1 m]),(600,cs),(601,cd),(700,E)]
abbrev ls0(c:Cs)(B1:List Bk)(k n m:Nat)(cs cd E:List AV)(N i:Nat):St:=⟨[.any,.any,.any,.any,.any,.any,vb false,.ptr 7 0,bks false B1,.ptr 9 0,.ptr 600 (k*4),.any,.any,.any,.any,.any,.any,.any,.any,.any,.any,.any,.any,.any,.any,.any,.any,.any,.any,.any,.any,.any,.any,.any,.any,.any,.any,.any,.any,.any,.any,.any,.any,.any,.any,.any,.any,.any,.any,.any,.any,.any,.any,.any,.any,vi .i64 N,vi .i64 i,.any,.any,.any,.any,.any,.any,.any,.any,.any,.any,.any,.any,.any,.any,.any,.any,.any,.any,.any,.any,.any,.any,.any,.any,.any,.any,.any,.any,.any,.any,.any,.any,.any,.any,.any,.any,.any,.any,.any,.any,.any,.any,.any,.any,.any,.any,.any,.any,.any,.any,.any,.any,.any,.any,.any,.any,.any,.any,.any,.any,.any,.any,.any,.any,.any,.any,.any,.any,.any,.any,.any,.any,.any,.any,.any,.any,.any,.any,.any,.any,.any,.any,.any,.any,.any,.any,.any,.any,.any,.any,.any,.any,.any,.any,.any,.any,.any,.any,.any,.any,.any,.any,.any,.any,.any,.any,.any,.any,.any,.any,.any],lsH c.snd c n m cs cd E⟩
abbrev ls2(c:Cs)(B1 B2:List Bk)(P:List Ph)(cd:List Int)(i:Nat):St:=⟨[.any,.any,.any,.any,.any,.any,vb false,.ptr 7 0,.any,.ptr 9 0,.any,.any,bks false B2,.any,.any,.any,.any,.any,.any,.any,.any,.any,.any,.any,.any,.any,.any,.any,.any,.any,.any,.any,.any,.any,.any,.any,.any,.any,.any,.any,.any,.any,.any,.any,.any,.any,.any,.any,.any,.any,.any,.any,.any,.any,.any,.any,.any,.any,.any,.any,.any,.any,.any,.any,.any,.any,.any,.any,.any,.any,.any,.any,.any,.any,.any,.any,.any,.any,.any,.any,.any,.any,.any,.any,.any,.any,.any,.any,.any,.any,.any,.any,.any,.any,bks false B1,vi .i64 B1.length,vi .i64 i,.any,.any,.any,.any,.any,.any,.any,.any,.any,.any,.any,.any,.any,.any,.any,.any,.any,.any,.any,.any,.any,.any,.any,.any,.any,.any,.any,.any,.any,.any,.any,.any,.any,.any,.any,.any,.any,.any,.any,.any,.any,.any,.any,.any,.any,.any,.any,.any,.any,.any,.any,.any,.any,.any,.any,.any,.any,.any,.any,.any,.any,.any,.any,.any,.any,.any,.any,.any,.any,.any,.any],[(7,[vi .u64 c.snd,phs false c.ph,asl false c.cd]),(9,[vi .u64 c.snd,.row 600 phT 4 P.length,asl false cd]),(600,raP P)]⟩
abbrev ls4(c:Cs)(n:Nat)(P:List Ph)(cd:List Int)(i:Nat):St:=⟨[.any,.any,.any,.any,.any,.any,vb false,.ptr 7 0,.any,.ptr 9 0,.any,.any,.any,.any,.any,.any,.any,.any,.any,.any,.any,.any,.any,.any,.any,.any,.any,.any,.any,.any,.any,.any,.any,.any,.any,.any,.any,.any,.any,.any,.any,.any,.any,.any,.any,.any,.any,.any,.any,.any,.any,.any,.any,.any,.any,.any,.any,.any,.any,.any,.any,.any,.any,.any,.any,.any,.any,.any,.any,.any,.any,.any,.any,.any,.any,.any,.any,.any,.any,.any,.any,.any,.any,.any,.any,.any,.any,.any,.any,.any,.any,.any,.any,.any,.any,.any,.any,.any,.any,.any,.any,.any,.any,.any,.any,.any,.any,vi .i64 n,vi .i64 i,.any,.any,.any,.any,.any,.any,.any,.any,.any,.any,.any,.any,.any,.any,.any,.any,.any,.any,.any,.any,.any,.any,.any,.any,.any,.any,.any,.any,.any,.any,.any,.any,.any,.any,.any,.any,.any,.any,.any,.any,.any,.any,.any,.any,.any,.any,.any,.any,.any,.any,.any,.any,.any,.any,.any,.any,.any,.any,.any],[(7,[vi .u64 c.snd,phs false c.ph,asl false c.cd]),(9,[vi .u64 c.snd,.row 600 phT 4 n,asl false cd]),(600,raP P)]⟩
abbrev ls5(c:Cs)(n:Nat)(P:List Ph)(cd:List Int)(i:Nat):St:=⟨[.any,.any,.any,.any,.any,.any,vb false,.ptr 7 0,.any,.ptr 9 0,.any,.any,.any,.any,.any,.any,.any,.any,.any,.any,.any,.any,.any,.any,.any,.any,.any,.any,.any,.any,.any,.any,.any,.any,.any,.any,.any,.any,.any,.any,.any,.any,.any,.any,.any,.any,.any,.any,.any,.any,.any,.any,.any,.any,.any,.any,.any,.any,.any,.any,.any,.any,.any,.any,.any,.any,.any,.any,.any,.any,.any,.any,.any,.any,.any,.any,.any,.any,.any,.any,.any,.any,.any,.any,.any,.any,.any,.any,.any,.any,.any,.any,.any,.any,.any,.any,.any,.any,.any,.any,.any,.any,.any,.any,.any,.any,.any,vi .i64 n,vi .i64 i,.any,.any,.any,.any,.any,.any,.any,.any,.any,.any,.any,.any,.any,.any,.any,.any,.any,.any,.any,.any,.any,.any,.any,.any,.any,.any,.any,.any,.any,.any,.any,.any,.any,.any,.any,.any,.any,.any,.any,.any,.any,.any,.any,.any,.any,.any,.any,.any,.any,.any,.any,.any,.any,.any,.any,.any,.any,.any,.any],[(7,[vi .u64 c.snd,phs false c.ph,asl false c.cd]),(9,[vi .u64 c.snd,phs false P,asl false cd])]⟩
theorem ls4_frz(c:Cs)(n:Nat)(P:List Ph)(cd:List Int)(i:Nat)(h:P.length=n):(ls4 c n P cd i).to (ls5 c n P cd i):=by
 have lf:(P.flatMap Ph.pv).length=n*4:=by rw[Q0o Q6k,h]
 have h2:=St.to.frz (σ:=ls4 c n P cd i) 600 (pcs:=P.flatMap Ph.pv) rfl
 have e:((ls4 c n P cd i).frz 600 (P.flatMap Ph.pv))=ls5 c n P cd i:=by
  simp[St.frz,AV.frz,AV.frzL,frzH,Q3l,-List.length_flatMap,lf,h]
 rwa [e] at h2
abbrev ls6(c:Cs)(r:Nat)(out:List Ev)(i:Nat):St:=⟨[.any,.any,.any,.any,.any,.any,vb false,.ptr 7 0,.any,.any,.any,.any,.any,.any,.any,.any,.any,.any,.row r evT 14 out.length,.any,.any,.any,.any,.any,.any,.any,.any,.any,.any,.any,.any,.any,.any,.any,.any,.any,.any,.any,.any,.any,.any,.any,.any,.any,.any,.any,.any,.any,.any,.any,.any,.any,.any,.any,.any,.any,.any,.any,.any,.any,.any,.any,.any,.any,.any,.any,.any,.any,.any,.any,.any,.any,.any,.any,.any,.any,.any,.any,.any,.any,.any,.any,.any,.any,.any,.any,.any,.any,.any,.any,.any,.any,.any,.any,.any,.any,.any,.any,.any,.any,.any,.any,.any,.any,.any,.any,.any,.any,.any,.any,.any,.any,.any,.any,.any,.any,.any,.any,.any,.any,.any,.any,.any,.any,.any,.any,.any,.any,.any,.any,.any,phs false c.ph,vi .i64 c.ph.length,vi .i64 i,.any,.any,.any,.any,.any,.any,.any,.any,.any,.any,.any,.any,.any,.any,.any,.any,.any,.any,.any,.any,.any,.any,.any,.any,.any,.any,.any,.any,.any,.any,.any,.any,.any,.any],[(7,[vi .u64 c.snd,phs false c.ph,asl false c.cd]),(r,raE out)]⟩
abbrev ls7(c:Cs)(out:List Ev)(i:Nat):St:=⟨[.any,.any,.any,.any,.any,.any,vb false,.ptr 7 0,.any,.any,.any,.any,.any,.any,.any,.any,.any,.any,evs false out,.any,.any,.any,.any,.any,.any,.any,.any,.any,.any,.any,.any,.any,.any,.any,.any,.any,.any,.any,.any,.any,.any,.any,.any,.any,.any,.any,.any,.any,.any,.any,.any,.any,.any,.any,.any,.any,.any,.any,.any,.any,.any,.any,.any,.any,.any,.any,.any,.any,.any,.any,.any,.any,.any,.any,.any,.any,.any,.any,.any,.any,.any,.any,.any,.any,.any,.any,.any,.any,.any,.any,.any,.any,.any,.any,.any,.any,.any,.any,.any,.any,.any,.any,.any,.any,.any,.any,.any,.any,.any,.any,.any,.any,.any,.any,.any,.any,.any,.any,.any,.any,.any,.any,.any,.any,.any,.any,.any,.any,.any,.any,.any,phs false c.ph,vi .i64 c.ph.length,vi .i64 i,.any,.any,.any,.any,.any,.any,.any,.any,.any,.any,.any,.any,.any,.any,.any,.any,.any,.any,.any,.any,.any,.any,.any,.any,.any,.any,.any,.any,.any,.any,.any,.any,.any,.any],[(7,[vi .u64 c.snd,phs false c.ph,asl false c.cd])]⟩
abbrev ls8(c:Cs)(TT F:List Sp)(i:Nat):St:=⟨[.any,.any,.any,.any,.any,.any,vb false,.ptr 7 0,.any,.any,.any,.any,.any,.any,.any,.any,.any,.any,.any,.any,.any,spl5 false TT,.any,.any,.any,.any,.any,.any,.any,.any,.any,.any,.any,.any,.any,.any,.any,.any,.any,.any,.any,.any,.any,.any,.any,.any,.any,.any,.any,.any,.any,.any,.any,.any,.any,.any,.any,.any,.any,.any,.any,.any,.any,.any,.any,.any,.any,.any,.any,.any,.any,.any,.any,.any,.any,.any,.any,.any,.any,.any,.any,.any,.any,.any,.any,.any,.any,.any,.any,.any,.any,.any,.any,.any,.any,.any,.any,.any,.any,.any,.any,.any,.any,.any,.any,.any,.any,.any,.any,.any,.any,.any,.any,.any,.any,.any,.any,.any,.any,.any,.any,.any,.any,.any,.any,.any,.any,.any,.any,.any,.any,.any,.any,.any,.any,.any,.any,.any,.any,.any,.any,.any,.any,.any,.any,spl5 false F,vi .i64 F.length,vi .i64 i,.any,.any,.any,.any,.any,.any,.any,.any,.any,.any,.any,.any,.any,.any,.any,.any,.any,.any,.any,.any],[(7,[vi .u64 c.snd,phs false c.ph,asl false c.cd])]⟩
theorem ls6_rn(c:Cs)(out:List Ev)(i:Nat):(ls6 c 140 out i).to (ls6 c 500 out i):=by
 have h:=St.to.rn (σ:=ls6 c 140 out i) (fun r=>if r=140 then 500 else r) (fun r=>if r=500 then 140 else r) [7,140] (by simp[AV.inNL,AV.inN]) (by simp) (by simp[inH,AV.inNL,AV.inN,Q0p]) (by simp) (by simp)
 simp[AV.renL,AV.ren,renH] at h
 exact h
theorem ls6_frz(c:Cs)(out:List Ev)(i:Nat):(ls6 c 500 out i).to (ls7 c out i):=by
 have lf:(out.flatMap Ev.pv).length=out.length*14:=Q0o Q7x _
 have h2:=St.to.frz (σ:=ls6 c 500 out i) 500 (pcs:=out.flatMap Ev.pv) rfl
 have e:((ls6 c 500 out i).frz 500 (out.flatMap Ev.pv))=ls7 c out i:=by
  simp[St.frz,AV.frz,AV.frzL,frzH,Q3l,-List.length_flatMap,lf]
 rwa [e] at h2
theorem ls0_nil(c:Cs)(B1:List Bk)(k n m:Nat)(cs cd:List AV)(N i:Nat)(A B:List Ev)(dep self:Int):(ls0 c B1 k n m cs cd (raE A++(c14 6 dep self 0 241 0 0 0 0 0 0 0 0 nilA++raE B)) N i).to (ls0 c B1 k n m cs cd (raE (A++⟨6,dep,self,0,241,0,0,[]⟩::B)) N i):=by
 have h:=St.to.cells (σ:=ls0 c B1 k n m cs cd (raE A++(c14 6 dep self 0 241 0 0 0 0 0 0 0 0 nilA++raE B)) N i) 700 (cs:=raE A++(c14 6 dep self 0 241 0 0 0 0 0 0 0 0 nilA++raE B)) (ds:=raE (A++⟨6,dep,self,0,241,0,0,[]⟩::B)) (by simp[hget]) (by
  rw[Q8h]
  have z3:l3 0=0:=rfl
  simp only[z3]
  exact X3g (X0h _) (X3g ⟨AV.le_refl _,AV.le_refl _,AV.le_refl _,AV.le_refl _,AV.le_refl _,AV.le_refl _,AV.le_refl _,AV.le_refl _,AV.le_refl _,AV.le_refl _,AV.le_refl _,AV.le_refl _,AV.le_refl _,AV.le_nil false 1,trivial⟩ (X0h _)))
 refine h.trans (St.to.of_le (St.le_of (by simp[leT]) ?_))
 simp[leH,hget,hput]
theorem ls4_nil(c:Cs)(n:Nat)(A B:List Ph)(y:Ph)(cd:List Int)(i j:Nat):(St.mk (ls4 c n (A++y::B) cd j).T [(7,[vi .u64 c.snd,phs false c.ph,asl false c.cd]),(9,[vi .u64 c.snd,.row 600 phT 4 n,asl false cd]),(600,raP A++([vi .i64 y.role,vi .u64 y.who,vb y.stk,nilA]++raP B))]).to (ls4 c n (A++noT y::B) cd j):=by
 have h:=St.to.cells (σ:=St.mk (ls4 c n (A++y::B) cd j).T [(7,[vi .u64 c.snd,phs false c.ph,asl false c.cd]),(9,[vi .u64 c.snd,.row 600 phT 4 n,asl false cd]),(600,raP A++([vi .i64 y.role,vi .u64 y.who,vb y.stk,nilA]++raP B))]) 600 (cs:=raP A++([vi .i64 y.role,vi .u64 y.who,vb y.stk,nilA]++raP B)) (ds:=raP (A++noT y::B)) (by simp[hget]) (by
  rw[raP_mid]
  exact X3g (X0h _) (X3g ⟨AV.le_refl _,AV.le_refl _,AV.le_refl _,AV.le_nil false 14,trivial⟩ (X0h _)))
 refine h.trans (St.to.of_le (St.le_of (by simp[leT]) ?_))
 simp[leH,hget,hput]
theorem less_fnE(x c:Cs)(a n:Int)(hc:c.ok)(hl4:c.ph.length≤4)(hal:(c.ph.flatMap Ph.tr).length≤1000)(fv:Fn Tryz.prog 9 [csA x] [] (csA c) [])(fk:∀k,Fn Tryz.prog 9 [csA x] [] (.agg [vi .u64 c.snd,.row 600 phT 4 c.ph.length,.row 601 23 1 c.cd.length]) [(600,Q1j k c.ph),(601,raA c.cd),(700,Q2y k c.ph)]):Fn Tryz.prog 5 [csA x,vi .u64 a,vi .i64 n] [] (vb true) []:=by
 have ck:=Q9x c hc
 cases hr:Q2u c with
 |false=>
  rw[hr,if_neg (by simp)] at ck
  clear hr
  (refine Q0v Tryz.func5 rfl (by rfl) ?_;simp only[Tryz.ntmps5,List.length_cons,List.length_nil,Nat.reduceAdd,Nat.reduceSub,List.replicate,List.cons_append,List.nil_append])
  (repeat(any_goals(first|((with_reducible refine Q0n ?_ ?_ ?_);rfl;rfl;intro K hK;((first|(apply Q0j (X7v);rfl;rfl;rfl;rfl;exact Tryz.func8)|(apply Q0j (fv);rfl;rfl;rfl;rfl;exact Tryz.func9)|(apply Q0j (ck);rfl;rfl;rfl;rfl;exact Tryz.func16));kernel_rfl;rfl;(focus((simp only[go_sem]);(try rfl);done));(first|rfl));(simp only[go_sem];refine hK _ ?_;clear hK K))|((with_reducible refine Q0b ?_ ?_);rfl;intro K hK;simp only[go_sem];((repeat(refine ndI (by first|assumption) ?_));refine hK _ ?_;clear hK K))|(with_reducible first|(refine Q0c ?_;refine hR _ ?_;clear hR R)|((first|refine Q0d ?_);intro J hJ hJ')|(refine Q0a ?_;intro R hR)|(refine hJ _ ?_;clear hJ hJ' J)|refine Q0i ?_|refine Q0k ?_)|((with_reducible refine hJ' _ _ ?_ ?_);(focus(simp;done));clear hJ hJ' J)|((with_reducible apply Q0e);rfl;rfl;all_goals(intro hc;first|(cases hc;done)|(try simp only at hc))))))
  all_goals(refine⟨by simp,⟨_,?_,AV.le_refl _⟩,Q0h (by simp[leH,hget])⟩;simp only[Tryz.results5,resL,ldA,Q0q,go_sem])
 |true=>
  rw[hr,if_pos rfl] at ck
  have br:=broken_fn c hc
  have ebr:Q5w c=brkC c:=by unfold Q5w;rw[hr];rfl
  rw[ebr] at br
  have hpos:0<c.ph.length:=by
   rcases Nat.eq_zero_or_pos c.ph.length with h|h
   · have:c.ph=[]:=List.eq_nil_of_length_eq_zero h
     unfold Q2u at hr
     rw[this] at hr
     simp at hr
   · exact h
  obtain⟨m,hm⟩:∃m,IntKind.u64.wrap n=m:=⟨_,rfl⟩
  have hm0:0≤m:=by rw[←hm,IntKind.wrap_u64];exact Int.emod_nonneg _ (by decide)
  obtain⟨k,hk⟩:∃k:Nat,m.tmod (c.ph.length:Int)=(k:Int):=⟨(m.tmod c.ph.length).toNat,(Int.toNat_of_nonneg (Int.tmod_nonneg _ hm0)).symm⟩
  have hkl:k<c.ph.length:=by
   have:=Int.tmod_lt_of_pos m (show(0:Int)<c.ph.length by omega)
   rw[hk] at this
   omega
  have g5:((c.ph.length:Int)=0)=False:=eq_false (by omega)
  obtain⟨p,hp⟩:∃p,c.ph[k]? = some p:=⟨_,List.getElem?_eq_getElem hkl⟩
  have k3:=X6f k c.ph p hp
  have kf:=fun L h=>X0y k c.ph p L hp h
  have f3:=fk k
  have ex:Q2y k c.ph=raE p.tr:=by unfold Q2y;rw[hp]
  rw[ex] at f3
  have da:=delA_row c.cd a (by have:=hc.2.2.1;omega)
  have pl:p.tr.length≤1000:=(hc.2.1.2 p (List.mem_of_getElem? hp)).2.1
  obtain⟨d,hd⟩:∃d:Cs,d=⟨c.snd,c.ph.set k {p with tr:=p.tr.map unE},Q1s (fun b=>b==a) c.cd⟩:=⟨_,rfl⟩
  have hun:unC' c d a:=by rw[hd];exact⟨rfl,rfl,X7w c.ph k p hp⟩
  have hdo:d.ok:=by
   rw[hd]
   refine⟨hc.1,⟨by rw[List.length_set];exact hc.2.1.1,fun q hq=>?_⟩,?_,fun b hb=>hc.2.2.2 b (List.mem_filter.1 hb).1⟩
   · rcases List.mem_or_eq_of_mem_set hq with h|h
     · exact hc.2.1.2 q h
     · have po:=hc.2.1.2 p (List.mem_of_getElem? hp)
       rw[h]
       refine⟨po.1,by dsimp only;rw[List.length_map];exact pl,fun e he=>?_⟩
       obtain⟨f,hf,rfl⟩:=List.mem_map.1 he
       have fo:=po.2.2 f hf
       unfold unE
       split
       · exact⟨show 0<WW by decide,show 0<WW by decide,show([]:List Nat).length≤1000 by decide,fun b hb=>(by cases hb),fo.2.2.2.2.1,⟨show(0:Int)≤0 by decide,show(0:Int)≤18446744073709551615 by decide⟩⟩
       · exact fo
   · exact Nat.le_trans (Q5t _ _) hc.2.2.1
  have hdc:=case_un hun hr
  have bd:=Z1e d hdo hdc
  have hbd:=fun b hb=>broken_un hun hr b hb
  have bl1:(brkC c).length≤1000000:=X9t hc
  have bl2:(brkC d).length≤1000000:=X9t hdo
  have hno:Cs.ok ⟨d.snd,d.ph.map noT,d.cd⟩:=⟨hdo.1,⟨by rw[List.length_map];exact hdo.2.1.1,fun q hq=>by
   obtain⟨p',hp',rfl⟩:=List.mem_map.1 hq
   exact⟨(hdo.2.1.2 p' hp').1,by show([]:List Ev).length≤1000;decide,fun e he=>by cases he⟩⟩,hdo.2.2⟩
  have ho:=X3j _ hno
  have fo:=Q8k _ hno
  rw[noT_holds hdc] at ho
  rw[noT_for hdc] at fo
  have tf:=X1r false (c.ph.flatMap Ph.tr) hal (X9z hc)
  have f4:=Q8k c hc
  have ffl:=for_len hc
  have fs:=fun s hs=>for_spec hc hr (by omega) s hs
  have ow:=fun s hs=>own_fn c hc s hs
  have fso:∀s∈Q3b c,s.ok:=fun s hs=>by
   have h:=(fs s hs).1
   have o:=Q4c (X9z hc) [2,3]
   exact o s (((Q3o _ o).2 s).1 h)
  have tso:∀s∈canS (Q3e [2,3] (c.ph.flatMap Ph.tr)),s.ok:=fun s hs=>by
   have o:=Q4c (X9z hc) [2,3]
   exact o s (((Q3o _ o).2 s).1 hs)
  have tsl:(canS (Q3e [2,3] (c.ph.flatMap Ph.tr))).length≤1000000:=by
   have h1:=Q9n (Q3e [2,3] (c.ph.flatMap Ph.tr))
   have h2:=Q7j [2,3] (c.ph.flatMap Ph.tr)
   omega
  have cl:=Q8n k c.ph
  have cr:=fun d h=>Q5f k c.ph d h
  have cn:=fun ρ h=>Q8m k c.ph ρ h
  have ci:=fun N h=>X0w k c.ph N h
  have e1:k*4+3<(Q1j k c.ph).length:=by rw[cl];omega
  clear hr hp hc hdo hdc hun fk hno hpos
  generalize p.tr=L at *
  generalize brkC c=B1 at *
  generalize brkC d=B2 at *
  generalize Q3b c=F at *
  generalize canS (Q3e [2,3] (c.ph.flatMap Ph.tr))=TT at *
  generalize hcs:Q1j k c.ph=cs at *
  (refine Q0v Tryz.func5 rfl (by rfl) ?_;simp only[Tryz.ntmps5,List.length_cons,List.length_nil,Nat.reduceAdd,Nat.reduceSub,List.replicate,List.cons_append,List.nil_append])
  (repeat(any_goals(first|((with_reducible refine Q0n ?_ ?_ ?_);rfl;rfl;intro K hK;((first|(apply Q0j (X7v);rfl;rfl;rfl;rfl;exact Tryz.func8)|(apply Q0j (fv);rfl;rfl;rfl;rfl;exact Tryz.func9)|(apply Q0j (ck);rfl;rfl;rfl;rfl;exact Tryz.func16));kernel_rfl;rfl;(focus((simp only[go_sem]);(try rfl);done));(first|rfl));(simp only[go_sem];refine hK _ ?_;clear hK K))|((with_reducible refine Q0b ?_ ?_);rfl;intro K hK;simp only[go_sem];((repeat(refine ndI (by first|assumption) ?_));refine hK _ ?_;clear hK K))|(with_reducible first|(refine Q0c ?_;refine hR _ ?_;clear hR R)|((first|refine Q0d ?_);intro J hJ hJ')|(refine Q0a ?_;intro R hR)|(refine hJ _ ?_;clear hJ hJ' J)|refine Q0i ?_)|((with_reducible apply Q0e);rfl;rfl;all_goals(intro hc;first|(cases hc;done)|(try simp only at hc))))))
  have w1:∀d,AV.refsL d (raA c.cd)=false:=fun d=>Q0l d _
  have w2:∀d,AV.refsL d (raE L)=false:=fun d=>Q0l d _
  have w3:∀d,AV.refsL d (raA (Q1s (fun b=>b==a) c.cd))=false:=fun d=>Q0l d _
  have w4:∀ρ,AV.renL ρ (raA c.cd)=raA c.cd:=fun d=>Q0m d _
  have w5:∀ρ,AV.renL ρ (raE L)=raE L:=fun d=>Q0m d _
  have w6:∀ρ,AV.renL ρ (raA (Q1s (fun b=>b==a) c.cd))=raA (Q1s (fun b=>b==a) c.cd):=fun d=>Q0m d _
  have w7:∀N,AV.inNL N (raA c.cd)=true:=fun d=>Q0p d _
  have w8:∀N,AV.inNL N (raE L)=true:=fun d=>Q0p d _
  have ci1:AV.inNL [600,601,700] cs=true:=ci _ rfl
  have cn1:AV.renL (fun r=>r) cs=cs:=cn _ rfl
  have w9:∀N,AV.inNL N (raA (Q1s (fun b=>b==a) c.cd))=true:=fun d=>Q0p d _
  (repeat(any_goals(first|((with_reducible refine Q0n ?_ ?_ ?_);rfl;rfl;intro K hK;(first|((apply Q0j (br);rfl;rfl;rfl;rfl;exact Tryz.func22);kernel_rfl;rfl;(focus((simp(disch:=omega) only[go_sem,w1,w2,w3,w4,w5,w6,w7,w8,w9,cr,cn1,ci1,hm,hk,g5,wrU,wrI,e1,k3,cl]);(try rfl);done));(first|rfl))|(apply Q0s (f3) (fun r=>r);rfl;rfl;rfl;rfl;exact Tryz.func9;kernel_rfl;rfl;rfl;(intro r hr q hq h;simp(disch:=omega) only[List.map_cons,List.map_nil,List.cons_append,List.nil_append,List.mem_cons,List.not_mem_nil,or_false] at hr hq;(try dsimp only at h);first|omega);(simp(disch:=omega) only[Q0w,Q1k,AV.ren,AV.renL,Q0m,List.mem_cons,List.not_mem_nil,forall_eq_or_imp,forall_eq,Q1g,List.contains_cons,List.contains_nil,AV.refsL,AV.refs,Q0l,AV.inN,AV.inNL,inH,Q0p,go_sem,w1,w2,w3,w4,w5,w6,w7,w8,w9,cr,cn1,ci1,hm,hk,g5,wrU,wrI,e1,k3,cl]))|(apply Q0s (da) (fun r=>if r=1000 then 601 else if r=1001 then 4 else r);rfl;rfl;rfl;rfl;exact Tryz.func23;kernel_rfl;rfl;rfl;(intro r hr q hq h;simp(disch:=omega) only[List.map_cons,List.map_nil,List.cons_append,List.nil_append,List.mem_cons,List.not_mem_nil,or_false] at hr hq;(try dsimp only at h);first|(rcases hr with rfl|rfl|rfl<;>rcases hq with rfl|rfl|rfl<;>simp at h ⊢));(simp(disch:=omega) only[Q0w,Q1k,AV.ren,AV.renL,Q0m,List.mem_cons,List.not_mem_nil,forall_eq_or_imp,forall_eq,Q1g,List.contains_cons,List.contains_nil,AV.refsL,AV.refs,Q0l,AV.inN,AV.inNL,inH,Q0p,go_sem,w1,w2,w3,w4,w5,w6,w7,w8,w9,cr,cn1,ci1,hm,hk,g5,wrU,wrI,e1,k3,cl])));(simp(disch:=omega) only[Q0r,Q1h,renH,AV.ren,AV.renL,Q0m,go_sem,w1,w2,w3,w4,w5,w6,w7,w8,w9,cr,cn1,ci1,hm,hk,g5,wrU,wrI,e1,k3,cl];refine hK _ ?_;clear hK K))|((with_reducible refine Q0b ?_ ?_);rfl;intro K hK;simp(disch:=omega) only[go_sem,w1,w2,w3,w4,w5,w6,w7,w8,w9,cr,cn1,ci1,hm,hk,g5,wrU,wrI,e1,k3,cl];((repeat(refine ndI (by first|assumption|rfl) ?_));refine hK _ ?_;clear hK K))|(with_reducible first|(refine Q0c ?_;refine hR _ ?_;clear hR R)|((first|refine Q0d ?_|refine Q0g ?_);intro J hJ hJ')|(refine Q0a ?_;intro R hR)|(refine hJ _ ?_;clear hJ hJ' J))|((with_reducible refine Q0z ?_ ?_);(apply Q2e);(focus(repeat(first|exact Sims.nil|((apply Sims.cons);(focus(first|exact Ef.sim_refl _))))));kernel_rfl;(with_reducible refine hR _ ?_);clear hR R)|(((with_reducible apply Q0x);rfl;rfl;(simp(disch:=omega) only[rdE,rdOf,go_sem,w1,w2,w3,w4,w5,w6,w7,w8,w9,cr,cn1,ci1,hm,hk,g5,wrU,wrI,e1,k3,cl];rfl);(intro τ hA hQ hN;((try simp only[Q1o,Op.operands,Call.operands,go_sem,w1,w2,w3,w4,w5,w6,w7,w8,w9,cr,cn1,ci1,hm,hk,g5,wrU,wrI,e1,k3,cl,go_sem,List.mem_cons,List.not_mem_nil,forall_eq_or_imp,forall_eq,List.append_toArray,Option.toArray] at hA);(try simp only[go_sem,w1,w2,w3,w4,w5,w6,w7,w8,w9,cr,cn1,ci1,hm,hk,g5,wrU,wrI,e1,k3,cl,List.mem_cons,List.not_mem_nil,forall_eq_or_imp,forall_eq] at hQ hN);(first|(revert hA;intro hA));(first|(revert hQ;intro hQ));(first|(revert hN;intro hN));simp(disch:=omega) only[go_sem,w1,w2,w3,w4,w5,w6,w7,w8,w9,cr,cn1,ci1,hm,hk,g5,wrU,wrI,e1,k3,cl,go_sem,hA,hQ,hN];(repeat(refine ndI (by first|assumption|omega|rfl) ?_));(first|apply Q1f))));(simp(disch:=omega) only[St.eff,setO,Q0r,go_sem,w1,w2,w3,w4,w5,w6,w7,w8,w9,cr,cn1,ci1,hm,hk,g5,wrU,wrI,e1,k3,cl]))|((with_reducible refine Q0y ?_ ?_ ?_ ?_);kernel_rfl;kernel_rfl;(simp[Q2c,Q6y,St.free,Q1z,AV.refsL,AV.refs,cr,w1,w2,w3]);intro R hR))))
  have la:((L.map unE).flatMap Ev.pv).length=L.length*14:=by rw[Q0o Q7x,List.length_map]
  clear fv f3 da ck g5 hm hm0 hk
  refine Q3y L.length (fun i=>ls0 c B1 k c.ph.length (Q1s (fun b=>b==a) c.cd).length cs (raA (Q1s (fun b=>b==a) c.cd)) (raE ((L.take i).map unE++L.drop i)) L.length i) (St.to.of_le (St.le_of (by simp[leT]) (by simp[leH,hget]))) ?_
  intro i hi J hJ hJ'
  (try dsimp only at hJ ⊢)
  rcases Nat.lt_or_ge i L.length with hlt|hge
  · obtain⟨e,he⟩:∃e,L[i]? = some e:=⟨L[i],List.getElem?_eq_getElem hlt⟩
    have c1:(decide ((i:Int)<(L.length:Int)))=true:=by simpa using hlt
    have c7:(i:Int)+1=((i+1:Nat):Int):=by omega
    have hA:((L.take i).map unE).length=i:=by rw[List.length_map,List.length_take];omega
    have d1:L.drop i=e::L.drop (i+1):=by
     rw[List.drop_eq_getElem_cons hlt]
     congr 1
     exact(List.getElem?_eq_some_iff.1 he).2
    have d2:(L.take (i+1)).map unE++L.drop (i+1)=(L.take i).map unE++unE e::L.drop (i+1):=by
     rw[List.take_add_one,he,List.map_append];simp
    have fin:∀σ':St,σ'.to (ls0 c B1 k c.ph.length (Q1s (fun b=>b==a) c.cd).length cs (raA (Q1s (fun b=>b==a) c.cd)) (raE ((L.take (i+1)).map unE++L.drop (i+1))) L.length (i+1))→J .normal σ':=fun σ' h=>hJ σ' hlt h
    rw[d2] at fin
    rw[d1]
    have u5:=Q5p ((L.take i).map unE++e::L.drop (i+1))
    have u6:i*14+14≤(raE ((L.take i).map unE++e::L.drop (i+1))).length:=by rw[u5,List.length_append,List.length_cons];omega
    generalize (L.take i).map unE=A at hA fin u5 u6 ⊢
    generalize L.drop (i+1)=B at fin u5 u6 ⊢
    obtain⟨u1,u2,u3⟩:=ecells (B:=B) (y:=e) hA
    have u4:=spl_ev (B:=B) (y:=e) hA (c14 6 e.dep e.self 0 241 0 0 0 0 0 0 0 0 nilA) rfl
    have x1:∀d,AV.refsL d (raE (A++e::B))=false:=fun d=>Q0l d _
    have x2:∀d,AV.refsL d (raE A)=false:=fun d=>Q0l d _
    have x3:∀d,AV.refsL d (raE B)=false:=fun d=>Q0l d _
    by_cases hk1:e.kind=1
    · have b1:(e.kind==1)=true:=by rw[hk1];rfl
      have eu:unE e=⟨6,e.dep,e.self,0,241,0,0,[]⟩:=if_pos hk1
      rw[eu] at fin
      (repeat(any_goals(first|((with_reducible refine Q0b ?_ ?_);rfl;intro K hK;simp(disch:=omega) only[go_sem,c1,c7,k3,u1,u2,u3,u4,u6,b1,cr,w3,x1,wrI];((repeat(refine ndI (by first|assumption|omega|rfl) ?_));refine hK _ ?_;clear hK K))|(with_reducible first|(refine Q0c ?_;refine hR _ ?_;clear hR R)|((first|refine Q0d ?_|refine Q0g ?_);intro J hJ hJ')|(refine Q0a ?_;intro R hR)|(refine hJ _ ?_;clear hJ hJ' J)|refine Q0i ?_)|((with_reducible refine hJ' _ _ ?_ ?_);(focus(simp;done));clear hJ hJ' J)|((with_reducible apply Q0e);rfl;rfl;all_goals(intro hc;first|(cases hc;done)|(try simp only at hc)))|((with_reducible refine Q0z ?_ ?_);(apply Q2e);(focus(repeat(first|exact Sims.nil|((apply Sims.cons);(focus(first|exact Ef.sim_refl _))))));kernel_rfl;(with_reducible refine hR _ ?_);clear hR R)|(((with_reducible apply Q0x);rfl;rfl;(simp(disch:=omega) only[rdE,rdOf,go_sem,c1,c7,k3,u1,u2,u3,u4,u6,b1,cr,w3,x1,wrI];rfl);(intro τ hA hQ hN;((try simp only[Q1o,Op.operands,Call.operands,go_sem,c1,c7,k3,u1,u2,u3,u4,u6,b1,cr,w3,x1,wrI,go_sem,List.mem_cons,List.not_mem_nil,forall_eq_or_imp,forall_eq,List.append_toArray,Option.toArray] at hA);(try simp only[go_sem,c1,c7,k3,u1,u2,u3,u4,u6,b1,cr,w3,x1,wrI,List.mem_cons,List.not_mem_nil,forall_eq_or_imp,forall_eq] at hQ hN);(first|(revert hA;intro hA));(first|(revert hQ;intro hQ));(first|(revert hN;intro hN));simp(disch:=omega) only[go_sem,c1,c7,k3,u1,u2,u3,u4,u6,b1,cr,w3,x1,wrI,go_sem,hA,hQ,hN];(repeat(refine ndI (by first|assumption|omega|rfl) ?_));(first|apply Q1f|apply Q6m))));(simp(disch:=omega) only[St.eff,setO,Q0r,go_sem,c1,c7,k3,u1,u2,u3,u4,u6,b1,cr,w3,x1,wrI]))|((with_reducible refine Q0y ?_ ?_ ?_ ?_);kernel_rfl;kernel_rfl;(simp[Q2c,Q6y,St.free,Q1z,AV.refsL,AV.refs,cr,w3,x1]);intro R hR))))
      all_goals refine fin _ (St.to.trans (St.to.of_le (St.le_of (by simp[leT]) (by simp[leH,hget]))) (ls0_nil c B1 k c.ph.length (Q1s (fun b=>b==a) c.cd).length cs (raA (Q1s (fun b=>b==a) c.cd)) L.length (i+1) A B e.dep e.self))
    · have b1:(e.kind==1)=false:=by simpa using hk1
      have eu:unE e=e:=if_neg hk1
      rw[eu] at fin
      (repeat(any_goals(first|((with_reducible refine Q0b ?_ ?_);rfl;intro K hK;simp(disch:=omega) only[go_sem,c1,c7,k3,u1,u2,u3,u6,b1,cr,w3,x1,wrI];((repeat(refine ndI (by first|assumption|omega|rfl) ?_));refine hK _ ?_;clear hK K))|(with_reducible first|(refine Q0c ?_;refine hR _ ?_;clear hR R)|((first|refine Q0d ?_|refine Q0g ?_);intro J hJ hJ')|(refine Q0a ?_;intro R hR)|(refine hJ _ ?_;clear hJ hJ' J)|refine Q0i ?_)|((with_reducible refine hJ' _ _ ?_ ?_);(focus(simp;done));clear hJ hJ' J)|((with_reducible apply Q0e);rfl;rfl;all_goals(intro hc;first|(cases hc;done)|(try simp only at hc))))))
      all_goals exact fin _ (St.to.of_le (St.le_of (by simp[leT]) (by simp[leH,hget])))
  have c1:(decide ((i:Int)<(L.length:Int)))=false:=by simpa using hge
  rw[List.take_of_length_le hge,List.drop_eq_nil_of_le hge,List.append_nil]
  have x1:∀d,AV.refsL d (raE (L.map unE))=false:=fun d=>Q0l d _
  (repeat(any_goals(first|((with_reducible refine Q0b ?_ ?_);rfl;intro K hK;simp(disch:=omega) only[go_sem,c1,cr,w3,x1];((repeat(refine ndI (by first|assumption|rfl) ?_));refine hK _ ?_;clear hK K))|(with_reducible first|(refine Q0c ?_;refine hR _ ?_;clear hR R)|((first|refine Q0d ?_);intro J hJ hJ')|(refine Q0a ?_;intro R hR)|(refine hJ _ ?_;clear hJ hJ' J)|refine Q0t ?_)|((with_reducible refine hJ' _ _ ?_ ?_);(focus(simp;done));clear hJ hJ' J)|((with_reducible apply Q0e);rfl;rfl;all_goals(intro hc;first|(cases hc;done)|(try simp only at hc))))))
  have kf1:=kf (L.map unE) (List.length_map _)
  have lP:(c.ph.set k {p with tr:=L.map unE}).length=c.ph.length:=List.length_set
  change AV.frzL 700 ((L.map unE).flatMap Ev.pv) cs=raP (c.ph.set k {p with tr:=L.map unE}) at kf1
  obtain⟨P,hP⟩:∃P,c.ph.set k {p with tr:=L.map unE}=P:=⟨_,rfl⟩
  obtain⟨D,hD⟩:∃D,Q1s (fun b=>b==a) c.cd=D:=⟨_,rfl⟩
  rw[hP] at kf1 lP hd
  rw[hD] at hd
  rw[hD]
  have lD:(D.flatMap apv).length=D.length:=by rw[Q0o Q3r,Nat.mul_one]
  dsimp only[lsH]
  refine X2d rfl (St.to.frz 700 (pcs:=(L.map unE).flatMap Ev.pv) rfl) ?_
  simp only[St.frz,AV.frz,AV.frzL,frzH,Q3l,if_true,eq_self,↓reduceIte,kf1,Nat.reduceEqDiff,if_false,reduceCtorEq]
  refine X2d rfl (St.to.frz 601 (pcs:=D.flatMap apv) rfl) ?_
  simp only[St.frz,AV.frz,AV.frzL,frzH,Q3l,if_true,eq_self,↓reduceIte,lD,Nat.mul_one,Nat.reduceEqDiff,if_false,reduceCtorEq]
  clear c1 x1 cr k3 cl cn ci e1 ci1 cn1 kf kf1 w1 w2 w3 w4 w5 w6 w7 w8 w9 hcs
  subst hd
  dsimp only at ho fo bd
  have p1:unC (raP P)=some (P.flatMap Ph.pv):=unC_map _
  have p2:(P.flatMap Ph.pv).length=P.length*4:=Q0o Q6k _
  have p4:∀d,AV.refsL d (raP P)=false:=fun d=>Q0l d _
  have hl5:=hl4
  rw[←lP] at hl4
  with_reducible refine Q2t ?_ ?_
  · rfl
  intro K hK
  refine X3b (d:=93) bd (fun x hx=>raB_v hx) rfl rfl rfl rfl Tryz.func22 (by kernel_rfl) rfl ?_ ?_ (by decide) ?_
  · simp[AV.viewL,AV.view,Q3z,St.ev,hget,p1,p2,lP]
  · simp[St.free,Q1z,AV.refs,AV.refsL,p4]
  simp only[go_sem]
  refine hK _ ?_
  clear hK K
  have b2:(B2.flatMap Bk.pv).length=B2.length*3:=Q0o X9v _
  refine X2d rfl (St.to.frz 93 (pcs:=B2.flatMap Bk.pv) rfl) ?_
  simp only[St.frz,AV.frz,AV.frzL,frzH,Q3l,if_true,eq_self,↓reduceIte,b2,Nat.reduceEqDiff,if_false,reduceCtorEq]
  (repeat(any_goals(first|((with_reducible refine Q0b ?_ ?_);rfl;intro K hK;simp(disch:=omega) only[go_sem,p4];((repeat(refine ndI (by first|assumption|rfl) ?_));refine hK _ ?_;clear hK K))|(with_reducible first|(refine Q0c ?_;refine hR _ ?_;clear hR R)|((first|refine Q0d ?_|refine Q0g ?_);intro J hJ hJ')|(refine Q0a ?_;intro R hR)|(refine hJ _ ?_;clear hJ hJ' J)))))
  refine Q3y B1.length (fun i=>ls2 c B1 B2 P D i) (St.to.of_le (St.le_of (by simp[leT]) (by simp[leH,hget,lP]))) ?_
  intro i hi J hJ hJ'
  (try dsimp only at hJ ⊢)
  rcases Nat.lt_or_ge i B1.length with hlt|hge
  · obtain⟨b,hb⟩:∃b,B1[i]? = some b:=⟨B1[i],List.getElem?_eq_getElem hlt⟩
    have c1:(decide ((i:Int)<(B1.length:Int)))=true:=by simpa using hlt
    have c2:=bk_at hb
    have c7:(i:Int)+1=((i+1:Nat):Int):=by omega
    have hs:=hasBl_fn false B2 b bl2
    rw[hbd b (List.mem_of_getElem? hb)] at hs
    (repeat(any_goals(first|((with_reducible refine Q0n ?_ ?_ ?_);rfl;rfl;intro K hK;(apply Q0s (hs) (fun r=>if r=1001 then 14 else r);rfl;rfl;rfl;rfl;exact Tryz.func25;kernel_rfl;rfl;rfl;(intro r hr q hq h;simp(disch:=omega) only[List.map_cons,List.map_nil,List.cons_append,List.nil_append,List.mem_cons,List.not_mem_nil,or_false] at hr hq;(try dsimp only at h);first|omega);(simp(disch:=omega) only[Q0w,Q1k,AV.ren,AV.renL,Q0m,List.mem_cons,List.not_mem_nil,forall_eq_or_imp,forall_eq,Q1g,List.contains_cons,List.contains_nil,AV.refsL,AV.refs,Q0l,AV.inN,AV.inNL,inH,Q0p,go_sem,c1,c2,c7,p4,wrI]));(simp(disch:=omega) only[Q0r,Q1h,renH,AV.ren,AV.renL,Q0m,go_sem,c1,c2,c7,p4,wrI];refine hK _ ?_;clear hK K))|((with_reducible refine Q0b ?_ ?_);rfl;intro K hK;simp(disch:=omega) only[go_sem,c1,c2,c7,p4,wrI];((repeat(refine ndI (by first|assumption|omega|rfl) ?_));refine hK _ ?_;clear hK K))|(with_reducible first|(refine Q0c ?_;refine hR _ ?_;clear hR R)|((first|refine Q0d ?_|refine Q0g ?_);intro J hJ hJ')|(refine Q0a ?_;intro R hR)|(refine hJ _ ?_;clear hJ hJ' J)|refine Q0i ?_)|((with_reducible refine hJ' _ _ ?_ ?_);(focus(simp;done));clear hJ hJ' J)|((with_reducible apply Q0e);rfl;rfl;all_goals(intro hc;first|(cases hc;done)|(try simp only at hc))))))
    all_goals exact hJ _ hlt (St.to.of_le (St.le_of (by simp[leT]) (by simp[leH,hget])))
  have c1:(decide ((i:Int)<(B1.length:Int)))=false:=by simpa using hge
  (repeat(any_goals(first|((with_reducible refine Q0b ?_ ?_);rfl;intro K hK;simp(disch:=omega) only[go_sem,c1,p4];((repeat(refine ndI (by first|assumption|rfl) ?_));refine hK _ ?_;clear hK K))|(with_reducible first|(refine Q0c ?_;refine hR _ ?_;clear hR R)|((first|refine Q0d ?_|refine Q0g ?_);intro J hJ hJ')|(refine Q0a ?_;intro R hR)|(refine hJ _ ?_;clear hJ hJ' J)|refine Q0t ?_)|((with_reducible refine hJ' _ _ ?_ ?_);(focus(simp;done));clear hJ hJ' J)|((with_reducible apply Q0e);rfl;rfl;all_goals(intro hc;first|(cases hc;done)|(try simp only at hc))))))
  clear hge hi hbd br bd
  have hpos:0<P.length:=by omega
  refine Q3y P.length (fun i=>if i<P.length then ls4 c P.length ((P.take i).map noT++P.drop i) D i else ls5 c P.length (P.map noT) D i) ?_ ?_
  · rw[if_pos hpos]
    exact St.to.of_le (St.le_of (by simp[leT]) (by simp[leH,hget]))
  intro i hi J hJ hJ'
  (try dsimp only at hJ ⊢)
  rcases Nat.lt_or_ge i P.length with hlt|hge
  · obtain⟨y,hy⟩:∃y,P[i]? = some y:=⟨_,List.getElem?_eq_getElem hlt⟩
    have c1:(decide ((i:Int)<(P.length:Int)))=true:=by simpa using hlt
    have c7:(i:Int)+1=((i+1:Nat):Int):=by omega
    rw[if_pos hlt]
    have hA:((P.take i).map noT).length=i:=by rw[List.length_map,List.length_take];omega
    have d1:P.drop i=y::P.drop (i+1):=by
     rw[List.drop_eq_getElem_cons hlt]
     congr 1
     exact(List.getElem?_eq_some_iff.1 hy).2
    have d2:(P.take (i+1)).map noT++P.drop (i+1)=(P.take i).map noT++noT y::P.drop (i+1):=by
     rw[List.take_add_one,hy,List.map_append];simp
    have fin:∀σ':St,σ'.to (ls4 c P.length ((P.take (i+1)).map noT++P.drop (i+1)) D (i+1))→J .normal σ':=fun σ' h=>hJ σ' hlt (by
     by_cases hl:i+1<P.length
     · rw[if_pos hl];exact h
     · have ej:i+1=P.length:=by omega
       rw[if_neg hl]
       rw[ej,List.take_length,List.drop_length,List.append_nil] at h
       rw[ej]
       exact h.trans (ls4_frz c P.length (P.map noT) D P.length (List.length_map _)))
    rw[d2] at fin
    rw[d1]
    have u5:=raP_len ((P.take i).map noT++y::P.drop (i+1))
    have u6:i*4+3<(raP ((P.take i).map noT++y::P.drop (i+1))).length:=by rw[u5,List.length_append,List.length_cons];omega
    generalize (P.take i).map noT=A at hA fin u5 u6 ⊢
    generalize P.drop (i+1)=B at fin u5 u6 ⊢
    have u1:=spl_tr (B:=B) (y:=y) hA nilA
    dsimp only[ls4]
    have x1:∀d,AV.refsL d (raP (A++y::B))=false:=fun d=>Q0l d _
    (repeat(any_goals(first|((with_reducible refine Q0b ?_ ?_);rfl;intro K hK;simp(disch:=omega) only[go_sem,c1,c7,u1,u6,x1,wrI];((repeat(refine ndI (by first|assumption|omega|rfl) ?_));refine hK _ ?_;clear hK K))|(with_reducible first|(refine Q0c ?_;refine hR _ ?_;clear hR R)|((first|refine Q0d ?_|refine Q0g ?_);intro J hJ hJ')|(refine Q0a ?_;intro R hR)|(refine hJ _ ?_;clear hJ hJ' J)|refine Q0i ?_)|((with_reducible refine hJ' _ _ ?_ ?_);(focus(simp;done));clear hJ hJ' J)|((with_reducible apply Q0e);rfl;rfl;all_goals(intro hc;first|(cases hc;done)|(try simp only at hc))))))
    all_goals exact fin _ (St.to.trans (St.to.of_le (St.le_of (by simp[leT]) (by simp[leH,hget]))) (ls4_nil c P.length A B y D i (i+1)))
  have c1:(decide ((i:Int)<(P.length:Int)))=false:=by simpa using hge
  rw[if_neg (by omega)]
  clear lP hpos hge hi p1 p2 p4
  generalize P.map noT=Q at ho fo ⊢
  generalize X0k ⟨c.snd,Q,D⟩=hb0 at ho
  dsimp only[ls5]
  (repeat(any_goals(first|((with_reducible refine Q0n ?_ ?_ ?_);rfl;rfl;intro K hK;((first|(apply Q0j (ho);rfl;rfl;rfl;rfl;exact Tryz.func27));kernel_rfl;rfl;(focus((simp(disch:=omega) only[go_sem,c1]);(try rfl);done));(first|rfl));(simp(disch:=omega) only[go_sem,c1];refine hK _ ?_;clear hK K))|((with_reducible refine Q0b ?_ ?_);rfl;intro K hK;simp(disch:=omega) only[go_sem,c1];((repeat(refine ndI (by first|assumption|rfl) ?_));refine hK _ ?_;clear hK K))|(with_reducible first|(refine Q0c ?_;refine hR _ ?_;clear hR R)|((first|refine Q0d ?_|refine Q0g ?_);intro J hJ hJ')|(refine Q0a ?_;intro R hR)|(refine hJ _ ?_;clear hJ hJ' J)|refine Q0i ?_|refine Q0t ?_)|((with_reducible refine hJ' _ _ ?_ ?_);(focus(simp;done));clear hJ hJ' J)|((with_reducible apply Q1a);rfl;rfl;rfl;all_goals(intro hb;first|(cases hb;done)|((try simp only[Bool.not_true,Bool.not_false] at hb);(first|((with_reducible intro K hK);(first|((apply Q0j (fo);rfl;rfl;rfl;rfl;exact Tryz.func13);kernel_rfl;rfl;(focus((simp(disch:=omega) only[go_sem,c1]);(try rfl);done));(first|rfl))|skip);simp(disch:=omega) only[go_sem,c1];((repeat(refine ndI (by first|assumption|rfl) ?_));refine hK _ ?_;clear hK K))))))|((with_reducible apply Q0e);rfl;rfl;all_goals(intro hc;first|(cases hc;done)|(try simp only at hc))))))
  clear ho fo c1
  refine Q3y c.ph.length (fun i=>if i<c.ph.length then ls6 c 500 ((c.ph.take i).flatMap Ph.tr) i else ls7 c (c.ph.flatMap Ph.tr) i) ?_ ?_
  · rw[if_pos (by omega)]
    exact St.to.trans (St.to.nilrow 18 500 evT 14 rfl (by simp) (by simp[St.free,Q1z,AV.refsL,AV.refs]) (by decide)) (St.to.of_le (St.le_of (by simp[leT]) (by simp[leH,hget,hput])))
  intro i hi J hJ hJ'
  (try dsimp only at hJ ⊢)
  rcases Nat.lt_or_ge i c.ph.length with hlt|hge
  · obtain⟨y,hy⟩:∃y,c.ph[i]? = some y:=⟨_,List.getElem?_eq_getElem hlt⟩
    have c1:(decide ((i:Int)<(c.ph.length:Int)))=true:=by simpa using hlt
    have c2:=X1j hy
    have c7:(i:Int)+1=((i+1:Nat):Int):=by omega
    rw[if_pos hlt]
    have d2:(c.ph.take (i+1)).flatMap Ph.tr=(c.ph.take i).flatMap Ph.tr++y.tr:=by
     rw[List.take_add_one,hy,List.flatMap_append];simp
    have b1:((c.ph.take i).flatMap Ph.tr).length+y.tr.length≤1000:=by
     have h:=congrArg List.length (congrArg (List.flatMap Ph.tr) (List.take_append_drop (i+1) c.ph))
     rw[List.flatMap_append,List.length_append,d2,List.length_append] at h
     omega
    have fin:∀σ':St,σ'.to (ls6 c 500 ((c.ph.take (i+1)).flatMap Ph.tr) (i+1))→J .normal σ':=fun σ' h=>hJ σ' hlt (by
     by_cases hl:i+1<c.ph.length
     · rw[if_pos hl];exact h
     · have ej:i+1=c.ph.length:=by omega
       rw[if_neg hl]
       rw[ej,List.take_length] at h
       rw[ej]
       exact h.trans (ls6_frz c _ _))
    rw[d2] at fin
    generalize (c.ph.take i).flatMap Ph.tr=out at b1 fin ⊢
    dsimp only[ls6]
    have x1:∀d,AV.refsL d (raE out)=false:=fun d=>Q0l d _
    have x2:=Q5p out
    have x3:(y.tr.flatMap Ev.pv).length=y.tr.length*14:=Q0o Q7x _
    have x4:((y.tr.flatMap Ev.pv).map AV.c).length=y.tr.length*14:=by rw[List.length_map,x3]
    (repeat(any_goals(first|((with_reducible refine Q0b ?_ ?_);rfl;intro K hK;simp(disch:=omega) only[go_sem,c1,c2,c7,x1,x2,x3,x4,Q0l,wrI];((repeat(refine ndI (by first|assumption|omega|rfl) ?_));refine hK _ ?_;clear hK K))|(with_reducible first|(refine Q0c ?_;refine hR _ ?_;clear hR R)|((first|refine Q0d ?_|refine Q0g ?_);intro J hJ hJ')|(refine Q0a ?_;intro R hR)|(refine hJ _ ?_;clear hJ hJ' J)|refine Q0i ?_)|((with_reducible refine hJ' _ _ ?_ ?_);(focus(simp;done));clear hJ hJ' J)|((with_reducible apply Q0e);rfl;rfl;all_goals(intro hc;first|(cases hc;done)|(try simp only at hc))))))
    all_goals exact fin _ (St.to.trans (St.to.of_le (τ:=ls6 c 140 (out++y.tr) (i+1)) (St.le_of (by simp[leT]) (by simp[leH,hget,raE]))) (ls6_rn c _ _))
  have c1:(decide ((i:Int)<(c.ph.length:Int)))=false:=by simpa using hge
  rw[if_neg (by omega)]
  dsimp only[ls7]
  (repeat(any_goals(first|((with_reducible refine Q0n ?_ ?_ ?_);rfl;rfl;intro K hK;((first|(apply Q0j (tf);rfl;rfl;rfl;rfl;exact Tryz.func28)|(apply Q0j (f4);rfl;rfl;rfl;rfl;exact Tryz.func13));kernel_rfl;rfl;(focus((simp(disch:=omega) only[go_sem,c1]);(try rfl);done));(first|rfl));(simp(disch:=omega) only[go_sem,c1];refine hK _ ?_;clear hK K))|((with_reducible refine Q0b ?_ ?_);rfl;intro K hK;simp(disch:=omega) only[go_sem,c1];((repeat(refine ndI (by first|assumption|rfl) ?_));refine hK _ ?_;clear hK K))|(with_reducible first|(refine Q0c ?_;refine hR _ ?_;clear hR R)|((first|refine Q0d ?_|refine Q0g ?_);intro J hJ hJ')|(refine Q0a ?_;intro R hR)|(refine hJ _ ?_;clear hJ hJ' J)|refine Q0t ?_)|((with_reducible refine hJ' _ _ ?_ ?_);(focus(simp;done));clear hJ hJ' J)|((with_reducible apply Q0e);rfl;rfl;all_goals(intro hc;first|(cases hc;done)|(try simp only at hc))))))
  clear hi hge c1 tf f4
  refine Q3y F.length (fun i=>ls8 c TT F i) (St.to.of_le (St.le_of (by simp[leT]) (by simp[leH,hget]))) ?_
  intro i hi J hJ hJ'
  (try dsimp only at hJ ⊢)
  rcases Nat.lt_or_ge i F.length with hlt|hge
  · obtain⟨s,hs⟩:∃s,F[i]? = some s:=⟨F[i],List.getElem?_eq_getElem hlt⟩
    have c1:(decide ((i:Int)<(F.length:Int)))=true:=by simpa using hlt
    have c2:=X6p hs
    have c7:(i:Int)+1=((i+1:Nat):Int):=by omega
    have hm:=List.mem_of_getElem? hs
    obtain⟨g1,g2,g3⟩:=fs s hm
    have cn:=X3y false TT s tsl tso (fso s hm)
    rw[decide_eq_true g1] at cn
    have on_:=ow s (fso s hm)
    rw[g2] at on_
    clear g1 g2 fs ow fso tso
    (repeat(any_goals(first|((with_reducible refine Q0n ?_ ?_ ?_);rfl;rfl;intro K hK;((first|(apply Q0j (cn);rfl;rfl;rfl;rfl;exact Tryz.func29));kernel_rfl;rfl;(focus((simp(disch:=omega) only[go_sem,c1,c2,c7,g3,wrI]);(try rfl);done));(first|rfl));(simp(disch:=omega) only[go_sem,c1,c2,c7,g3,wrI];refine hK _ ?_;clear hK K))|((with_reducible refine Q0b ?_ ?_);rfl;intro K hK;simp(disch:=omega) only[go_sem,c1,c2,c7,g3,wrI];((repeat(refine ndI (by first|assumption|omega|rfl) ?_));refine hK _ ?_;clear hK K))|(with_reducible first|(refine Q0c ?_;refine hR _ ?_;clear hR R)|((first|refine Q0d ?_|refine Q0g ?_);intro J hJ hJ')|(refine Q0a ?_;intro R hR)|(refine hJ _ ?_;clear hJ hJ' J)|refine Q0i ?_)|((with_reducible refine hJ' _ _ ?_ ?_);(focus(simp;done));clear hJ hJ' J)|((with_reducible apply Q1a);rfl;rfl;rfl;all_goals(intro hb;first|(cases hb;done)|((try simp only[Bool.not_true,Bool.not_false] at hb);(first|((with_reducible intro K hK);(first|((apply Q0j (on_);rfl;rfl;rfl;rfl;exact Tryz.func14);kernel_rfl;rfl;(focus((simp(disch:=omega) only[go_sem,c1,c2,c7,g3,wrI]);(try rfl);done));(first|rfl))|skip);simp(disch:=omega) only[go_sem,c1,c2,c7,g3,wrI];((repeat(refine ndI (by first|assumption|rfl) ?_));refine hK _ ?_;clear hK K))))))|((with_reducible apply Q0e);rfl;rfl;all_goals(intro hc;first|(cases hc;done)|(try simp only at hc))))))
    all_goals exact hJ _ hlt (St.to.of_le (St.le_of (by simp[leT]) (by simp[leH,hget])))
  have c1:(decide ((i:Int)<(F.length:Int)))=false:=by simpa using hge
  (repeat(any_goals(first|((with_reducible refine Q0b ?_ ?_);rfl;intro K hK;simp(disch:=omega) only[go_sem,c1];((repeat(refine ndI (by first|assumption|rfl) ?_));refine hK _ ?_;clear hK K))|(with_reducible first|(refine Q0c ?_;refine hR _ ?_;clear hR R)|((first|refine Q0d ?_);intro J hJ hJ')|(refine Q0a ?_;intro R hR)|(refine hJ _ ?_;clear hJ hJ' J)|refine Q0k ?_|refine Q0t ?_)|((with_reducible refine hJ' _ _ ?_ ?_);(focus(simp;done));clear hJ hJ' J)|((with_reducible apply Q0e);rfl;rfl;all_goals(intro hc;first|(cases hc;done)|(try simp only at hc))))))
  all_goals(refine⟨by simp,⟨_,?_,AV.le_refl _⟩,Q0h (by simp[leH,hget])⟩;simp only[Tryz.results5,resL,ldA,Q0q,go_sem])
end
section
open Go.RowKit Go.ChangeShapes Go.WideShapes Go.ChangeAt Go.Deep
section
variable {H:Type} {enc:TypeId×Value→H} {P:Program}
def Dec{α : Type}(P:Program)(t:TypeId)(sz:Nat)(f:α→List Value)(Good:α→Prop):Prop:=
 P.cellsOf t=sz∧∀(H:Type) (enc:TypeId×Value→H) (w:World) (base:Nat) (spare:Nat→Bool) (held:Bool) (fuel:Nat) (cs:List Value) (x:DataW H×List MemPlace),
  DataW.trod enc P w base spare held fuel t cs=some x→∃a,cs=f a∧Good a
theorem dec_int{t:TypeId}{k:IntKind}(ht:P.underlying t=some (.int k))(hc:P.cellsOf t=1):Dec P t 1 (fun n:Int=>[.int k n]) (fun n=>(Lit.int k n).wf=true):=
 ⟨hc,fun H enc w base spare held fuel cs x h=>by
   obtain⟨n,rfl,_,hw⟩:=DataW.trod_int ht h
   exact⟨n,rfl,hw⟩⟩
theorem dec_map{α β : Type}{t:TypeId}{sz:Nat}{f:α→List Value}{G:α→Prop}(h:Dec P t sz f G){f':β→List Value}{G':β→Prop}(hg:∀a,G a→∃b,f a=f' b∧G' b):Dec P t sz f' G':=
 ⟨h.1,fun H enc w base spare held fuel cs x hx=>by
   obtain⟨a,e,g⟩:=h.2 H enc w base spare held fuel cs x hx
   obtain⟨b,e',g'⟩:=hg a g
   exact⟨b,e.trans e',g'⟩⟩
theorem X7u{n:Int}(h:(Lit.int .u64 n).wf=true):0≤n∧n<18446744073709551616:=by
 simp[Lit.wf,IntKind.min,IntKind.max,IntKind.signed,IntKind.bits] at h;omega
theorem wf_u8{n:Int}(h:(Lit.int .u8 n).wf=true):0≤n∧n<256:=by
 simp[Lit.wf,IntKind.min,IntKind.max,IntKind.signed,IntKind.bits] at h;omega
theorem dec_u64{t:TypeId}(ht:P.underlying t=some (.int .u64))(hc:P.cellsOf t=1):Dec P t 1 (fun n:Nat=>[.int .u64 (n:Int)]) (fun n=>n<18446744073709551616):=
 dec_map (dec_int ht hc) fun n h=>⟨n.toNat,by have:=X7u h;rw[Int.toNat_of_nonneg (by omega)],by have:=X7u h;omega⟩
theorem Q7g{α : Type}{p:Nat→α→Prop}(n:Nat)(h:∀i,i<n→∃b,p i b):∃l:List α,l.length=n∧∀i b,l[i]? = some b→p i b:=by
 induction n with
 |zero=>exact⟨[],rfl,by simp⟩
 |succ k ih=>
  obtain⟨l,hl,hp⟩:=ih fun i hi=>h i (by omega)
  obtain⟨b,hb⟩:=h k (by omega)
  refine⟨l++[b],by simp[hl],fun i b' hib=>?_⟩
  rw[List.getElem?_append] at hib
  split at hib
  · exact hp i b' hib
  · have hi0:i=k:=by
     have:=(List.getElem?_eq_some_iff.1 hib).1
     simp at this;omega
    subst hi0
    rw[hl,Nat.sub_self] at hib
    simp at hib
    subst hib
    exact hb
theorem dec_arr{α : Type}{t e:TypeId}{n sz:Nat}{f:α→List Value}{G:α→Prop}(ht:P.underlying t=some (.array n e))(hc:P.cellsOf t=n*sz)(hs:0<sz)
 (he:Dec P e sz f G) (hf:∀a,(f a).length=sz):Dec P t (n*sz) (sts f) (fun l=>l.length=n∧∀a∈l,G a):=
 ⟨hc,fun H enc w base spare held fuel cs x hx=>by
   obtain⟨xs,m,_,_,hlen,hxl,hi⟩:=DataW.trod_array ht hx
   rw[hc] at hlen
   obtain⟨l,hl,hp⟩:=Q7g (p:=fun i b=>G b∧(cs.drop (i*sz)).take sz=f b) n fun i hin=>by
    have h1:=hi i hin
    rw[he.1,List.getElem?_eq_getElem (by omega)] at h1
    obtain⟨b,hb,hg⟩:=he.2 H enc w base spare held m _ _ h1
    exact⟨b,hg,hb⟩
   refine⟨l,?_,hl,fun a ha=>?_⟩
   · apply List.ext_getElem?
     intro j
     by_cases hj:j<n*sz
     · have hq:j/sz<n:=Nat.div_lt_of_lt_mul (by rw[Nat.mul_comm];exact hj)
       have hr:j%sz<sz:=Nat.mod_lt _ hs
       have hje:j=j/sz*sz+j%sz:=by rw[Nat.mul_comm];exact(Nat.div_add_mod j sz).symm
       have hk:l[j/sz]? = some (l[j/sz]'(by omega)):=List.getElem?_eq_getElem (by omega)
       have h1:=sts_get hf hk hr
       rw[←hje] at h1
       rw[h1,←(hp _ _ hk).2,List.getElem?_take,if_pos hr,List.getElem?_drop,←hje]
     · rw[List.getElem?_eq_none (by omega),List.getElem?_eq_none (by rw[Z0f f sz hf,hl];omega)]
   · obtain⟨i,hi'⟩:=List.mem_iff_getElem?.1 ha
     exact(hp i a hi').1⟩
theorem Q7i(hl:laidOutB P=true){W W':World}(hb:Below W.heap.size W W'):∀{ts:List TypeId} {vs:List Value} {ds:List (DataW H)} {ps:List MemPlace},
 (∀t∈ts,P.readableRec t=true∧t<P.types.size)→DataW.TrodAll enc P W 0 (fun _=>true) true ts vs ds ps→DataW.TrodAll enc P W' 0 (fun b=>decide (b<W.heap.size)) true ts vs ds ps
 |[],[],[],_,_,h=>h
 |t::ts,v::vs,d::ds,ps,hr,h=>by
  obtain⟨p,q,⟨m,hm⟩,hq,rfl⟩:=h
  have h1:=hr t (List.mem_cons_self ..)
  exact⟨p,q,Below.trod hl h1.1 h1.2 ⟨m,hm⟩ hb (fun x hx=>DataW.trod_lt m _ _ _ hm x hx),Q7i hl hb (fun t ht=>hr t (List.mem_cons_of_mem _ ht)) hq,rfl⟩
 |[],_::_,_,_,_,h=>h.elim
 |[],[],_::_,_,_,h=>h.elim
 |_::_,[],_,_,_,h=>h.elim
 |_::_,_::_,[],_,_,h=>h.elim
theorem Q8p:∀{w:World} {base:Nat} {spare:Nat→Bool} {held:Bool} {ts:List TypeId} {vs:List Value} {ds:List (DataW H)} {ps:List MemPlace},DataW.TrodAll enc P w base spare held ts vs ds ps→ds.length=ts.length
 |_,_,_,_,[],[],[],_,_=>rfl
 |_,_,_,_,t::ts,v::vs,d::ds,_,h=>by
  obtain⟨p,q,_,hq,_⟩:=h
  simp[Q8p hq]
 |_,_,_,_,[],_::_,_,_,h=>h.elim
 |_,_,_,_,[],[],_::_,_,h=>h.elim
 |_,_,_,_,_::_,[],_,_,h=>h.elim
 |_,_,_,_,_::_,_::_,[],_,h=>h.elim
theorem law_post{W:World}{args:Array Value}{ds gs:List (DataW H)}{before:List MemPlace}{fn:Func}{s:ChangeSpec}{f:Nat}{tb:TypeId}(hl:laidOutB P=true)(hvars:s.vars=[])(htb:P.underlying tb=some .bool)(hrt:fn.resultTypes = #[tb])
 (hr:∀t∈fn.params.toList,P.readableRec t=true∧t<P.types.size) (hfn:∀ds:List (DataW H),ds.length=fn.params.toList.length→s.fn H ds={results:=[.lit (.bool true)],args:=ds})
 (hW:DataW.Whole enc P fn.params.toList s.vars false W args.toList ds gs before) (hc:Calls P f args W (RetT W true)) :
 Calls P f args W fun e W'=>∃v,e = .returned v∧s.post enc P fn false true false false W args v W':=by
 refine hc.mono fun e W' h=>?_
 obtain⟨he,bel⟩:=h
 subst he
 have hW':=hW
 obtain⟨p,q,hA,hV,rfl,hfz,hnd⟩:=hW
 rw[hvars] at hV
 obtain⟨rfl,rfl⟩:=trodVars_none hV
 have hfd:=hfn ds (Q8p hA)
 refine⟨_,rfl,ds,[],p++[],[],p,[],hW',?_,?_,?_,bel.frame _,fun h=>by cases h⟩
 · rw[hrt,List.append_nil,hfd]
   exact trodAll_mk1 (shut_bool htb _)
 · rw[List.append_nil,hfd]
   exact Q7i hl bel hr hA
 · rw[hvars,List.append_nil,hfd]
   rfl
end
end
section
open Go.RowKit Go.ChangeShapes Go.WideShapes Go.ChangeAt Go.Deep
def DecV{α : Type}(P:Program)(t:TypeId)(sz:Nat)(g:α→List PV)(Good:α→Prop):Prop:=
 P.cellsOf t=sz∧∀(H:Type) (enc:TypeId×Value→H) (w:World) (base:Nat) (spare:Nat→Bool) (held:Bool) (fuel:Nat) (cs:List Value) (x:DataW H×List MemPlace),
  DataW.trod enc P w base spare held fuel t cs=some x→∃a,cs.length=sz∧(g a).length=sz∧(∀(j:Nat) (u:Value) (y:PV),cs[j]? = some u→(g a)[j]? = some y→RVp (fun _=>True) w u y)∧Good a
theorem Dec.toV{α : Type}{P:Program}{t:TypeId}{sz:Nat}{f:α→List Value}{G:α→Prop}(h:Dec P t sz f G)(hf:∀a,(f a).length=sz)(ho:∀a,∀u∈f a,u.oneCell'=true):DecV P t sz (fun a=>(f a).map .v) G:=
 ⟨h.1,fun H enc w base spare held fuel cs x hx=>by
   obtain⟨a,rfl,ga⟩:=h.2 H enc w base spare held fuel cs x hx
   refine⟨a,hf a,by simp[hf],fun j u y hu hy=>?_,ga⟩
   rw[List.getElem?_map,hu] at hy
   cases hy
   exact .v u (ho a u (List.mem_of_getElem? hu))⟩
theorem DecV.map{α β : Type}{P:Program}{t:TypeId}{sz:Nat}{g:α→List PV}{G:α→Prop}(h:DecV P t sz g G){g':β→List PV}{G':β→Prop}(hg:∀a,G a→∃b,g a=g' b∧G' b):DecV P t sz g' G':=
 ⟨h.1,fun H enc w base spare held fuel cs x hx=>by
   obtain⟨a,h1,h2,h3,ga⟩:=h.2 H enc w base spare held fuel cs x hx
   obtain⟨b,e,gb⟩:=hg a ga
   exact⟨b,h1,by rw[←e];exact h2,by rw[←e];exact h3,gb⟩⟩
theorem Q6f{α : Type}{P:Program}{t e:TypeId}{sz:Nat}{g:α→List PV}{G:α→Prop}(ht:P.underlying t=some (.slice e))(hc:P.cellsOf t=1)(he:DecV P e sz g G)(hs:0<sz)(hgl:∀a,(g a).length=sz) :
 DecV P t 1 (fun l:List α=>[PV.sl false sz l.length (l.flatMap g)]) (fun l=>l.length≤maxLen∧∀a∈l,G a):=
 ⟨hc,fun H enc w base spare held fuel cs x hx=>by
   rcases DataW.trod_slice ht hx with⟨rfl,_⟩|⟨a,n,c,elems,rest,m,_,rfl,_,_,hl,hm,hel,hi,_,_⟩
   · refine⟨[],rfl,rfl,fun j u y hu hy=>?_,Nat.zero_le _,by simp⟩
     cases j with
     |zero=>
      simp only[List.getElem?_cons_zero,Option.some.injEq] at hu hy
      subst hu hy
      exact .sl false sz none 0 0 [] [] (Nat.le_refl _) (Nat.zero_le _) (fun _=>rfl) (fun h=>by cases h) rfl (by simp) (fun h=>absurd rfl h) fun j u x hu=>by cases hu
     |succ j=>simp at hu
   · have key:∀i,i<n→∃b:α,G b∧∃us:List Value,us.length=sz∧(∀j,j<sz→w.cell? (a.add (i*sz+j))=us[j]?)∧∀(j:Nat) (u:Value) (y:PV),us[j]? = some u→(g b)[j]? = some y→RVp (fun _=>True) w u y:=by
      intro i hin
      have h1:=hi i hin
      rw[List.getElem?_eq_getElem (by omega)] at h1
      obtain⟨us,hcs,htr⟩:=Option.bind_eq_some_iff.1 h1
      rw[he.1] at hcs
      obtain⟨b,hb1,hb2,hb3,hG⟩:=he.2 H enc w base spare held m us _ htr
      obtain⟨_,hcl,hat⟩:=World.cells?_some hcs
      refine⟨b,hG,us,hb1,fun j hj=>?_,hb3⟩
      rw[←Go.Deep.add_add,hat j hj]
     have key2:∃l:List α,l.length=n∧∀i b,l[i]? = some b→G b∧∃us:List Value,us.length=sz∧(∀j,j<sz→w.cell? (a.add (i*sz+j))=us[j]?)∧∀(j:Nat) (u:Value) (y:PV),us[j]? = some u→(g b)[j]? = some y→RVp (fun _=>True) w u y:=
      Q7g (p:=fun i b=>G b∧∃us:List Value,us.length=sz∧(∀j,j<sz→w.cell? (a.add (i*sz+j))=us[j]?)∧∀(j:Nat) (u:Value) (y:PV),us[j]? = some u→(g b)[j]? = some y→RVp (fun _=>True) w u y) n key
     obtain⟨l,hll,hp⟩:=key2
     have hcell:∀j,j<n*sz→∃u,w.cell? (a.add j)=some u∧∀y,(l.flatMap g)[j]? = some y→RVp (fun _=>True) w u y:=fun j hjl=>by
      have hq:j/sz<n:=Nat.div_lt_of_lt_mul (by rw[Nat.mul_comm];exact hjl)
      have hr:j%sz<sz:=Nat.mod_lt _ hs
      have hj:j=j/sz*sz+j%sz:=by rw[Nat.mul_comm];exact(Nat.div_add_mod j sz).symm
      have hk:l[j/sz]? = some (l[j/sz]'(by omega)):=List.getElem?_eq_getElem (by omega)
      obtain⟨_,us,hul,hc1,hrv⟩:=hp _ _ hk
      have h1:=hc1 _ hr
      rw[←hj,List.getElem?_eq_getElem (by omega)] at h1
      refine⟨_,h1,fun y hy=>hrv (j%sz) _ y (List.getElem?_eq_getElem (by omega)) ?_⟩
      have h2:=Q4s hgl hk
      have h3:((l.flatMap g).drop (j/sz*sz)).take sz=g (l[j/sz]'(by omega)):=h2
      rw[←h3,List.getElem?_take,if_pos hr,List.getElem?_drop,←hj]
      exact hy
     have hus:∃us:List Value,us.length=n*sz∧∀j u,us[j]? = some u→w.cell? (a.add j)=some u∧∀y,(l.flatMap g)[j]? = some y→RVp (fun _=>True) w u y:=
      Q7g (p:=fun j u=>w.cell? (a.add j)=some u∧∀y,(l.flatMap g)[j]? = some y→RVp (fun _=>True) w u y) (n*sz) hcell
     obtain⟨us,husl,hu⟩:=hus
     have hfl:(l.flatMap g).length=n*sz:=by rw[Q0o hgl,hll]
     refine⟨l,rfl,rfl,fun j u y hu0 hy=>?_,by omega,fun b hb=>?_⟩
     · cases j with
       |zero=>
        simp only[List.getElem?_cons_zero,Option.some.injEq] at hu0 hy
        subst hu0 hy
        rw[hll]
        refine .sl false sz (some a) n c us _ hl hm (fun h=>by cases h) (fun h=>by cases h) (by rw[husl,hfl]) hfl (fun hne=>?_) fun j u x hj hx=>(hu j u hj).2 x hx
        obtain⟨u0,rest0,hu0⟩:=List.exists_cons_of_ne_nil hne
        have hc0:=(hu 0 u0 (by rw[hu0];rfl)).1
        rw[add_zero'] at hc0
        have hspot:=World.cell?_spot hc0
        obtain⟨ab,ao,asp⟩:=a
        simp only at hspot
        subst hspot
        exact⟨ab,ao,rfl,trivial,fun j u hj=>by have:=(hu j u hj).1;rwa [Q1q] at this⟩
       |succ j=>simp at hu0
     · obtain⟨i,hi'⟩:=List.mem_iff_getElem?.1 hb
       exact(hp i b hi').1⟩
theorem X3u{P:Program}{t:TypeId}{k:IntKind}(ht:P.underlying t=some (.int k))(hc:P.cellsOf t=1):DecV P t 1 (fun n:Int=>[PV.v (.int k n)]) (fun n=>(Lit.int k n).wf=true):=
 ((dec_int ht hc).toV (fun _=>rfl) (fun a u hu=>by simp at hu;subst hu;rfl)).map fun a ga=>⟨a,rfl,ga⟩
theorem decV_u64{P:Program}{t:TypeId}(ht:P.underlying t=some (.int .u64))(hc:P.cellsOf t=1):DecV P t 1 (fun n:Int=>[PV.v (.int .u64 n)]) (fun n=>0≤n∧n≤18446744073709551615):=
 (X3u ht hc).map fun a ga=>⟨a,rfl,by have:=X7u ga;omega⟩
theorem decV_w4{P:Program}{t e:TypeId}(ht:P.underlying t=some (.array 4 e))(hc:P.cellsOf t=4*1)(he:P.underlying e=some (.int .u64))(hce:P.cellsOf e=1) :
 DecV P t 4 (fun x:Int×Int×Int×Int=>[PV.v (.int .u64 x.1),.v (.int .u64 x.2.1),.v (.int .u64 x.2.2.1),.v (.int .u64 x.2.2.2)]) (fun x=>(0≤x.1∧x.1≤18446744073709551615)∧(0≤x.2.1∧x.2.1≤18446744073709551615)∧(0≤x.2.2.1∧x.2.2.1≤18446744073709551615)∧(0≤x.2.2.2∧x.2.2.2≤18446744073709551615)):=
 ((dec_map (f':=fun x:Int×Int×Int×Int=>[.int .u64 x.1,.int .u64 x.2.1,.int .u64 x.2.2.1,.int .u64 x.2.2.2]) (G':=fun x=>(0≤x.1∧x.1≤18446744073709551615)∧(0≤x.2.1∧x.2.1≤18446744073709551615)∧(0≤x.2.2.1∧x.2.2.1≤18446744073709551615)∧(0≤x.2.2.2∧x.2.2.2≤18446744073709551615)) (dec_arr (n:=4) ht hc (by omega) (dec_u64 he hce) (fun _=>rfl)) fun l ⟨hl,hg⟩=>by
   match l,hl with
   |[x,y,z,u],_=>
    have h1:=hg x (by simp)
    have h2:=hg y (by simp)
    have h3:=hg z (by simp)
    have h4:=hg u (by simp)
    exact⟨(x,y,z,u),by simp[sts],⟨by simp only;omega,by simp only;omega⟩,⟨by simp only;omega,by simp only;omega⟩,⟨by simp only;omega,by simp only;omega⟩,⟨by simp only;omega,by simp only;omega⟩⟩).toV (fun _=>rfl) (fun a u hu=>by simp at hu;rcases hu with rfl|rfl|rfl|rfl<;>rfl)).map fun a ga=>⟨a,rfl,ga⟩
open Go.RowKit Go.ChangeShapes Go.WideShapes Go.ChangeAt Go.Deep
def DecF{α : Type}(P:Program)(fs:List Field)(o sz:Nat)(g:α→List PV)(Good:α→Prop):Prop:=
 ∀(H:Type) (enc:TypeId×Value→H) (w:World) (base:Nat) (spare:Nat→Bool) (held:Bool) (fuel:Nat) (cs:List Value),o+sz≤cs.length →
  (∀f∈fs,∃x:DataW H×List MemPlace,DataW.trod enc P w base spare held fuel f.type ((cs.drop f.offset).take (P.cellsOf f.type))=some x) →
  ∃a,(g a).length=sz∧(∀(j:Nat) (u:Value) (y:PV),cs[o+j]? = some u→(g a)[j]? = some y→RVp (fun _=>True) w u y)∧Good a
theorem Q9k{α : Type}{P:Program}{f:Field}{o sz:Nat}{g:α→List PV}{G:α→Prop}(h:DecV P f.type sz g G)(ho:f.offset=o):DecF P [f] o sz g G:=by
 intro H enc w base spare held fuel cs hlen hf
 obtain⟨x,hx⟩:=hf f (by simp)
 rw[ho,h.1] at hx
 obtain⟨a,a1,a2,a3,ga⟩:=h.2 H enc w base spare held fuel _ _ hx
 refine⟨a,a2,fun j u y hu hy=>a3 j u y ?_ hy,ga⟩
 have hj:=(List.getElem?_eq_some_iff.1 hy).1
 rw[List.getElem?_take,if_pos (by omega),List.getElem?_drop]
 exact hu
theorem Q2q{α β : Type}{P:Program}{f:Field}{fs:List Field}{o s0 s1:Nat}{g:α→List PV}{g':β→List PV}{G:α→Prop}{G':β→Prop}(h:DecV P f.type s0 g G)(ho:f.offset=o)(hr:DecF P fs (o+s0) s1 g' G') :
 DecF P (f::fs) o (s0+s1) (fun x:α×β=>g x.1++g' x.2) (fun x=>G x.1∧G' x.2):=by
 intro H enc w base spare held fuel cs hlen hf
 obtain⟨a,a2,a3,ga⟩:=Q9k h ho H enc w base spare held fuel cs (by omega) (fun f' hf'=>hf f' (by simp at hf';simp[hf']))
 obtain⟨b,b2,b3,gb⟩:=hr H enc w base spare held fuel cs (by omega) (fun f' hf'=>hf f' (by simp[hf']))
 refine⟨(a,b),by simp[a2,b2],fun j u y hu hy=>?_,ga,gb⟩
 dsimp only at hy
 rw[List.getElem?_append] at hy
 split at hy
 · exact a3 j u y hu hy
 · exact b3 (j-(g a).length) u y (by rw[a2,show o+s0+(j-s0)=o+j by omega];exact hu) hy
theorem Q7f{α : Type}{P:Program}{t:TypeId}{fs:Array Field}{sz:Nat}{g:α→List PV}{G:α→Prop}(ht:P.underlying t=some (.struct fs))(hc:P.cellsOf t=sz)(h:DecF P fs.toList 0 sz g G):DecV P t sz g G:=
 ⟨hc,fun H enc w base spare held fuel cs x hx=>by
   obtain⟨xs,n,_,_,hlen,hxl,hf⟩:=DataW.trod_struct ht hx
   rw[hc] at hlen
   obtain⟨a,a2,a3,ga⟩:=h H enc w base spare held n cs (by omega) (fun f hf'=>by
    obtain⟨k,hk⟩:=List.mem_iff_getElem?.1 hf'
    have hk':fs[k]? = some f:=by rw[←Array.getElem?_toList];exact hk
    have h1:=hf k f hk'
    have hlt:=(Array.getElem?_eq_some_iff.1 hk').1
    rw[List.getElem?_eq_getElem (by omega)] at h1
    exact⟨_,h1⟩)
   exact⟨a,hlen,a2,fun j u y hu hy=>a3 j u y (by rw[Nat.zero_add];exact hu) hy,ga⟩⟩
theorem open_VA{H:Type}{enc:TypeId×Value→H}{α : Type}{P:Program}{t:TypeId}{sz:Nat}{g:α→List PV}{G:α→Prop}{w:World}{base:Nat}{spare:Nat→Bool}{held:Bool}{cs:Array Value}{d:DataW H}{ps:List MemPlace}(h:DecV P t sz g G)(ht:DataW.Trod enc P w base spare held t (.agg cs) d ps)(ι : Nat→Nat×Nat×Nat) :
 ∃a,RV (fun _=>True) ι w (.agg cs) (.agg ((g a).map .c))∧G a:=by
 obtain⟨fuel,ht⟩:=ht
 obtain⟨a,a1,a2,a3,ga⟩:=h.2 H enc w base spare held fuel _ _ ht
 have e:(Value.agg cs).cells.toList=cs.toList:=rfl
 rw[e] at a1 a3
 refine⟨a,?_,ga⟩
 have hc:cs=cs.toList.toArray:=by simp
 rw[hc]
 have key:∀(j:Nat) (u:Value) (y:PV),cs.toList[j]? = some u→(g a)[j]? = some y→RVp (fun _=>True) w u y:=a3
 refine .agg cs.toList _ (by rw[List.length_map,a1,a2]) (fun u hu=>?_) fun j u x hu hx=>?_
 · obtain⟨j,hj⟩:=List.mem_iff_getElem?.1 hu
   have hlt:=(List.getElem?_eq_some_iff.1 hj).1
   exact(key j u _ hj (List.getElem?_eq_getElem (by omega))).one
 · rw[List.getElem?_map,Option.map_eq_some_iff] at hx
   obtain⟨y,hy,rfl⟩:=hx
   exact .c _ _ (key j u y hu hy)
theorem X3d{P:Program}{w:World}{r:Reach}{base:Nat}{t:TypeId}{fs:Array Field}{v:Value}(ht:P.underlying t=some (.struct fs))(h:Value.okWide P w r base t v):∃cs,v = .agg cs:=by
 simp only[Value.okWide,ht] at h
 obtain⟨cs,h1,_⟩:=h
 exact⟨cs,h1⟩
end
section
open Go.RowKit
theorem word_of{a b c d:Int}(ha:0≤a∧a≤18446744073709551615)(hb:0≤b∧b≤18446744073709551615)(hc:0≤c∧c≤18446744073709551615)(hd:0≤d∧d≤18446744073709551615):∃n:Nat,n<WW∧l0 n=a∧l1 n=b∧l2 n=c∧l3 n=d:=by
 refine⟨a.toNat+18446744073709551616*(b.toNat+18446744073709551616*(c.toNat+18446744073709551616*d.toNat)),?_,?_⟩
 · show _<115792089237316195423570985008687907853269984665640564039457584007913129639936
   omega
 · obtain⟨h0,h1,h2,h3⟩:=Q9g (s0:=a.toNat) (s1:=b.toNat) (s2:=c.toNat) (s3:=d.toNat) rfl (by omega) (by omega) (by omega) (by omega)
   rw[h0,h1,h2,h3]
   exact⟨Int.toNat_of_nonneg ha.1,Int.toNat_of_nonneg hb.1,Int.toNat_of_nonneg hc.1,Int.toNat_of_nonneg hd.1⟩
def wpv(n:Nat):List PV:=[.v (.int .u64 (l0 n)),.v (.int .u64 (l1 n)),.v (.int .u64 (l2 n)),.v (.int .u64 (l3 n))]
theorem X6a:DecV Tryz.prog 35 4 wpv (fun n=>n<WW):=
 (decV_w4 Tryz.underlying35 (by kernel_rfl) Tryz.underlying22 (by kernel_rfl)).map fun x hx=>by
   obtain⟨n,hn,h0,h1,h2,h3⟩:=word_of hx.1 hx.2.1 hx.2.2.1 hx.2.2.2
   exact⟨n,by unfold wpv;rw[h0,h1,h2,h3],hn⟩
theorem Q5v:DecV Tryz.prog 23 1 apv U:=(decV_u64 Tryz.underlying23 (by kernel_rfl)).map fun a ga=>⟨a,rfl,ga⟩
theorem Z0w:DecV Tryz.prog 25 1 (fun l:List Int=>[PV.sl false 1 l.length (l.flatMap apv)]) (fun l=>l.length≤maxLen∧∀a∈l,U a):=
 Q6f Tryz.underlying25 (by kernel_rfl) Q5v (by omega) Q3r
theorem X6b:DecV Tryz.prog 5 1 bpv (fun n=>n<256):=(X3u Tryz.underlying5 (by kernel_rfl)).map fun a ga=>⟨a.toNat,by unfold bpv;rw[Int.toNat_of_nonneg (wf_u8 ga).1],by have:=wf_u8 ga;omega⟩
theorem Z0v:DecV Tryz.prog 56 1 (fun l:List Nat=>[PV.sl false 1 l.length (l.flatMap bpv)]) (fun l=>l.length≤maxLen∧∀a∈l,a<256):=
 Q6f Tryz.underlying56 (by kernel_rfl) X6b (by omega) Q4b
end
section
open Go.RowKit
set_option maxRecDepth 20000
theorem X5n{P:Program}{w:World}{t e:TypeId}{N fuel:Nat}{k:IntKind}{cs:List Value}{L:List Int}{p:List MemPlace}(ht:P.underlying t=some (.array N e))(he:P.underlying e=some (.int k))(hc:P.cellsOf e=1)(hN:L.length=N)
 (hd:DataW.trod (fun _=>()) P w 0 (fun _=>true) false fuel t cs=some (.agg (L.map fun n=>.lit (.int k n)),p)):∀(j:Nat) (n:Int),L[j]? = some n→cs[j]? = some (Value.int k n):=by
 obtain⟨xs,m,_,ex,_,hl,hel⟩:=DataW.trod_array ht hd
 intro j n hj
 have hjN:j<N:=by rw[←hN];exact(List.getElem?_eq_some_iff.1 hj).1
 have hE:=hel j hjN
 rw[hc,Nat.mul_one,List.getElem?_eq_getElem (by omega)] at hE
 obtain⟨z,e1,e2,_⟩:=DataW.trod_int he hE
 have e3:xs.map (·.1)=L.map fun n=>.lit (.int k n):=(DataW.agg.inj (Prod.mk.inj ex).1).symm
 have e4:(xs.map (·.1))[j]? = (L.map fun n=>(DataW.lit (.int k n):DataW Unit))[j]?:=by rw[e3]
 rw[List.getElem?_map,List.getElem?_map,List.getElem?_eq_getElem (by omega:j<xs.length),hj,e2] at e4
 have hz:z=n:=by
  simp only[Option.map_some,Option.some.injEq,DataW.lit.injEq,Lit.int.injEq,true_and] at e4
  exact e4
 have h0:((cs.drop j).take 1)[0]? = some (.int k z):=by rw[e1];rfl
 rw[←hz]
 simpa using h0
theorem globs_ok{W:World}(h:laidMetH Tryz.prog Rows.rulesStakesRow.laid W):GlobOK W (fun _=>True) (fun _=>(0,0,0)) []:=by
 rw[MakeChecks.laidMetH_plain _ _ _ (by kernel_rfl)] at h
 obtain⟨ps,⟨g,t,cs,fuel,p,q,hg,ht,hv,hd,⟨g',t',cs',fuel',p',q',hg',ht',hv',hd',_,_⟩,_⟩,_,_⟩:=h
 obtain rfl:=Option.some.inj ((show Tryz.prog.globalNamed "sheafer/sponge.turns"=some 1 by kernel_rfl).symm.trans hg)
 obtain rfl:=Option.some.inj ((show(Tryz.prog.globals[1]?).map (·.type)=some 226 by kernel_rfl).symm.trans ht)
 obtain rfl:=Option.some.inj ((show Tryz.prog.globalNamed "sheafer/sponge.numbers"=some 0 by kernel_rfl).symm.trans hg')
 obtain rfl:=Option.some.inj ((show(Tryz.prog.globals[0]?).map (·.type)=some 218 by kernel_rfl).symm.trans ht')
 have k1:=X5n (L:=X1q) Tryz.underlying226 Tryz.underlying3 (by kernel_rfl) rfl hd
 have k2:=X5n (L:=Z0n) Tryz.underlying218 Tryz.underlying22 (by kernel_rfl) rfl hd'
 intro g cs0 hgl
 unfold globV globs at hgl
 simp only[List.find?_cons,List.find?_nil] at hgl
 split at hgl
 · rename_i e
   have e:0=g:=by simpa using e
   subst e
   cases hgl
   refine⟨trivial,fun r hr=>(by cases hr),by decide,by decide,fun j u hu=>?_⟩
   rw[World.var?_cell hg' hv' j]
   rw[List.getElem?_map] at hu
   cases hj:Z0n[j]? with
   |none=>rw[hj] at hu;cases hu
   |some n=>
    rw[hj] at hu
    cases hu
    have:=k2 j n hj
    simpa using this
 · split at hgl
   · rename_i e
     have e:1=g:=by simpa using e
     subst e
     cases hgl
     refine⟨trivial,fun r hr=>(by cases hr),by decide,by decide,fun j u hu=>?_⟩
     rw[World.var?_cell hg hv j]
     rw[List.getElem?_map] at hu
     cases hj:X1q[j]? with
     |none=>rw[hj] at hu;cases hu
     |some n=>
      rw[hj] at hu
      cases hu
      have:=k1 j n hj
      simpa using this
   · cases hgl
theorem decV_bool{P:Program}{t:TypeId}(ht:P.underlying t=some .bool)(hc:P.cellsOf t=1):DecV P t 1 (fun b:Bool=>[PV.v (.bool b)]) (fun _=>True):=
 ⟨hc,fun H enc w base spare held fuel cs x hx=>by
   obtain⟨b,h,_⟩:=DataW.trod_bool ht hx
   subst h
   refine⟨b,rfl,rfl,fun j u y hu hy=>?_,trivial⟩
   cases j with
   |zero=>simp at hu hy;subst hu hy;exact .v _ rfl
   |succ j=>simp at hu⟩
theorem X3v:DecV Tryz.prog 3 1 (fun n:Int=>[PV.v (.int .i64 n)]) (fun n=>(Lit.int IntKind.i64 n).wf=true):=X3u Tryz.underlying3 (by kernel_rfl)
theorem decV_ev:DecV Tryz.prog 58 14 Ev.pv Ev.raw:=
 (Q7f (sz:=1+(1+(1+(1+(1+(4+(4+1))))))) Tryz.underlying58 (by kernel_rfl) (Q2q X3v rfl (Q2q X3v rfl (Q2q Q5v rfl (Q2q Q5v rfl (Q2q X6b rfl (Q2q X6a rfl (Q2q X6a rfl (Q9k Z0v rfl))))))))).map fun x hx=>
   ⟨⟨x.1,x.2.1,x.2.2.1,x.2.2.2.1,x.2.2.2.2.1,x.2.2.2.2.2.1,x.2.2.2.2.2.2.1,x.2.2.2.2.2.2.2⟩,rfl,⟨hx.2.2.2.2.2.1,hx.2.2.2.2.2.2.1,hx.2.2.2.2.2.2.2.1,hx.2.2.2.2.2.2.2.2,hx.2.2.1,hx.2.2.2.1⟩⟩
theorem decV_evs:DecV Tryz.prog 52 1 (fun l:List Ev=>[PV.sl false 14 l.length (l.flatMap Ev.pv)]) (fun l=>l.length≤maxLen∧∀e∈l,e.raw):=
 Q6f Tryz.underlying52 (by kernel_rfl) decV_ev (by omega) Q7x
theorem decV_ph:DecV Tryz.prog 54 4 Ph.pv Ph.raw:=
 (Q7f (sz:=1+(1+(1+1))) Tryz.underlying54 (by kernel_rfl) (Q2q X3v rfl (Q2q Q5v rfl (Q2q (decV_bool Tryz.underlying4 (by kernel_rfl)) rfl (Q9k decV_evs rfl))))).map fun x hx=>
   ⟨⟨x.1,x.2.1,x.2.2.1,x.2.2.2⟩,rfl,⟨hx.2.1,hx.2.2.2.1,hx.2.2.2.2⟩⟩
theorem decV_phs:DecV Tryz.prog 24 1 (fun l:List Ph=>[PV.sl false 4 l.length (l.flatMap Ph.pv)]) (fun l=>l.length≤maxLen∧∀p∈l,p.raw):=
 Q6f Tryz.underlying24 (by kernel_rfl) decV_ph (by omega) Q6k
def Cs.pv(c:Cs):List PV:=[.v (.int .u64 c.snd),.sl false 4 c.ph.length (c.ph.flatMap Ph.pv),.sl false 1 c.cd.length (c.cd.flatMap apv)]
theorem decV_case:DecV Tryz.prog 27 3 Cs.pv Cs.raw:=
 (Q7f (sz:=1+(1+1)) Tryz.underlying27 (by kernel_rfl) (Q2q Q5v rfl (Q2q decV_phs rfl (Q9k Z0w rfl)))).map fun x hx=>
   ⟨⟨x.1,x.2.1,x.2.2⟩,rfl,⟨hx.1,hx.2.1,hx.2.2.1,hx.2.2.2⟩⟩
end
section
open Go.RowKit
theorem cutC_all(c:Cs):((cutC c).ph.flatMap Ph.tr).length≤240:=by
 have h4:=X3x c
 have key:∀l:List Ph,(∀p∈l,p.tr.length≤60)→(l.flatMap Ph.tr).length≤l.length*60:=by
  intro l
  induction l with
  |nil=>intro _;exact Nat.le_refl _
  |cons p l ih=>
   intro h
   have h1:=h p (by simp)
   have h2:=ih fun q hq=>h q (by simp[hq])
   simp only[List.flatMap_cons,List.length_append,List.length_cons]
   omega
 have h:=key (cutC c).ph fun p hp=>by
  obtain⟨q,_,rfl⟩:=List.mem_map.1 hp
  show((q.tr.take 60).map cutE).length≤60
  rw[List.length_map,List.length_take];omega
 omega
theorem rless_fn(x:Cs)(hx:x.raw)(a n:Int):Fn Tryz.prog 5 [csA x,vi .u64 a,vi .i64 n] [] (vb true) []:=
 less_fnE x (cutC x) a n (cutC_ok hx) (X3x x) (by have:=cutC_all x;omega) (few_fn x hx) fun k=>few_fnK k x hx
theorem law_less{x:Cs}{v:Value}{a n:Int}{W:World}(hL:laidMetH Tryz.prog Rows.rulesLessRow.laid W)(h1:RV (fun _=>True) (fun _=>(0,0,0)) W v (.agg (x.pv.map .c)))(g1:x.raw)(ha:U a):Calls Tryz.prog 5 #[v,.int .u64 a,.int .i64 n] W (RetT W true):=by
 refine Fn.law (rless_fn x g1 a n) (vs:=[_,_,_]) rfl (fun j v x hj hx=>?_) (globs_ok hL)
 rcases j with _|_|_|j
 · cases hj;cases hx;exact h1
 · cases hj;cases hx;exact .c _ _ (.v _ rfl)
 · cases hj;cases hx;exact .c _ _ (.v _ rfl)
 · simp at hj
end
end Go.Proofs.YtgdjkkapgghdbaaGreatDoor
