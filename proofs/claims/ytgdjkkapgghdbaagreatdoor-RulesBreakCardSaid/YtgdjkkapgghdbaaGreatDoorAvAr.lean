/-
  What is appended behind a slice without room makes a row, in a region that draws its order.
-/
import Derived.Test.YtgdjkkapgghdbaaGreatDoorYe
import Derived.Test.YtgdjkkapgghdbaaGreatDoorAvO
import Derived.Sort.LoopGhostIn
import Derived.Test.YtgdjkkapgghdbaaGreatDoorAvM
import Derived.Shelf.SlSortCmp.NoneTotal
namespace Go.Proofs.YtgdjkkapgghdbaaGreatDoor
set_option linter.unusedSimpArgs false
set_option linter.unusedVariables false
section
open Go.RowKit
open Nat (reduceBEq)
set_option maxRecDepth 20000
set_option maxHeartbeats 2000000
attribute [local simp] Q2i Q0n Q1n
def eA(l:List UInt64):Nat→List UInt64
 |0=>l
 |k+1=>(eA l k).set k (l.getD k 0 ^^^ (l.getD (5*(k/5)+(k%5+2)%5) 0 &&& ~~~ l.getD (5*(k/5)+(k%5+1)%5) 0))
theorem eA_len(l:List UInt64):∀k,(eA l k).length=l.length
 |0=>rfl
 |k+1=>by unfold eA;rw[List.length_set,eA_len l k]
def X6b(l:List UInt64):List UInt64:=eA l 25
theorem X9n(x y:UInt64):IntKind.u64.wrap ((@HAnd.hAnd (BitVec 64) (BitVec 64) (BitVec 64) (@instHAndOfAndOp (BitVec IntKind.u64.bits) (@BitVec.instAndOp IntKind.u64.bits)) (BitVec.ofInt 64 (x.toNat:Int)) (@Complement.complement (BitVec 64) (@BitVec.instComplement IntKind.u64.bits) (BitVec.ofInt 64 (y.toNat:Int)))).toNat:Int)=((x &&& ~~~ y).toNat:Int):=by
 show IntKind.u64.wrap ((BitVec.ofInt 64 (x.toNat:Int) &&& ~~~ BitVec.ofInt 64 (y.toNat:Int)).toNat:Int)=_
 rw[bvU,bvU,u64w,show(x.toBitVec &&& ~~~ y.toBitVec).toNat=(x &&& ~~~ y).toNat from rfl,Nat.mod_eq_of_lt (x &&& ~~~ y).toNat_lt]
theorem rrows_fnE(l:List UInt64)(B:Nat→List UInt64)(hl:l.length=25)(B0:B 0=l)(bl:∀k,(B k).length=25)
 (bs:∀k,B (k+1)=(B k).set k (l.getD k 0 ^^^ (l.getD (5*(k/5)+(k%5+2)%5) 0 &&& ~~~ l.getD (5*(k/5)+(k%5+1)%5) 0))) :
 Fn Tryz.prog 189 [lnA l] [] (lnA (B 25)) []:=by
 have r1:=fun d=>Q0n d l
 (refine Q0t Tryz.func189 rfl (by rfl) ?_;simp only[Tryz.ntmps189,List.length_cons,List.length_nil,Nat.reduceAdd,Nat.reduceSub,List.replicate,List.cons_append,List.nil_append])
 have b1:List.take 25 (rcV l)=rcV l:=Q1y _ hl
 have b2:(rcV l).length=25:=by rw[Q1a];exact hl
 have b3:List.drop 25 (rcV l)=[]:=List.drop_eq_nil_of_le (by omega)
 (have W:=ndI r1 (ndI b1 (ndI b2 b3));(repeat(any_goals(first|((with_reducible refine Q0b ?_ ?_);rfl;intro K hK;simp(disch:=omega) only[go_sem,W];((repeat(refine ndI (by first|assumption|rfl) ?_));refine hK _ ?_;clear hK K))|(with_reducible first|(refine Q0c ?_;refine hR _ ?_;clear hR R)|((first|refine Q0e ?_|refine Q0f ?_);intro J hJ hJ')|(refine Q0a ?_;intro R hR)|(refine hJ _ ?_;clear hJ hJ' J))))))
 clear r1 b1 b3
 refine Q1t 5 (fun y=>⟨[lnA l,.ptr 1 0,.ptr 2 0,.ptr 3 0,.any,.any,.any,vi .i64 (y:Int),.any,.any,.any,.any,.any,.any,.any,.any,.any,.any,.any,.any,.any,.any,.any,.any,.any,.any,.any,.any,.any,.any,.any,.any,.any,.any,.any,.any,.any,.any,.any,.any,.any,.any,.any,.any,.any],[(1,rcV (B (5*y))),(2,rcV (zer 25)),(3,rcV l)]⟩) (St.le_of (by simp[leT]) (by rw[Nat.mul_zero,B0,Q4v];simp[leH,hget])) ?_
 intro y hy J hJ hJ'
 by_cases hlt:y<5
 · have hd:decide ((y:Int)<5)=true:=by simp;omega
   (repeat(any_goals(first|((with_reducible refine Q0b ?_ ?_);rfl;intro K hK;simp(disch:=omega) only[go_sem,hd];((repeat(refine ndI (by first|assumption|rfl) ?_));refine hK _ ?_;clear hK K))|(with_reducible first|(refine Q0c ?_;refine hR _ ?_;clear hR R)|((first|refine Q0e ?_|refine Q0f ?_);intro J hJ hJ')|(refine Q0a ?_;intro R hR)|(refine hJ _ ?_;clear hJ hJ' J)|refine Q0h ?_)|((with_reducible apply Q0d);rfl;rfl;all_goals(intro hc;first|(cases hc;done)|(try simp only at hc))))))
   refine Q1t 5 (fun x=>⟨[lnA l,.ptr 1 0,.ptr 2 0,.ptr 3 0,vi .i64 (y:Int),.any,.any,vi .i64 (y:Int),.any,.any,vi .i64 (x:Int),.any,.any,.any,.any,.any,.any,.any,.any,.any,.any,.any,.any,.any,.any,.any,.any,.any,.any,.any,.any,.any,.any,.any,.any,.any,.any,.any,.any,.any,.any,.any,.any,.any,.any],[(1,rcV (B (5*y+x))),(2,rcV (zer 25)),(3,rcV l)]⟩) (St.le_of (by simp[leT]) (by simp[leH,hget])) ?_
   intro x hx J hJ hJ'
   by_cases hlx:x<5
   · have e1:(5*y+x)/5=y:=by omega
     have e2:(5*y+x)%5=x:=by omega
     have k5:=bs (5*y+x)
     rw[e1,e2] at k5
     obtain⟨lk,hlk⟩:∃q,l.getD (5*y+x) 0=q:=⟨_,rfl⟩
     obtain⟨lp,hlp⟩:∃q,l.getD (5*y+(x+2)%5) 0=q:=⟨_,rfl⟩
     obtain⟨lq,hlq⟩:∃q,l.getD (5*y+(x+1)%5) 0=q:=⟨_,rfl⟩
     have k1:=Q1l (l:=l) (i:=5*y+x) (by omega)
     have k2:=Q1l (l:=l) (i:=5*y+(x+2)%5) (by omega)
     have k3:=Q1l (l:=l) (i:=5*y+(x+1)%5) (by omega)
     rw[hlk] at k1
     rw[hlp] at k2
     rw[hlq] at k3
     rw[hlk,hlp,hlq] at k5
     have u1:=X9n lp lq
     have u2:=Q3y lk (lp &&& ~~~ lq)
     have k4:=Q3t (B (5*y+x)) (5*y+x) (lk ^^^ (lp &&& ~~~ lq)) (by rw[bl];omega)
     rw[←k5] at k4
     have k6:(rcV (B (5*y+x))).length=25:=by rw[Q1a,bl]
     have hd:decide ((x:Int)<5)=true:=by simp;omega
     have j1:(5:Int)*(y:Int)=((5*y:Nat):Int):=by omega
     have j2:((5*y:Nat):Int)+(x:Int)=((5*y+x:Nat):Int):=by omega
     have j3:(x:Int)+2=((x+2:Nat):Int):=by omega
     have j4:(x:Int)+1=((x+1:Nat):Int):=by omega
     have j5:Int.tmod ((x+2:Nat):Int) 5=(((x+2)%5:Nat):Int):=by rw[Int.tmod_eq_emod_of_nonneg (by omega)];omega
     have j6:Int.tmod ((x+1:Nat):Int) 5=(((x+1)%5:Nat):Int):=by rw[Int.tmod_eq_emod_of_nonneg (by omega)];omega
     have j7:((5*y:Nat):Int)+(((x+2)%5:Nat):Int)=((5*y+(x+2)%5:Nat):Int):=by omega
     have j8:((5*y:Nat):Int)+(((x+1)%5:Nat):Int)=((5*y+(x+1)%5:Nat):Int):=by omega
     have m1:5*y+(x+1)%5<25:=by omega
     have m2:5*y+(x+2)%5<25:=by omega
     have m3:5*y+x<25:=by omega
     clear k5 hlk hlp hlq e1 e2 bs B0 bl hl
     generalize lk ^^^ (lp &&& ~~~ lq)=z at k4 u2
     generalize lp &&& ~~~ lq=cr at u1 u2
     (have W:=ndI b2 (ndI k1 (ndI k2 (ndI k3 (ndI k4 (ndI k6 (ndI j1 (ndI j2 (ndI j3 (ndI j4 (ndI j5 (ndI j6 (ndI j7 (ndI j8 (ndI u1 (ndI u2 @wrI)))))))))))))));(repeat(any_goals(first|((with_reducible refine Q0b ?_ ?_);rfl;intro K hK;simp(disch:=omega) only[go_sem,W,hd,Nat.mul_one,Int.toNat_natCast,Nat.zero_add];((repeat(refine ndI (by first|assumption|rfl) ?_));refine hK _ ?_;clear hK K))|(with_reducible first|(refine Q0c ?_;refine hR _ ?_;clear hR R)|((first|refine Q0e ?_|refine Q0f ?_);intro J hJ hJ')|(refine Q0a ?_;intro R hR)|(refine hJ _ ?_;clear hJ hJ' J)|refine Q0h ?_)|((with_reducible refine hJ' _ _ ?_ ?_);(focus(simp;done));clear hJ hJ' J)|((with_reducible apply Q0d);rfl;rfl;all_goals(intro hc;first|(cases hc;done)|(try simp only at hc)))|((with_reducible refine Q0z ?_ ?_);(apply Q2e);(focus(repeat(first|exact Sims.nil|((apply Sims.cons);(focus(first|exact Ef.sim_refl _))))));kernel_rfl;(with_reducible refine hR _ ?_);clear hR R)|((first|((first|((with_reducible apply Q0x);rfl;rfl));(simp(disch:=omega) only[rdE,rdOf,go_sem,W,hd,Nat.mul_one,Int.toNat_natCast,Nat.zero_add];rfl);(intro τ hA hQ hN;((try simp only[Q1i,Op.operands,Call.operands,go_sem,W,hd,Nat.mul_one,Int.toNat_natCast,Nat.zero_add,go_sem,List.mem_cons,List.not_mem_nil,forall_eq_or_imp,forall_eq,List.append_toArray,Option.toArray] at hA);(try simp only[go_sem,W,hd,Nat.mul_one,Int.toNat_natCast,Nat.zero_add,List.mem_cons,List.not_mem_nil,forall_eq_or_imp,forall_eq] at hQ hN);(first|(revert hA;intro hA));(first|(revert hQ;intro hQ));(first|(revert hN;intro hN));simp(disch:=omega) only[go_sem,W,hd,Nat.mul_one,Int.toNat_natCast,Nat.zero_add,go_sem,hA,hQ,hN];(repeat(refine ndI (by first|assumption|omega|rfl) ?_));(first|apply Q1b|apply Q4a)))));(simp(disch:=omega) only[St.eff,setO,Q0u,go_sem,W,hd,Nat.mul_one,Int.toNat_natCast,Nat.zero_add]))|((with_reducible refine Q0w ?_ ?_ ?_ ?_);kernel_rfl;kernel_rfl;(simp[Q2a,Q5q,St.free,Q1z,AV.refsL,AV.refs,Q0n]);intro R hR)))))
     exact hJ _ (by omega) (St.le_of (by simp[leT]) (by simp[leH,hget];rfl))
   · have hx5:x=5:=by omega
     subst hx5
     (repeat(any_goals(first|((with_reducible refine Q0b ?_ ?_);rfl;intro K hK;simp(disch:=omega) only[go_sem,wrI];((repeat(refine ndI (by first|assumption|rfl) ?_));refine hK _ ?_;clear hK K))|(with_reducible first|(refine Q0c ?_;refine hR _ ?_;clear hR R)|((first|refine Q0e ?_);intro J hJ hJ')|(refine Q0a ?_;intro R hR)|(refine hJ _ ?_;clear hJ hJ' J)|refine Q0q ?_)|((with_reducible refine hJ' _ _ ?_ ?_);(focus(simp;done));clear hJ hJ' J)|((with_reducible apply Q0d);rfl;rfl;all_goals(intro hc;first|(cases hc;done)|(try simp only at hc))))))
     exact hJ _ (by omega) (St.le_of (by simp[leT]) (by simp[leH,hget,Nat.mul_add]))
 · have hi5:y=5:=by omega
   subst hi5
   rw[show 5*5=25 from rfl]
   have b1:List.take 25 (rcV (B 25))=rcV (B 25):=Q1y _ (bl _)
   have b4:(rcV (B 25)).length=25:=by rw[Q1a];exact bl _
   have z1:List.drop 25 (rcV (zer 25))=[]:=List.drop_eq_nil_of_le (by rw[Q1a,Q5f];omega)
   have z2:(rcV (zer 25)).length=25:=by rw[Q1a,Q5f]
   clear bs bl hl hlt
   obtain⟨z,hz⟩:∃q,zer 25=q:=⟨_,rfl⟩
   rw[hz] at z1 z2 ⊢
   (have W:=ndI b1 (ndI b4 (ndI z1 z2));(repeat(any_goals(first|((with_reducible refine Q0b ?_ ?_);rfl;intro K hK;simp(disch:=omega) only[go_sem,W,Q0n];((repeat(refine ndI (by first|assumption|rfl) ?_));refine hK _ ?_;clear hK K))|(with_reducible first|(refine Q0c ?_;refine hR _ ?_;clear hR R)|((first|refine Q0e ?_);intro J hJ hJ')|(refine Q0a ?_;intro R hR)|(refine hJ _ ?_;clear hJ hJ' J)|refine Q0j ?_|refine Q0q ?_)|((with_reducible refine hJ' _ _ ?_ ?_);(focus(simp;done));clear hJ hJ' J)|((with_reducible apply Q0d);rfl;rfl;all_goals(intro hc;first|(cases hc;done)|(try simp only at hc)))))))
   all_goals(refine⟨by simp,⟨_,?_,AV.le_refl _⟩,Q0g (by simp[leH,hget])⟩;simp only[Tryz.results189,resL,ldA,Q0m,go_sem,b1];rw[if_pos (by omega)];rfl)
theorem eA_s(l:List UInt64)(k:Nat):eA l (k+1)=(eA l k).set k (l.getD k 0 ^^^ (l.getD (5*(k/5)+(k%5+2)%5) 0 &&& ~~~ l.getD (5*(k/5)+(k%5+1)%5) 0)):=rfl
theorem X1t(l:List UInt64):X6b l=eA l 25:=rfl
theorem rrows_fn(l:List UInt64)(hl:l.length=25):Fn Tryz.prog 189 [lnA l] [] (lnA (X6b l)) []:=by
 rw[X1t]
 have e0:eA l 0=l:=rfl
 have es:=eA_s l
 have el:=fun k=>(eA_len l k).trans hl
 generalize eA l=B at *
 exact rrows_fnE l B hl e0 el es
end
section
open Go.RowKit
open Nat (reduceBEq)
set_option maxRecDepth 20000
set_option maxHeartbeats 2000000
attribute [local simp] Q2i Q0n Q1n
def rS(r:Nat):Nat:=if 255<r*2 then(r*2-256) ^^^ 113 else r*2
theorem rS_lt(r:Nat)(h:r<256):rS r<256:=by
 have key:∀k:Fin 256,rS k.1<256:=by decide +kernel
 exact key ⟨r,h⟩
def rN:Nat→Nat
 |0=>1
 |k+1=>rS (rN k)
theorem rN_lt:∀k,rN k<256
 |0=>by decide
 |k+1=>rS_lt _ (rN_lt k)
def X6p(j:Nat):UInt64:=UInt64.ofNat (2 ^ (2 ^ j-1))
def xN(i:Nat):Nat→UInt64
 |0=>0
 |j+1=>if rN (7*i+j+1)/2%2=1 then xN i j ||| X6p j else xN i j
theorem num_eq(n:Nat)(h:n<24):xN n 7=numU n:=by
 have key:∀k:Fin 24,xN k.1 7=numU k.1:=by decide +kernel
 exact key ⟨n,h⟩
theorem i64_x113(r:Nat)(h:r<256)(h2:255<r*2):IntKind.i64.wrap ((@HXor.hXor (BitVec 64) (BitVec 64) (BitVec 64) (@instHXorOfXorOp (BitVec IntKind.i64.bits) (@BitVec.instXorOp IntKind.i64.bits)) (BitVec.ofInt 64 ((r*2-256:Nat):Int)) (BitVec.ofInt 64 113)).toNat:Int)=((rS r:Nat):Int):=by
 have key:∀k:Fin 256,255<k.1*2→IntKind.i64.wrap ((BitVec.ofInt 64 ((k.1*2-256:Nat):Int) ^^^ BitVec.ofInt 64 113).toNat:Int)=((rS k.1:Nat):Int):=by decide +kernel
 exact key ⟨r,h⟩ h2
theorem num_fnE(n:Nat)(hn:n<24)(R:Nat→Nat)(X:Nat→Nat→UInt64)(R0:R 0=1)(Rl:∀k,R k<256)(Rs:∀k,R (k+1)=rS (R k))
 (X0:∀i,X i 0=0) (Xs:∀i j,X i (j+1)=if R (7*i+j+1)/2%2=1 then X i j ||| X6p j else X i j) :
 Fn Tryz.prog 191 [vi .i64 (n:Int)] [] (lvA (X n 7)) []:=by
 (refine Q0t Tryz.func191 rfl (by rfl) ?_;simp only[Tryz.ntmps191,List.length_cons,List.length_nil,Nat.reduceAdd,Nat.reduceSub,List.replicate,List.cons_append,List.nil_append])
 (repeat(any_goals(first|((with_reducible refine Q0b ?_ ?_);rfl;intro K hK;simp(disch:=omega) only[go_sem,wrI];((repeat(refine ndI (by first|assumption|rfl) ?_));refine hK _ ?_;clear hK K))|(with_reducible first|(refine Q0c ?_;refine hR _ ?_;clear hR R)|((first|refine Q0e ?_|refine Q0f ?_);intro J hJ hJ')|(refine Q0a ?_;intro R hR)|(refine hJ _ ?_;clear hJ hJ' J)))))
 refine Q1t n (fun i=>⟨[vi .i64 (n:Int),.any,vi .u64 0,vi .i64 (R (7*i):Int),.any,.any,.any,.any,vi .i64 ((n:Int)+1),vi .i64 (i:Int),.any,.any,.any,.any,.any,.any,.any,.any,.any,.any,.any,.any,.any,.any,.any,.any,.any,.any,.any,.any,.any,.any,.any,.any,.any,.any,.any,.any],[]⟩) (St.le_of (by simp[leT,R0]) (by simp[leH,hget])) ?_
 intro i hi J hJ hJ'
 have hd:decide ((i:Int)<(n:Int)+1)=true:=by simp;omega
 (repeat(any_goals(first|((with_reducible refine Q0b ?_ ?_);rfl;intro K hK;simp(disch:=omega) only[go_sem,hd];((repeat(refine ndI (by first|assumption|rfl) ?_));refine hK _ ?_;clear hK K))|(with_reducible first|(refine Q0c ?_;refine hR _ ?_;clear hR R)|((first|refine Q0e ?_|refine Q0f ?_);intro J hJ hJ')|(refine Q0a ?_;intro R hR)|(refine hJ _ ?_;clear hJ hJ' J)|refine Q0h ?_)|((with_reducible apply Q0d);rfl;rfl;all_goals(intro hc;first|(cases hc;done)|(try simp only at hc))))))
 refine Q1t 7 (fun j=>⟨[vi .i64 (n:Int),.any,vi .u64 0,vi .i64 (R (7*i+j):Int),lvA (X i j),vi .i64 (i:Int),.any,.any,vi .i64 ((n:Int)+1),vi .i64 (i:Int),.any,.any,vi .i64 (j:Int),.any,.any,.any,.any,.any,.any,.any,.any,.any,.any,.any,.any,.any,.any,.any,.any,.any,.any,.any,.any,.any,.any,.any,.any,.any],[]⟩) (St.le_of (by simp[leT,X0]) (by simp[leH,hget])) ?_
 intro j hj J hJ hJ'
 by_cases hlt:j<7
 · have hr:=Rl (7*i+j)
   have hs:=Rs (7*i+j)
   have xs:=Xs i j
   rw[hs] at xs
   have hr2:=rS_lt _ hr
   have hb:=i64_x113 (R (7*i+j)) hr
   have rd:255<R (7*i+j)*2→rS (R (7*i+j))=(R (7*i+j)*2-256) ^^^ 113:=fun h=>if_pos h
   have re:¬255<R (7*i+j)*2→rS (R (7*i+j))=R (7*i+j)*2:=fun h=>if_neg h
   have hd7:decide ((j:Int)<7)=true:=by simp;omega
   obtain⟨r,hrv⟩:∃q,R (7*i+j)=q:=⟨_,rfl⟩
   obtain⟨s,hsv⟩:∃q,rS r=q:=⟨_,rfl⟩
   rw[hrv] at hr hr2 hb rd re xs
   simp only[hrv,hsv] at hr2 hb rd re xs
   have j1:(r:Int)*2=((r*2:Nat):Int):=by omega
   have j3:Int.tdiv (s:Int) 2=((s/2:Nat):Int):=by rw[Int.tdiv_eq_ediv_of_nonneg (by omega)];omega
   have j4:Int.tmod ((s/2:Nat):Int) 2=((s/2%2:Nat):Int):=by rw[Int.tmod_eq_emod_of_nonneg (by omega)];omega
   have q1:R (7*i+(j+1))=s:=by rw[←hsv,←hrv];exact hs
   rw[hrv]
   clear hs hrv hsv R0 Rl Rs X0 Xs
   have w1:IntKind.u64.wrap (1*2 ^ min (IntKind.u64.wrap (IntKind.u64.wrap (1*2 ^ min j 64)-1)).toNat 64)=((X6p j).toNat:Int):=by
    have key:∀k:Fin 7,IntKind.u64.wrap (1*2 ^ min (IntKind.u64.wrap (IntKind.u64.wrap (1*2 ^ min k.1 64)-1)).toNat 64)=((X6p k.1).toNat:Int):=by decide +kernel
    exact key ⟨j,hlt⟩
   have u1:=X7m (X i j) (X6p j)
   generalize X6p j=o at *
   by_cases c1:255<r*2
   · have hb:=hb c1
     have d1:decide ((255:Int)<((r*2:Nat):Int))=true:=by simp;omega
     have j2:((r*2:Nat):Int)-256=((r*2-256:Nat):Int):=by omega
     by_cases c2:s/2%2=1
     · rw[if_pos c2] at xs
       have d2:(((s/2%2:Nat):Int)==1)=true:=by rw[c2];rfl
       (have W:=ndI hd7 (ndI j1 (ndI j2 (ndI j3 (ndI j4 (ndI d1 (ndI d2 (ndI w1 (ndI u1 @wrI))))))));(repeat(any_goals(first|((with_reducible refine Q0b ?_ ?_);rfl;intro K hK;simp(disch:=omega) only[go_sem,W,hb];((repeat(refine ndI (by first|assumption|rfl) ?_));refine hK _ ?_;clear hK K))|(with_reducible first|(refine Q0c ?_;refine hR _ ?_;clear hR R)|((first|refine Q0e ?_|refine Q0f ?_);intro J hJ hJ')|(refine Q0a ?_;intro R hR)|(refine hJ _ ?_;clear hJ hJ' J)|refine Q0h ?_)|((with_reducible refine hJ' _ _ ?_ ?_);(focus(simp;done));clear hJ hJ' J)|((with_reducible apply Q0d);rfl;rfl;all_goals(intro hc;first|(cases hc;done)|(try simp only at hc)))))))
       exact hJ _ (by omega) (St.le_of (by simp[leT,q1,xs]) (by simp[leH,hget]))
     · rw[if_neg c2] at xs
       have d2:(((s/2%2:Nat):Int)==1)=false:=by simp;omega
       (have W:=ndI hd7 (ndI j1 (ndI j2 (ndI j3 (ndI j4 (ndI d1 (ndI d2 (ndI w1 (ndI u1 @wrI))))))));(repeat(any_goals(first|((with_reducible refine Q0b ?_ ?_);rfl;intro K hK;simp(disch:=omega) only[go_sem,W,hb];((repeat(refine ndI (by first|assumption|rfl) ?_));refine hK _ ?_;clear hK K))|(with_reducible first|(refine Q0c ?_;refine hR _ ?_;clear hR R)|((first|refine Q0e ?_|refine Q0f ?_);intro J hJ hJ')|(refine Q0a ?_;intro R hR)|(refine hJ _ ?_;clear hJ hJ' J)|refine Q0h ?_)|((with_reducible refine hJ' _ _ ?_ ?_);(focus(simp;done));clear hJ hJ' J)|((with_reducible apply Q0d);rfl;rfl;all_goals(intro hc;first|(cases hc;done)|(try simp only at hc)))))))
       exact hJ _ (by omega) (St.le_of (by simp[leT,q1,xs]) (by simp[leH,hget]))
   · have e:=re c1
     have j1:(r:Int)*2=(s:Int):=by omega
     have d1:decide ((255:Int)<(s:Int))=false:=by simp;omega
     by_cases c2:s/2%2=1
     · rw[if_pos c2] at xs
       have d2:(((s/2%2:Nat):Int)==1)=true:=by rw[c2];rfl
       (have W:=ndI hd7 (ndI j1 (ndI j3 (ndI j4 (ndI d1 (ndI d2 (ndI w1 (ndI u1 @wrI)))))));(repeat(any_goals(first|((with_reducible refine Q0b ?_ ?_);rfl;intro K hK;simp(disch:=omega) only[go_sem,W];((repeat(refine ndI (by first|assumption|rfl) ?_));refine hK _ ?_;clear hK K))|(with_reducible first|(refine Q0c ?_;refine hR _ ?_;clear hR R)|((first|refine Q0e ?_|refine Q0f ?_);intro J hJ hJ')|(refine Q0a ?_;intro R hR)|(refine hJ _ ?_;clear hJ hJ' J)|refine Q0h ?_)|((with_reducible refine hJ' _ _ ?_ ?_);(focus(simp;done));clear hJ hJ' J)|((with_reducible apply Q0d);rfl;rfl;all_goals(intro hc;first|(cases hc;done)|(try simp only at hc)))))))
       exact hJ _ (by omega) (St.le_of (by simp[leT,q1,xs]) (by simp[leH,hget]))
     · rw[if_neg c2] at xs
       have d2:(((s/2%2:Nat):Int)==1)=false:=by simp;omega
       (have W:=ndI hd7 (ndI j1 (ndI j3 (ndI j4 (ndI d1 (ndI d2 (ndI w1 (ndI u1 @wrI)))))));(repeat(any_goals(first|((with_reducible refine Q0b ?_ ?_);rfl;intro K hK;simp(disch:=omega) only[go_sem,W];((repeat(refine ndI (by first|assumption|rfl) ?_));refine hK _ ?_;clear hK K))|(with_reducible first|(refine Q0c ?_;refine hR _ ?_;clear hR R)|((first|refine Q0e ?_|refine Q0f ?_);intro J hJ hJ')|(refine Q0a ?_;intro R hR)|(refine hJ _ ?_;clear hJ hJ' J)|refine Q0h ?_)|((with_reducible refine hJ' _ _ ?_ ?_);(focus(simp;done));clear hJ hJ' J)|((with_reducible apply Q0d);rfl;rfl;all_goals(intro hc;first|(cases hc;done)|(try simp only at hc)))))))
       exact hJ _ (by omega) (St.le_of (by simp[leT,q1,xs]) (by simp[leH,hget]))
 · have hj7:j=7:=by omega
   subst hj7
   clear hd
   by_cases c:i=n
   · have d1:((i:Int)==(n:Int))=true:=by rw[c];simp
     rw[show X i 7=X n 7 by rw[c]]
     (repeat(any_goals(first|((with_reducible refine Q0b ?_ ?_);rfl;intro K hK;simp(disch:=omega) only[go_sem,d1,wrI];((repeat(refine ndI (by first|assumption|rfl) ?_));refine hK _ ?_;clear hK K))|(with_reducible first|(refine Q0c ?_;refine hR _ ?_;clear hR R)|((first|refine Q0e ?_);intro J hJ hJ')|(refine Q0a ?_;intro R hR)|(refine hJ _ ?_;clear hJ hJ' J)|refine Q0j ?_|refine Q0q ?_)|((with_reducible refine hJ' _ _ ?_ ?_);(focus(simp;done));clear hJ hJ' J)|((with_reducible apply Q0d);rfl;rfl;all_goals(intro hc;first|(cases hc;done)|(try simp only at hc))))))
     all_goals(refine⟨by simp,⟨_,?_,AV.le_refl _⟩,Q0g (by simp[leH,hget])⟩;simp only[Tryz.results191,resL,ldA,Q0m,go_sem])
   · have d1:((i:Int)==(n:Int))=false:=by simp;omega
     (repeat(any_goals(first|((with_reducible refine Q0b ?_ ?_);rfl;intro K hK;simp(disch:=omega) only[go_sem,d1,wrI];((repeat(refine ndI (by first|assumption|rfl) ?_));refine hK _ ?_;clear hK K))|(with_reducible first|(refine Q0c ?_;refine hR _ ?_;clear hR R)|((first|refine Q0e ?_);intro J hJ hJ')|(refine Q0a ?_;intro R hR)|(refine hJ _ ?_;clear hJ hJ' J)|refine Q0h ?_|refine Q0q ?_)|((with_reducible refine hJ' _ _ ?_ ?_);(focus(simp;done));clear hJ hJ' J)|((with_reducible apply Q0d);rfl;rfl;all_goals(intro hc;first|(cases hc;done)|(try simp only at hc))))))
     exact hJ _ (by omega) (St.le_of (by simp[leT,Nat.mul_add]) (by simp[leH,hget]))
theorem rN_s(k:Nat):rN (k+1)=rS (rN k):=rfl
theorem xN_s(i j:Nat):xN i (j+1)=if rN (7*i+j+1)/2%2=1 then xN i j ||| X6p j else xN i j:=rfl
theorem num_fn(n:Nat)(hn:n<24):Fn Tryz.prog 191 [vi .i64 (n:Int)] [] (lvA (numU n)) []:=by
 rw[←num_eq n hn]
 exact num_fnE n hn rN xN rfl rN_lt rN_s (fun _=>rfl) xN_s
def X0v(l:List UInt64)(n:UInt64):List UInt64:=(X6b (mixR l)).set 0 ((X6b (mixR l)).getD 0 0 ^^^ n)
theorem Q8t(l:List UInt64):(mixR l).length=l.length:=by rw[X6q,X7o,X9d]
theorem X3x(l:List UInt64):(X6b l).length=l.length:=by rw[X1t,eA_len]
theorem X9x(l:List UInt64)(n:UInt64):(X0v l n).length=l.length:=by unfold X0v;rw[List.length_set,X3x,Q8t]
theorem X9t(l p m:List UInt64)(k:Nat)(n:UInt64)(hl:l.length=25)(pl:p.length=25)(ml:m.length=25)
 (mx:Fn Tryz.prog 190 [lnA l] [] (lnA p) []) (rw':Fn Tryz.prog 189 [lnA p] [] (lnA m) [])
 (nf:Fn Tryz.prog 191 [vi .i64 (k:Int)] [] (lvA n) []) :
 Fn Tryz.prog 184 [lnA l,vi .i64 (k:Int)] [] (lnA (m.set 0 (m.getD 0 0 ^^^ n))) []:=by
 have r1:=fun d=>Q0n d l
 have b1:List.take 25 (rcV l)=rcV l:=Q1y l hl
 have b2:List.drop 25 (rcV l)=[]:=List.drop_eq_nil_of_le (by rw[Q1a];omega)
 have b3:(rcV l).length=25:=by rw[Q1a];exact hl
 have c1:List.take 25 (rcV m)=rcV m:=Q1y m ml
 have c3:(rcV m).length=25:=by rw[Q1a];exact ml
 have k1:=Q1l (l:=m) (i:=0) (by omega)
 have k4:=Q3t m 0 (m.getD 0 0 ^^^ n) (by omega)
 have hs:(m.set 0 (m.getD 0 0 ^^^ n)).length=25:=by rw[List.length_set];exact ml
 generalize m.getD 0 0=m0 at *
 have u1:=Q3y m0 n
 generalize m0 ^^^ n=z at *
 generalize m.set 0 z=q at *
 have d1:List.take 25 (rcV q)=rcV q:=Q1y q hs
 have d3:(rcV q).length=25:=by rw[Q1a];exact hs
 have d2:List.drop 25 (rcV q)=[]:=List.drop_eq_nil_of_le (by omega)
 (refine Q0t Tryz.func184 rfl (by rfl) ?_;simp only[Tryz.ntmps184,List.length_cons,List.length_nil,Nat.reduceAdd,Nat.reduceSub,List.replicate,List.cons_append,List.nil_append])
 (have W:=ndI r1 (ndI b1 (ndI b2 (ndI b3 (ndI c1 (ndI c3 (ndI k1 (ndI k4 (ndI u1 (ndI d1 (ndI d2 d3))))))))));(repeat(any_goals(first|((with_reducible refine Q0l ?_ ?_ ?_);rfl;rfl;intro K hK;((first|(apply Q0i (mx);rfl;rfl;rfl;rfl;exact Tryz.func190)|(apply Q0i (rw');rfl;rfl;rfl;rfl;exact Tryz.func189));kernel_rfl;rfl;(focus((simp(disch:=omega) only[go_sem,W,Q0n]);(try rfl);done));(first|simp[AV.inNL,AV.inN]));(simp(disch:=omega) only[go_sem,W,Q0n];refine hK _ ?_;clear hK K))|((with_reducible refine Q0b ?_ ?_);rfl;intro K hK;simp(disch:=omega) only[go_sem,W,Q0n];((repeat(refine ndI (by first|assumption|rfl) ?_));refine hK _ ?_;clear hK K))|(with_reducible first|(refine Q0c ?_;refine hR _ ?_;clear hR R)|((first|refine Q0e ?_);intro J hJ hJ')|(refine Q0a ?_;intro R hR)|(refine hJ _ ?_;clear hJ hJ' J)|refine Q0j ?_)|((with_reducible refine Q0z ?_ ?_);kernel_rfl;(with_reducible refine hR _ ?_);clear hR R)|((first|((with_reducible apply Q1h);rfl;rfl;((apply Q0y (nf);rfl;rfl;rfl;rfl;exact Tryz.func191);kernel_rfl;rfl;(focus((simp(disch:=omega) only[go_sem,W,Q0n]);(try rfl);done));(first|rfl)))|((with_reducible apply Q0x);rfl;rfl;(simp(disch:=omega) only[rdE,rdOf,go_sem,W,Q0n];rfl);(intro τ hA hQ hN;((try simp only[Q1i,Op.operands,Call.operands,go_sem,W,Q0n,go_sem,List.mem_cons,List.not_mem_nil,forall_eq_or_imp,forall_eq,List.append_toArray,Option.toArray] at hA);(try simp only[go_sem,W,Q0n,List.mem_cons,List.not_mem_nil,forall_eq_or_imp,forall_eq] at hQ hN);(first|(revert hA;intro hA));(first|(revert hQ;intro hQ));(first|(revert hN;intro hN));simp(disch:=omega) only[go_sem,W,Q0n,go_sem,hA,hQ,hN];(repeat(refine ndI (by first|assumption|omega|rfl) ?_));(first|apply Q1b|apply Q4a)))));(simp(disch:=omega) only[St.eff,setO,Q0u,go_sem,W,Q0n]))|((with_reducible refine Q0w ?_ ?_ ?_ ?_);kernel_rfl;kernel_rfl;(simp[Q2a,Q5q,St.free,Q1z,AV.refsL,AV.refs,Q0n]);intro R hR)))))
 all_goals(refine⟨by simp,⟨_,?_,AV.le_refl _⟩,Q0g (by simp[leH,hget])⟩;simp only[Tryz.results184,resL,ldA,Q0m,go_sem,d1];rw[if_pos (by omega)];rfl)
theorem rround_fn(l:List UInt64)(k:Nat)(hk:k<24)(hl:l.length=25):Fn Tryz.prog 184 [lnA l,vi .i64 (k:Int)] [] (lnA (X0v l (numU k))) []:=
 X9t l (mixR l) (X6b (mixR l)) k (numU k) hl ((Q8t l).trans hl) ((X3x _).trans ((Q8t l).trans hl)) (rmix_fn l hl) (rrows_fn _ ((Q8t l).trans hl)) (num_fn k hk)
def pR(l:List UInt64):Nat→List UInt64
 |0=>l
 |k+1=>X0v (pR l k) (numU k)
theorem pR_len(l:List UInt64):∀k,(pR l k).length=l.length
 |0=>rfl
 |k+1=>(X9x _ _).trans (pR_len l k)
theorem rperm_fnE(P:Nat→List UInt64)(lP:∀k,(P k).length=25)
 (rd:∀i:Nat,i<24→Fn Tryz.prog 184 [lnA (P i),vi .i64 (i:Int)] [] (lnA (P (i+1))) []):Fn Tryz.prog 174 [lnA (P 0)] [] (lnA (P 24)) []:=by
 have r1:=fun k d=>Q0n d (P k)
 (refine Q0t Tryz.func174 rfl (by rfl) ?_;simp only[Tryz.ntmps174,List.length_cons,List.length_nil,Nat.reduceAdd,Nat.reduceSub,List.replicate,List.cons_append,List.nil_append])
 (repeat(any_goals(first|((with_reducible refine Q0b ?_ ?_);rfl;intro K hK;simp(disch:=omega) only[go_sem,r1,Q0n];((repeat(refine ndI (by first|assumption|rfl) ?_));refine hK _ ?_;clear hK K))|(with_reducible first|(refine Q0c ?_;refine hR _ ?_;clear hR R)|((first|refine Q0e ?_|refine Q0f ?_);intro J hJ hJ')|(refine Q0a ?_;intro R hR)|(refine hJ _ ?_;clear hJ hJ' J)))))
 refine Q1t 24 (fun i=>⟨[lnA (P 0),.ptr 1 0,.ptr 2 0,.any,vi .i64 (i:Int),.any,.any,.any,.any,.any,.any,.any],[(1,rcV (P i)),(2,rcV (zer 25))]⟩) (St.le_of (by simp[leT]) (by simp[leH,hget];rfl)) ?_
 intro i hi J hJ hJ'
 by_cases hlt:i<24
 · have rf:=rd i hlt
   have b1:List.take 25 (rcV (P (i+1)))=rcV (P (i+1)):=Q1y _ (lP _)
   have b2:(rcV (P (i+1))).length=25:=by rw[Q1a];exact lP _
   have b3:List.drop 25 (rcV (P i))=[]:=List.drop_eq_nil_of_le (by rw[Q1a,lP];omega)
   have b4:List.take 25 (rcV (P i))=rcV (P i):=Q1y _ (lP i)
   have b5:(rcV (P i)).length=25:=by rw[Q1a];exact lP i
   clear rd lP r1
   have hd:decide ((i:Int)<24)=true:=by simp;omega
   (have W:=ndI b1 (ndI b2 (ndI b3 (ndI b4 (ndI b5 @wrI))));(repeat(any_goals(first|((with_reducible refine Q0l ?_ ?_ ?_);rfl;rfl;intro K hK;((apply Q0i (rf);rfl;rfl;rfl;rfl;exact Tryz.func184);kernel_rfl;rfl;(focus((simp(disch:=omega) only[go_sem,W,hd,Q0n,Nat.mul_one,Int.toNat_natCast]);(try rfl);done));(first|simp[AV.inNL,AV.inN]));(simp(disch:=omega) only[go_sem,W,hd,Q0n,Nat.mul_one,Int.toNat_natCast];refine hK _ ?_;clear hK K))|((with_reducible refine Q0b ?_ ?_);rfl;intro K hK;simp(disch:=omega) only[go_sem,W,hd,Q0n,Nat.mul_one,Int.toNat_natCast];((repeat(refine ndI (by first|assumption|rfl) ?_));refine hK _ ?_;clear hK K))|(with_reducible first|(refine Q0c ?_;refine hR _ ?_;clear hR R)|((first|refine Q0e ?_|refine Q0f ?_);intro J hJ hJ')|(refine Q0a ?_;intro R hR)|(refine hJ _ ?_;clear hJ hJ' J)|refine Q0h ?_)|((with_reducible refine hJ' _ _ ?_ ?_);(focus(simp;done));clear hJ hJ' J)|((with_reducible apply Q0d);rfl;rfl;all_goals(intro hc;first|(cases hc;done)|(try simp only at hc)))))))
   exact hJ _ (by omega) (St.le_of (by simp[leT]) (by simp[leH,hget]))
 · have hi24:i=24:=by omega
   subst hi24
   have b1:List.take 25 (rcV (P 24))=rcV (P 24):=Q1y _ (lP _)
   have b2:(rcV (P 24)).length=25:=by rw[Q1a];exact lP _
   have z1:List.drop 25 (rcV (zer 25))=[]:=List.drop_eq_nil_of_le (by rw[Q1a,Q5f];omega)
   have z2:(rcV (zer 25)).length=25:=by rw[Q1a,Q5f]
   generalize zer 25=z at *
   clear rd lP r1
   (have W:=ndI b1 (ndI b2 (ndI z1 z2));(repeat(any_goals(first|((with_reducible refine Q0b ?_ ?_);rfl;intro K hK;simp(disch:=omega) only[go_sem,W,Q0n];((repeat(refine ndI (by first|assumption|rfl) ?_));refine hK _ ?_;clear hK K))|(with_reducible first|(refine Q0c ?_;refine hR _ ?_;clear hR R)|((first|refine Q0e ?_);intro J hJ hJ')|(refine Q0a ?_;intro R hR)|(refine hJ _ ?_;clear hJ hJ' J)|refine Q0j ?_|refine Q0q ?_)|((with_reducible refine hJ' _ _ ?_ ?_);(focus(simp;done));clear hJ hJ' J)|((with_reducible apply Q0d);rfl;rfl;all_goals(intro hc;first|(cases hc;done)|(try simp only at hc)))))))
   all_goals(refine⟨by simp,⟨_,?_,AV.le_refl _⟩,Q0g (by simp[leH,hget])⟩;simp only[Tryz.results174,resL,ldA,Q0m,go_sem,b1];rw[if_pos (by omega)];rfl)
theorem rperm_fn(l:List UInt64)(hl:l.length=25):Fn Tryz.prog 174 [lnA l] [] (lnA (pR l 24)) []:=
 rperm_fnE (pR l) (fun k=>(pR_len l k).trans hl) fun i hi=>rround_fn _ i hi ((pR_len l i).trans hl)
end
section
open Go.RowKit
set_option maxRecDepth 20000
set_option maxHeartbeats 2000000
theorem Q1j{l:List UInt64}{n:Nat}(h:l.length=n+1):∃a t,l=a::t∧t.length=n:=by
 cases l with
 |nil=>simp at h
 |cons a t=>exact⟨a,t,rfl,by simpa using h⟩
def rB(l:List UInt64):Nat→List UInt64
 |0=>zer 25
 |k+1=>(rB l k).set k (l.getD k 0 ^^^ (l.getD (5*(k/5)+(k%5+2)%5) 0 &&& ~~~ l.getD (5*(k/5)+(k%5+1)%5) 0))
theorem rB_eq(l:List UInt64):∀k,rA l k=rB l k
 |0=>rfl
 |k+1=>by unfold rA rB;rw[rB_eq l k,UInt64.and_comm]
theorem X9v(a0 a1 a2 a3 a4 a5 a6 a7 a8 a9 a10 a11 a12 a13 a14 a15 a16 a17 a18 a19 a20 a21 a22 a23 a24:UInt64):rB [a0,a1,a2,a3,a4,a5,a6,a7,a8,a9,a10,a11,a12,a13,a14,a15,a16,a17,a18,a19,a20,a21,a22,a23,a24] 25=eA [a0,a1,a2,a3,a4,a5,a6,a7,a8,a9,a10,a11,a12,a13,a14,a15,a16,a17,a18,a19,a20,a21,a22,a23,a24] 25:=by kernel_rfl
theorem mix_lanes(a0 a1 a2 a3 a4 a5 a6 a7 a8 a9 a10 a11 a12 a13 a14 a15 a16 a17 a18 a19 a20 a21 a22 a23 a24 c0 c1 c2 c3 c4:UInt64):bA [a0,a1,a2,a3,a4,a5,a6,a7,a8,a9,a10,a11,a12,a13,a14,a15,a16,a17,a18,a19,a20,a21,a22,a23,a24] [c0,c1,c2,c3,c4] 25=(tA (dA [a0,a1,a2,a3,a4,a5,a6,a7,a8,a9,a10,a11,a12,a13,a14,a15,a16,a17,a18,a19,a20,a21,a22,a23,a24] [c0,c1,c2,c3,c4] 25) 24).2.set 0 (rotU ((tA (dA [a0,a1,a2,a3,a4,a5,a6,a7,a8,a9,a10,a11,a12,a13,a14,a15,a16,a17,a18,a19,a20,a21,a22,a23,a24] [c0,c1,c2,c3,c4] 25) 24).2.getD 0 0) 0):=by kernel_rfl
theorem lanes25(l:List UInt64)(h:l.length=25):∃a0 a1 a2 a3 a4 a5 a6 a7 a8 a9 a10 a11 a12 a13 a14 a15 a16 a17 a18 a19 a20 a21 a22 a23 a24,l=[a0,a1,a2,a3,a4,a5,a6,a7,a8,a9,a10,a11,a12,a13,a14,a15,a16,a17,a18,a19,a20,a21,a22,a23,a24]:=by
 obtain⟨a0,t0,e0,h0⟩:=Q1j h
 obtain⟨a1,t1,e1,h1⟩:=Q1j h0
 obtain⟨a2,t2,e2,h2⟩:=Q1j h1
 obtain⟨a3,t3,e3,h3⟩:=Q1j h2
 obtain⟨a4,t4,e4,h4⟩:=Q1j h3
 obtain⟨a5,t5,e5,h5⟩:=Q1j h4
 obtain⟨a6,t6,e6,h6⟩:=Q1j h5
 obtain⟨a7,t7,e7,h7⟩:=Q1j h6
 obtain⟨a8,t8,e8,h8⟩:=Q1j h7
 obtain⟨a9,t9,e9,h9⟩:=Q1j h8
 obtain⟨a10,t10,e10,h10⟩:=Q1j h9
 obtain⟨a11,t11,e11,h11⟩:=Q1j h10
 obtain⟨a12,t12,e12,h12⟩:=Q1j h11
 obtain⟨a13,t13,e13,h13⟩:=Q1j h12
 obtain⟨a14,t14,e14,h14⟩:=Q1j h13
 obtain⟨a15,t15,e15,h15⟩:=Q1j h14
 obtain⟨a16,t16,e16,h16⟩:=Q1j h15
 obtain⟨a17,t17,e17,h17⟩:=Q1j h16
 obtain⟨a18,t18,e18,h18⟩:=Q1j h17
 obtain⟨a19,t19,e19,h19⟩:=Q1j h18
 obtain⟨a20,t20,e20,h20⟩:=Q1j h19
 obtain⟨a21,t21,e21,h21⟩:=Q1j h20
 obtain⟨a22,t22,e22,h22⟩:=Q1j h21
 obtain⟨a23,t23,e23,h23⟩:=Q1j h22
 obtain⟨a24,t24,e24,h24⟩:=Q1j h23
 have e25:=List.eq_nil_of_length_eq_zero h24
 exact⟨a0,a1,a2,a3,a4,a5,a6,a7,a8,a9,a10,a11,a12,a13,a14,a15,a16,a17,a18,a19,a20,a21,a22,a23,a24,by rw[e0,e1,e2,e3,e4,e5,e6,e7,e8,e9,e10,e11,e12,e13,e14,e15,e16,e17,e18,e19,e20,e21,e22,e23,e24,e25]⟩
theorem lanes5(l:List UInt64)(h:l.length=5):∃c0 c1 c2 c3 c4,l=[c0,c1,c2,c3,c4]:=by
 obtain⟨a0,t0,e0,h0⟩:=Q1j h
 obtain⟨a1,t1,e1,h1⟩:=Q1j h0
 obtain⟨a2,t2,e2,h2⟩:=Q1j h1
 obtain⟨a3,t3,e3,h3⟩:=Q1j h2
 obtain⟨a4,t4,e4,h4⟩:=Q1j h3
 have e5:=List.eq_nil_of_length_eq_zero h4
 exact⟨a0,a1,a2,a3,a4,by rw[e0,e1,e2,e3,e4,e5]⟩
theorem set_getD(l:List UInt64)(h:0<l.length):l.set 0 (l.getD 0 0)=l:=by
 cases l with
 |nil=>simp at h
 |cons a t=>rfl
theorem rows_eq(l:List UInt64)(h:l.length=25):X6b l=X6c l:=by
 rw[X1t]
 unfold X6c
 rw[rB_eq]
 obtain⟨a0,a1,a2,a3,a4,a5,a6,a7,a8,a9,a10,a11,a12,a13,a14,a15,a16,a17,a18,a19,a20,a21,a22,a23,a24,rfl⟩:=lanes25 l h
 exact(X9v ..).symm
theorem mix_eq(l:List UInt64)(h:l.length=25):mixR l=mixC l:=by
 rw[X6q]
 unfold mixC
 have hc:=X5l l 25
 have ht:=X7o (dA l (cA l 25) 25) 24
 rw[X9d,h] at ht
 generalize cA l 25=c at *
 obtain⟨a0,a1,a2,a3,a4,a5,a6,a7,a8,a9,a10,a11,a12,a13,a14,a15,a16,a17,a18,a19,a20,a21,a22,a23,a24,rfl⟩:=lanes25 l h
 obtain⟨c0,c1,c2,c3,c4,rfl⟩:=lanes5 c hc
 rw[mix_lanes,X3z,set_getD _ (by omega)]
theorem round_eq(l:List UInt64)(n:UInt64)(h:l.length=25):X0v l n=X0w l n:=by
 unfold X0v X0w
 rw[mix_eq l h,rows_eq _ (X2j l)]
theorem p_eq(l:List UInt64)(h:l.length=25):∀k,pR l k=pC l k
 |0=>rfl
 |k+1=>by
  unfold pR pC
  rw[p_eq l h k,round_eq _ _ (X8h l h k)]
theorem permR_fn(l:List UInt64)(hl:l.length=25):Fn Tryz.prog 174 [lnA l] [] (lnA (Z0g l)) []:=by
 have h:=rperm_fn l hl
 rw[p_eq l hl] at h
 exact h
end
section
open Go.RowKit
open Nat (reduceBEq)
set_option maxRecDepth 20000
set_option maxHeartbeats 2000000
theorem rcB_app(l r:List Nat):rcB (l++r)=rcB l++rcB r:=by
 unfold rcB;rw[List.flatMap_append,List.map_append]
theorem rcB_take(l:List Nat)(k:Nat):(rcB l).take k=rcB (l.take k):=by
 unfold rcB
 rw[Q3z,Q3z,List.map_map,List.map_map,List.map_take]
theorem X7y(l:List Nat)(k:Nat):(rcB l).drop k=rcB (l.drop k):=by
 unfold rcB
 rw[Q3z,Q3z,List.map_map,List.map_map,List.map_drop]
theorem Q2y(l:List Nat):(rcB l).length=l.length:=by rw[rcB_len,Nat.mul_one]
theorem Q7r(l:List Nat)(k x:Nat)(h:k<l.length):(rcB l).take k++[vi .u8 (x:Int)]++(rcB l).drop (k+1)=rcB (l.set k x):=by
 rw[rcB_take,X7y,List.set_eq_take_append_cons_drop,if_pos h,rcB_app,List.append_assoc]
 rfl
theorem rcB_at{l:List Nat}{k x:Nat}(h:l[k]? = some x):(rcB l)[k]? = some (vi .u8 (x:Int)):=by
 unfold rcB
 rw[Q3z,List.map_map,List.getElem?_map,h];rfl
theorem Q6w(n:Nat):List.replicate n (AV.c (.v (.int .u8 0)))=rcB (List.replicate n 0):=by
 unfold rcB
 rw[Q3z,List.map_map,List.map_replicate];rfl
def padT(k:Nat):List Nat:=if k=0 then[129] else 1::(List.replicate (k-1) 0++[128])
def padL(l:List Nat):List Nat:=l++padT (135-l.length%136)
def padN(l:List Nat):Nat:=(l.length/136+1)*136
theorem padT_len(k:Nat):(padT k).length=k+1:=by
 unfold padT
 split
 · rename_i h;rw[h];rfl
 · simp;omega
theorem Q6y(l:List Nat):(padL l).length=padN l:=by
 unfold padL padN;rw[List.length_append,padT_len];omega
theorem pad_set(l:List Nat):∃x,((l++List.replicate (padN l-l.length) 0).set l.length 1)[padN l-1]? = some x∧x<2∧((l++List.replicate (padN l-l.length) 0).set l.length 1).set (padN l-1) (x+128)=padL l:=by
 obtain⟨k,hk⟩:∃k,135-l.length%136=k:=⟨_,rfl⟩
 have hN:padN l=l.length+(k+1):=by unfold padN;omega
 have e1:padN l-l.length=k+1:=by omega
 have e2:padN l-1=l.length+k:=by omega
 have e3:(l++List.replicate (k+1) 0).set l.length 1=l++1::List.replicate k 0:=by
  rw[List.set_append_right _ _ (Nat.le_refl _),Nat.sub_self,List.replicate_succ,List.set_cons_zero]
 unfold padL
 rw[hk,e1,e2,e3]
 have e4:∀y:Nat,(l++1::List.replicate k 0).set (l.length+k) y=l++(1::List.replicate k 0).set k y:=fun y=>by
  rw[List.set_append_right _ _ (by omega),Nat.add_sub_cancel_left]
 simp only[e4]
 rw[List.getElem?_append_right (by omega),Nat.add_sub_cancel_left]
 unfold padT
 cases k with
 |zero=>exact⟨1,rfl,by omega,by rw[if_pos rfl];rfl⟩
 |succ k=>
  refine⟨0,?_,by omega,?_⟩
  · rw[List.getElem?_cons_succ,List.getElem?_replicate,if_pos (by omega)]
  · rw[if_neg (by omega),List.set_cons_succ,Nat.zero_add,Nat.add_sub_cancel]
    congr 2
    rw[List.replicate_succ',List.set_append_right _ _ (by rw[List.length_replicate];omega),List.length_replicate,Nat.sub_self]
    rfl
theorem u8_or128(x:Nat)(h:x<2):IntKind.u8.wrap ((@HOr.hOr (BitVec 8) (BitVec 8) (BitVec 8) (@instHOrOfOrOp (BitVec IntKind.u8.bits) (@BitVec.instOrOp IntKind.u8.bits)) (BitVec.ofInt 8 (x:Int)) (BitVec.ofInt 8 128)).toNat:Int)=((x+128:Nat):Int):=by
 have c:x=0∨x=1:=by omega
 rcases c with rfl|rfl<;>decide
theorem pad_row(ex:Bool)(l:List Nat)(hl:l.length≤1000):Fn Tryz.prog 186 [bsl ex l] [] (.row 9 5 1 (padN l)) [(9,rcB (padL l))]:=by
 obtain⟨x,px,hx,ps⟩:=pad_set l
 have hN:padN l=(l.length/136+1)*136:=rfl
 obtain⟨N,hNv⟩:∃q,padN l=q:=⟨_,rfl⟩
 have lN:=Q6y l
 rw[hNv] at px ps hN lN ⊢
 have hN1:l.length<N:=by omega
 have hN2:N≤1200:=by omega
 have j1:Int.tdiv (l.length:Int) 136=((l.length/136:Nat):Int):=by rw[Int.tdiv_eq_ediv_of_nonneg (by omega)];omega
 have j2:((l.length/136:Nat):Int)+1=((l.length/136+1:Nat):Int):=by omega
 have j3:((l.length/136+1:Nat):Int)*136=(N:Int):=by omega
 (refine Q0t Tryz.func186 rfl (by rfl) ?_;simp only[Tryz.ntmps186,List.length_cons,List.length_nil,Nat.reduceAdd,Nat.reduceSub,List.replicate,List.cons_append,List.nil_append])
 (have W:=ndI j1 (ndI j2 (ndI j3 @wrI));(repeat(any_goals(first|((with_reducible refine Q0b ?_ ?_);rfl;intro K hK;simp(disch:=omega) only[go_sem,W];((repeat(refine ndI (by first|assumption|rfl) ?_));refine hK _ ?_;clear hK K))|(with_reducible first|(refine Q0c ?_;refine hR _ ?_;clear hR R)|((first|refine Q0e ?_);intro J hJ hJ')|(refine Q0a ?_;intro R hR)|(refine hJ _ ?_;clear hJ hJ' J))))))
 refine Q2n ?_ ?_
 rfl
 intro K hK
 refine X8k (n:=N) (z:=.int .u8 0) rfl rfl rfl (by(focus(simp only[go_sem];try rfl))) (by kernel_rfl) rfl rfl rfl rfl rfl rfl (by omega) (by omega) (by unfold maxLen;omega) rfl (by simp[St.free,Q1z,AV.refs,AV.refsL]) (by omega) ?_
 simp only[go_sem]
 refine hK _ ?_
 clear hK K
 rw[Q6w]
 have z1:(rcB (List.replicate N 0)).length=N:=by rw[Q2y,List.length_replicate]
 have b1:(rcB l).length=l.length:=Q2y l
 have b2:(rcB l).take l.length=rcB l:=List.take_of_length_le (by omega)
 have c1:spl (rcB (List.replicate N 0)) 0 (rcB l)=rcB (l++List.replicate (N-l.length) 0):=by
  unfold spl
  rw[List.take_zero,List.nil_append,X7y,b1,Nat.zero_add,List.drop_replicate,rcB_app]
 have m0:min l.length N=l.length:=Nat.min_eq_left (by omega)
 have lA:(l++List.replicate (N-l.length) 0).length=N:=by rw[List.length_append,List.length_replicate];omega
 have k1:=Q7r (l++List.replicate (N-l.length) 0) l.length 1 (by omega)
 rw[show((1:Nat):Int)=1 from rfl] at k1
 have lB:((l++List.replicate (N-l.length) 0).set l.length 1).length=N:=by rw[List.length_set];exact lA
 have k2:=rcB_at px
 have k3:=Q7r ((l++List.replicate (N-l.length) 0).set l.length 1) (N-1) (x+128) (by omega)
 rw[ps] at k3
 have u1:=u8_or128 x hx
 have a1:=Q2y (l++List.replicate (N-l.length) 0)
 have a2:=Q2y ((l++List.replicate (N-l.length) 0).set l.length 1)
 rw[lA] at a1
 rw[lB] at a2
 have j4:(N:Int)-1=((N-1:Nat):Int):=by omega
 clear px ps lN
 generalize List.replicate N 0=q0 at *
 generalize (l++List.replicate (N-l.length) 0).set l.length 1=q2 at *
 generalize l++List.replicate (N-l.length) 0=q1 at *
 have b3:(List.flatMap bpv l).map AV.c=rcB l:=rfl
 (repeat(any_goals(first|((with_reducible refine Q0b ?_ ?_);rfl;intro K hK;simp only[go_sem];((repeat(refine ndI (by first|assumption) ?_));refine hK _ ?_;clear hK K))|(with_reducible first|(refine Q0c ?_;refine hR _ ?_;clear hR R)|((first|refine Q0e ?_);intro J hJ hJ')|(refine Q0a ?_;intro R hR)|(refine hJ _ ?_;clear hJ hJ' J)))))
 refine Q2n ?_ ?_
 rfl
 intro K hK
 refine opA_copy (sz:=1) (r:=9) (e:=5) (lo:=0) (n:=N) (m:=l.length) (cs:=rcB q0) (ds:=rcB l) rfl rfl rfl (by(focus(simp only[go_sem];try rfl))) (by omega) rfl rfl rfl rfl (by omega) (by omega) ?_
 simp only[go_sem,m0,b2,c1,Nat.mul_one,Nat.zero_mul]
 refine hK _ ?_
 clear hK K
 (have W:=ndI b1 (ndI k1 (ndI k2 (ndI k3 (ndI u1 (ndI a1 (ndI a2 (ndI j4 @wrI)))))));(repeat(any_goals(first|((with_reducible refine Q0b ?_ ?_);rfl;intro K hK;simp(disch:=omega) only[go_sem,W,Nat.mul_one,Nat.zero_mul,Nat.zero_add,Int.toNat_natCast];((repeat(refine ndI (by first|assumption|omega|rfl) ?_));refine hK _ ?_;clear hK K))|(with_reducible first|(refine Q0c ?_;refine hR _ ?_;clear hR R)|((first|refine Q0e ?_);intro J hJ hJ')|(refine Q0a ?_;intro R hR)|(refine hJ _ ?_;clear hJ hJ' J)|refine Q0j ?_)))))
 all_goals(refine⟨by simp,⟨_,?_,AV.le_refl _⟩,Q0g (by simp[leH,hget])⟩;simp only[Tryz.results186,resL,ldA,Q0m,go_sem])
theorem pad_fn(ex:Bool)(l:List Nat)(hl:l.length≤1000):Fn Tryz.prog 186 [bsl ex l] [] (bsl false (padL l)) []:=by
 have h:=pad_row ex l hl
 rw[←Q6y] at h
 have h2:=Fn.frzG (d:=9) (pcs:=(padL l).flatMap bpv) h
 simp only[AV.frz,beq_self_eq_true,if_true] at h2
 rw[if_pos (by rw[Q0s Q2x])] at h2
 exact h2
end
section
open Go.RowKit
open Nat (reduceBEq)
set_option maxRecDepth 20000
set_option maxHeartbeats 2000000
abbrev stP(ex:Bool)(l:List Nat)(r:Nat)(out:List Nat):St:=⟨[bsl ex l,.any,.any,.row r 5 1 out.length,.any,.any,.any,.any,.any,.any,.any,.any,.any,.any,.any,.any,.any,.any,.any,.any,.any,.any,.any,.any,.any,.any],[(r,rcB out)]⟩
theorem stP_rn(ex:Bool)(l out:List Nat):(stP ex l 16 out).to (stP ex l 9 out):=by
 have h:=St.to.rn (σ:=stP ex l 16 out) (fun r=>if r=16 then 9 else r) (fun r=>if r=9 then 16 else r) [16] (by simp[AV.inNL,AV.inN]) (by simp) (by simp[inH,AV.inNL,AV.inN,rcB]) (by simp) (by simp)
 simpa [AV.renL,AV.ren,renH,rcB,stP] using h
def outP(l:List Nat)(i:Nat):List Nat:=l++1::List.replicate i 0
theorem X1x(l:List Nat)(i:Nat):(outP l i).length=l.length+1+i:=by unfold outP;simp;omega
theorem outP_s(l:List Nat)(i:Nat):outP l (i+1)=outP l i++[0]:=by
 unfold outP;rw[List.replicate_succ',List.append_assoc];rfl
theorem outP_set(l:List Nat)(k:Nat):∃x,(outP l k)[l.length+k]? = some x∧x<2∧(outP l k).set (l.length+k) (x+128)=l++padT k:=by
 unfold outP
 have e4:∀y:Nat,(l++1::List.replicate k 0).set (l.length+k) y=l++(1::List.replicate k 0).set k y:=fun y=>by
  rw[List.set_append_right _ _ (by omega),Nat.add_sub_cancel_left]
 simp only[e4]
 rw[List.getElem?_append_right (by omega),Nat.add_sub_cancel_left]
 unfold padT
 cases k with
 |zero=>exact⟨1,rfl,by omega,by rw[if_pos rfl];rfl⟩
 |succ k=>
  refine⟨0,?_,by omega,?_⟩
  · rw[List.getElem?_cons_succ,List.getElem?_replicate,if_pos (by omega)]
  · rw[if_neg (by omega),List.set_cons_succ,Nat.zero_add,Nat.add_sub_cancel]
    congr 2
    rw[List.replicate_succ',List.set_append_right _ _ (by rw[List.length_replicate];omega),List.length_replicate,Nat.sub_self]
    rfl
theorem rpad_row(ex:Bool)(l:List Nat)(hl:l.length≤1000):Fn Tryz.prog 173 [bsl ex l] [] (.row 9 5 1 (padL l).length) [(9,rcB (padL l))]:=by
 have b1:=Q2y l
 have b2:(List.flatMap bpv l).length=l.length:=by rw[Q0s Q2x,Nat.mul_one]
 (refine Q0t Tryz.func173 rfl (by rfl) ?_;simp only[Tryz.ntmps173,List.length_cons,List.length_nil,Nat.reduceAdd,Nat.reduceSub,List.replicate,List.cons_append,List.nil_append])
 (have W:=ndI b1 (ndI b2 @Q0o);(repeat(any_goals(first|((with_reducible refine Q0b ?_ ?_);rfl;intro K hK;simp(disch:=omega) only[go_sem,W,List.length_map,Nat.mul_one,Nat.zero_add,List.nil_append,Q1s,Q2m,AV.refsL,AV.refs,List.length_append,List.length_cons,List.length_nil,Bool.or_false];((repeat(refine ndI (by first|assumption|omega|rfl) ?_));refine hK _ ?_;clear hK K))|(with_reducible first|(refine Q0c ?_;refine hR _ ?_;clear hR R)|((first|refine Q0e ?_|refine Q0f ?_);intro J hJ hJ')|(refine Q0a ?_;intro R hR)|(refine hJ _ ?_;clear hJ hJ' J))))))
 obtain⟨k,hk⟩:∃k,135-l.length%136=k:=⟨_,rfl⟩
 refine Q3r k (fun i=>stP ex l 9 (outP l i)) ?_ ?_
 · refine St.to.of_le (St.le_of ?_ ?_)
   · simp[leT,X1x]
   · simp[leH,hget,rcB,outP,bpv]
 intro i hi J hJ hJ'
 dsimp only[stP] at hJ ⊢
 rcases Nat.lt_or_ge i k with hlt|hge
 · have ol:=X1x l i
   rw[outP_s] at hJ
   generalize outP l i=out at *
   have k2:=Q2y out
   have j1:Int.tmod (out.length:Int) 136=((out.length%136:Nat):Int):=by rw[Int.tmod_eq_emod_of_nonneg (by omega)];omega
   have k1:(((out.length%136:Nat):Int) != 0)=true:=by rw[bne_iff_ne,ne_eq];omega
   (have W:=ndI j1 (ndI k1 (ndI k2 (ndI @wrI @Q0o)));(repeat(any_goals(first|((with_reducible refine Q0b ?_ ?_);rfl;intro K hK;simp(disch:=omega) only[go_sem,W,Q1s,Q2m,AV.refsL,AV.refs,List.length_append,List.length_cons,List.length_nil,Bool.or_false,Nat.mul_one];((repeat(refine ndI (by first|assumption|omega|rfl) ?_));refine hK _ ?_;clear hK K))|(with_reducible first|(refine Q0c ?_;refine hR _ ?_;clear hR R)|((first|refine Q0e ?_|refine Q0f ?_);intro J hJ hJ')|(refine Q0a ?_;intro R hR)|(refine hJ _ ?_;clear hJ hJ' J)|refine Q0h ?_)|((with_reducible refine hJ' _ _ ?_ ?_);(focus(simp;done));clear hJ hJ' J)|((with_reducible apply Q0d);rfl;rfl;all_goals(intro hc;first|(cases hc;done)|(try simp only at hc)))))))
   all_goals exact hJ _ hlt (St.to.trans (St.to.of_le (τ:=stP ex l 16 (out++[0])) (St.le_of (by simp[leT]) (by simp[leH,hget,rcB,bpv]))) (stP_rn ex l _))
 · obtain rfl:i=k:=by omega
   obtain⟨x,px,hx,ps⟩:=outP_set l i
   have ol:=X1x l i
   have pe:padL l=l++padT i:=by unfold padL;rw[hk]
   have k3:=Q7r (outP l i) (l.length+i) (x+128) (by omega)
   rw[ps,←pe] at k3
   have k4:=rcB_at px
   have k5:(padL l).length=(outP l i).length:=by rw[Q6y,ol];unfold padN;omega
   clear ps px pe
   rw[←k5]
   rw[←k5] at ol
   have k2:=Q2y (outP l i)
   rw[←k5] at k2
   clear k5
   generalize outP l i=out at *
   have j1:Int.tmod ((padL l).length:Int) 136=(((padL l).length%136:Nat):Int):=by rw[Int.tmod_eq_emod_of_nonneg (by omega)];omega
   have k1:((((padL l).length%136:Nat):Int) != 0)=false:=by rw[bne_eq_false_iff_eq];omega
   have j2:((padL l).length:Int)-1=((l.length+i:Nat):Int):=by omega
   have u1:IntKind.u8.wrap ((x:Int)+128)=((x+128:Nat):Int):=by rw[IntKind.wrap_u8];omega
   (have W:=ndI j1 (ndI j2 (ndI k1 (ndI k2 (ndI k3 (ndI k4 (ndI u1 @wrI))))));(repeat(any_goals(first|((with_reducible refine Q0b ?_ ?_);rfl;intro K hK;simp(disch:=omega) only[go_sem,W,Nat.mul_one,Nat.zero_add,Int.toNat_natCast];((repeat(refine ndI (by first|assumption|omega|rfl) ?_));refine hK _ ?_;clear hK K))|(with_reducible first|(refine Q0c ?_;refine hR _ ?_;clear hR R)|((first|refine Q0e ?_);intro J hJ hJ')|(refine Q0a ?_;intro R hR)|(refine hJ _ ?_;clear hJ hJ' J)|refine Q0j ?_|refine Q0q ?_)|((with_reducible refine hJ' _ _ ?_ ?_);(focus(simp;done));clear hJ hJ' J)|((with_reducible apply Q0d);rfl;rfl;all_goals(intro hc;first|(cases hc;done)|(try simp only at hc)))))))
   all_goals(refine⟨by simp,⟨_,?_,AV.le_refl _⟩,Q0g (by simp[leH,hget])⟩;simp only[Tryz.results173,resL,ldA,Q0m,go_sem])
theorem rpad_fn(ex:Bool)(l:List Nat)(hl:l.length≤1000):Fn Tryz.prog 173 [bsl ex l] [] (bsl false (padL l)) []:=by
 have h2:=Fn.frzG (d:=9) (pcs:=(padL l).flatMap bpv) (rpad_row ex l hl)
 simp only[AV.frz,beq_self_eq_true,if_true] at h2
 rw[if_pos (by rw[Q0s Q2x])] at h2
 exact h2
end
section
open Go.RowKit
theorem xor_add{a b i:Nat}(h:b<2 ^ i):b ^^^ (a*2 ^ i)=b+a*2 ^ i:=by
 apply Nat.eq_of_testBit_eq
 intro j
 rw[Nat.testBit_xor,show b+a*2 ^ i=2 ^ i*a+b by rw[Nat.mul_comm a];omega,Nat.testBit_two_pow_mul_add a h,show a*2 ^ i=2 ^ i*a by rw[Nat.mul_comm],Nat.testBit_two_pow_mul]
 by_cases hj:j<i
 · rw[if_pos hj]
   have:decide (j≥i)=false:=by simp;omega
   rw[this];simp
 · rw[if_neg hj]
   have h1:decide (j≥i)=true:=by simp;omega
   have h2:b.testBit j=false:=Nat.testBit_lt_two_pow (Nat.lt_of_lt_of_le h (Nat.pow_le_pow_right (by decide) (by omega)))
   rw[h1,h2];simp
def hN(p:List Nat)(i:Nat):Nat→Nat
 |0=>0
 |j+1=>256*hN p i j+p.getD (8*i+(7-j)) 0
def gN(p:List Nat)(i:Nat):Nat→Nat
 |0=>0
 |j+1=>gN p i j+p.getD (8*i+j) 0*2 ^ (8*j)
theorem hg_eq(p:List Nat)(i:Nat):hN p i 8=gN p i 8:=by
 simp only[hN,gN]
 simp only[Nat.reduceSub,Nat.reduceMul,Nat.reducePow,Nat.reduceAdd,Nat.mul_zero,Nat.pow_zero]
 omega
theorem gN_lt(p:List Nat)(i:Nat)(hb:∀j,p.getD j 0<256):∀j,gN p i j<2 ^ (8*j)
 |0=>by simp[gN]
 |j+1=>by
  have h1:=gN_lt p i hb j
  have h2:=hb (8*i+j)
  unfold gN
  rw[show 8*(j+1)=8*j+8 by omega,Nat.pow_add]
  have h3:p.getD (8*i+j) 0*2 ^ (8*j)≤255*2 ^ (8*j):=Nat.mul_le_mul_right _ (by omega)
  generalize 2 ^ (8*j)=q at *
  omega
theorem gN_xor(p:List Nat)(i:Nat)(hb:∀j,p.getD j 0<256)(j:Nat):gN p i (j+1)=gN p i j ^^^ (p.getD (8*i+j) 0*2 ^ (8*j)):=by
 rw[xor_add (gN_lt p i hb j)]
 rfl
theorem of_xor(a b:Nat):UInt64.ofNat a ^^^ UInt64.ofNat b=UInt64.ofNat (a ^^^ b):=by
 apply UInt64.toNat.inj
 rw[UInt64.toNat_xor,UInt64.toNat_ofNat',UInt64.toNat_ofNat',UInt64.toNat_ofNat']
 exact(Nat.xor_mod_two_pow (n:=64)).symm
def xorC(l:List UInt64)(p:List Nat):Nat→List UInt64
 |0=>l
 |k+1=>(xorC l p k).set (k/8) ((xorC l p k).getD (k/8) 0 ^^^ UInt64.ofNat (p.getD k 0*2 ^ (8*(k%8))))
def xorD(l:List UInt64)(p:List Nat):Nat→List UInt64
 |0=>l
 |k+1=>(xorD l p k).set k ((xorD l p k).getD k 0 ^^^ UInt64.ofNat (hN p k 8))
theorem xorC_s(l:List UInt64)(p:List Nat)(k:Nat):xorC l p (k+1)=(xorC l p k).set (k/8) ((xorC l p k).getD (k/8) 0 ^^^ UInt64.ofNat (p.getD k 0*2 ^ (8*(k%8)))):=rfl
theorem Q6q(l:List UInt64)(p:List Nat):∀k,(xorC l p k).length=l.length
 |0=>rfl
 |k+1=>by unfold xorC;rw[List.length_set,Q6q l p k]
theorem Q8m(l:List UInt64)(p:List Nat):∀k,(xorD l p k).length=l.length
 |0=>rfl
 |k+1=>by unfold xorD;rw[List.length_set,Q8m l p k]
theorem X7q(s:List UInt64)(i:Nat)(h:i<s.length):s.set i (s.getD i 0)=s:=by
 apply List.ext_getElem
 · rw[List.length_set]
 · intro n h1 h2
   rw[List.getElem_set]
   split
   · rename_i e;subst e;rw[List.getD_eq_getElem?_getD,List.getElem?_eq_getElem h];rfl
   · rfl
theorem X8q(s:List UInt64)(i:Nat)(v:UInt64)(h:i<s.length):(s.set i v).getD i 0=v:=by
 rw[List.getD_eq_getElem?_getD,List.getElem?_set_self h];rfl
theorem X7i(l:List UInt64)(p:List Nat)(i:Nat)(hb:∀j,p.getD j 0<256)(hi:i<l.length) :
 ∀j,j≤8→xorC l p (8*i+j)=(xorC l p (8*i)).set i ((xorC l p (8*i)).getD i 0 ^^^ UInt64.ofNat (gN p i j))
 |0,_=>by
  have e:UInt64.ofNat (gN p i 0)=0:=rfl
  rw[e,UInt64.xor_zero,Nat.add_zero,X7q _ _ (by rw[Q6q];exact hi)]
 |j+1,h=>by
  rw[show 8*i+(j+1)=(8*i+j)+1 from rfl,xorC_s]
  rw[show(8*i+j)/8=i by omega,show(8*i+j)%8=j by omega,X7i l p i hb hi j (by omega)]
  rw[X8q _ _ _ (by rw[Q6q];exact hi),List.set_set,UInt64.xor_assoc,of_xor,←gN_xor p i hb j]
theorem X3p(l:List UInt64)(p:List Nat)(hb:∀j,p.getD j 0<256):∀k,k≤l.length→xorC l p (8*k)=xorD l p k
 |0,_=>rfl
 |k+1,h=>by
  rw[show 8*(k+1)=8*k+8 by omega,X7i l p k hb (by omega) 8 (Nat.le_refl _),X3p l p hb k (by omega),←hg_eq]
  rfl
end
section
open Go.RowKit
open Nat (reduceBEq)
set_option maxRecDepth 20000
set_option maxHeartbeats 2000000
attribute [local simp] Q2i Q0n Q1n
def idL(l:List UInt64):Nat→List Nat
 |0=>List.replicate 32 0
 |k+1=>(idL l k).set k ((l.getD (k/8) 0).toNat/256 ^ (k%8)%256)
theorem X3m(l:List Nat)(k:Nat):(l.flatMap bpv).drop k=(l.drop k).flatMap bpv:=by
 rw[Q3z,Q3z,List.map_drop]
theorem X2n(l:List UInt64):∀k,(idL l k).length=32
 |0=>rfl
 |k+1=>by unfold idL;rw[List.length_set,X2n l k]
theorem idL_s(l:List UInt64)(k:Nat):idL l (k+1)=(idL l k).set k ((l.getD (k/8) 0).toNat/256 ^ (k%8)%256):=rfl
theorem hN_lt(p:List Nat)(i:Nat)(hb:∀j,p.getD j 0<256):∀m,hN p i m<256 ^ m
 |0=>by simp[hN]
 |m+1=>by
  have h1:=hN_lt p i hb m
  have h2:=hb (8*i+(7-m))
  unfold hN
  rw[Nat.pow_succ]
  omega
theorem hN_s(p:List Nat)(i m:Nat):hN p i (m+1)=256*hN p i m+p.getD (8*i+(7-m)) 0:=rfl
theorem xorD_s(l:List UInt64)(p:List Nat)(k:Nat):xorD l p (k+1)=(xorD l p k).set k ((xorD l p k).getD k 0 ^^^ UInt64.ofNat (hN p k 8)):=rfl
theorem Q7w{p:List Nat}(hb:∀b∈p,b<256)(j:Nat):p.getD j 0<256:=by
 rw[List.getD_eq_getElem?_getD]
 cases h:p[j]? with
 |none=>decide
 |some b=>exact hb b (List.mem_of_getElem? h)
theorem rsum_fnE(ex:Bool)(l p0:List Nat)(n:Nat)(hl:l.length≤1000)(hn:n≤10)(hp:p0.length=136*n)(hb:∀b∈p0,b<256)(L:Nat→List UInt64)(L0:L 0=zer 25)(lL:∀k,(L k).length=25)
 (M:List UInt64) (hM:L n=M) (I:Nat→List Nat) (I0:I 0=List.replicate 32 0) (Il:∀k,(I k).length=32) (Is:∀k,I (k+1)=(I k).set k ((M.getD (k/8) 0).toNat/256 ^ (k%8)%256))
 (pad:Fn Tryz.prog 173 [bsl ex l] [] (bsl false p0) [])
 (pm:∀k,Fn Tryz.prog 174 [lnA (xorD (L k) (p0.drop (136*k)) 17)] [] (lnA (L (k+1))) []) :
 Fn Tryz.prog 147 [bsl ex l] [] (.agg (rcB (I 32))) []:=by
 (refine Q0t Tryz.func147 rfl (by rfl) ?_;simp only[Tryz.ntmps147,List.length_cons,List.length_nil,Nat.reduceAdd,Nat.reduceSub,List.replicate,List.cons_append,List.nil_append])
 (repeat(any_goals(first|((with_reducible refine Q0l ?_ ?_ ?_);rfl;rfl;intro K hK;((apply Q0i (pad);rfl;rfl;rfl;rfl;exact Tryz.func173);kernel_rfl;rfl;(focus((simp only[go_sem]);(try rfl);done));(first|rfl));(simp only[go_sem];refine hK _ ?_;clear hK K))|((with_reducible refine Q0b ?_ ?_);rfl;intro K hK;simp only[go_sem];((repeat(refine ndI (by first|assumption) ?_));refine hK _ ?_;clear hK K))|(with_reducible first|(refine Q0c ?_;refine hR _ ?_;clear hR R)|((first|refine Q0e ?_|refine Q0f ?_);intro J hJ hJ')|(refine Q0a ?_;intro R hR)|(refine hJ _ ?_;clear hJ hJ' J)))))
 refine Q1t n (fun i=>⟨[bsl ex l,.any,.ptr 2 0,.ptr 3 0,bsl false (p0.drop (136*i)),.any,.any,.any,.any,.any,.any,.any,.any,.any,.any,.any,.any,.any,.any,.any,.any,.any,.any,.any,.any,.any,.any,.any,.any,.any,.any,.any,.any,.any,.any,.any,.any,.any,.any,.any,.any,.any,.any,.any,.any,.any,.any,.any,.any,.any,.any,.any,.any,.any,.any,.any,.any,.any,.any,.any,.any,.any,.any,.any,.any,.any,.any,.any],[(2,rcB (List.replicate 32 0)),(3,rcV (L i))]⟩) (St.le_of (by simp[leT]) (by rw[L0,Q4v,←Q6w];simp[leH,hget])) ?_
 intro i hi J hJ hJ'
 by_cases hlt:i<n
 · have dl:(p0.drop (136*i)).length=136*n-136*i:=by rw[List.length_drop,hp]
   have hd:decide (((p0.drop (136*i)).length:Int)>0)=true:=by simp;omega
   have pmi:=pm i
   obtain⟨q,hq⟩:∃q,p0.drop (136*i)=q:=⟨_,rfl⟩
   have hbq:∀b∈q,b<256:=fun b h=>hb b (List.mem_of_mem_drop (hq▸h))
   rw[hq] at pmi dl hd ⊢
   have e136:q.drop 136=p0.drop (136*(i+1)):=by rw[←hq,List.drop_drop];congr 1
   have lx:=fun k=>(Q8m (L i) q k).trans (lL i)
   have xs:=xorD_s (L i) q
   have x0:xorD (L i) q 0=L i:=rfl
   have q136:136≤q.length:=by omega
   (repeat(any_goals(first|((with_reducible refine Q0b ?_ ?_);rfl;intro K hK;simp(disch:=omega) only[go_sem,hd];((repeat(refine ndI (by first|assumption|rfl) ?_));refine hK _ ?_;clear hK K))|(with_reducible first|(refine Q0c ?_;refine hR _ ?_;clear hR R)|((first|refine Q0e ?_|refine Q0f ?_);intro J hJ hJ')|(refine Q0a ?_;intro R hR)|(refine hJ _ ?_;clear hJ hJ' J)|refine Q0h ?_)|((with_reducible apply Q0d);rfl;rfl;all_goals(intro hc;first|(cases hc;done)|(try simp only at hc))))))
   generalize xorD (L i) q=X at lx xs x0 pmi
   refine Q1t 17 (fun j=>⟨[bsl ex l,.any,.ptr 2 0,.ptr 3 0,bsl false q,.any,.any,.any,.any,.any,.any,.any,.any,.any,.any,.any,.any,vi .i64 (j:Int),.any,.any,.any,.any,.any,.any,.any,.any,.any,.any,.any,.any,.any,.any,.any,.any,.any,.any,.any,.any,.any,.any,.any,.any,.any,.any,.any,.any,.any,.any,.any,.any,.any,.any,.any,.any,.any,.any,.any,.any,.any,.any,.any,.any,.any,.any,.any,.any,.any,.any],[(2,rcB (List.replicate 32 0)),(3,rcV (X j))]⟩) (St.le_of (by simp[leT]) (by rw[x0];simp[leH,hget])) ?_
   intro j hj J hJ hJ'
   by_cases hlj:j<17
   · have hd1:decide ((j:Int)<17)=true:=by simp;omega
     (repeat(any_goals(first|((with_reducible refine Q0b ?_ ?_);rfl;intro K hK;simp(disch:=omega) only[go_sem,hd1];((repeat(refine ndI (by first|assumption|rfl) ?_));refine hK _ ?_;clear hK K))|(with_reducible first|(refine Q0c ?_;refine hR _ ?_;clear hR R)|((first|refine Q0e ?_|refine Q0f ?_);intro J hJ hJ')|(refine Q0a ?_;intro R hR)|(refine hJ _ ?_;clear hJ hJ' J)|refine Q0h ?_)|((with_reducible apply Q0d);rfl;rfl;all_goals(intro hc;first|(cases hc;done)|(try simp only at hc))))))
     have gl:=hN_lt q j (Q7w hbq)
     have gs:=hN_s q j
     have g0:hN q j 0=0:=rfl
     have xsj:=xs j
     generalize hN q j=G at gl gs g0 xsj
     refine Q1t 8 (fun m=>⟨[bsl ex l,.any,.ptr 2 0,.ptr 3 0,bsl false q,vi .i64 (j:Int),vi .u64 (G m:Int),vi .i64 (7-(m:Int)),.any,.any,.any,.any,.any,.any,.any,.any,.any,vi .i64 (j:Int),.any,.any,.any,.any,.any,.any,.any,.any,.any,.any,.any,.any,.any,.any,.any,.any,.any,.any,.any,.any,.any,.any,.any,.any,.any,.any,.any,.any,.any,.any,.any,.any,.any,.any,.any,.any,.any,.any,.any,.any,.any,.any,.any,.any,.any,.any,.any,.any,.any,.any],[(2,rcB (List.replicate 32 0)),(3,rcV (X j))]⟩) (St.le_of (by simp[leT,g0]) (by simp[leH,hget])) ?_
     intro m hm J hJ hJ'
     by_cases hlm:m<8
     · have glm:=gl m
       have gsm:=gs m
       have hbm:=Q7w hbq (8*j+(7-m))
       have pm8:256 ^ m≤256 ^ 7:=Nat.pow_le_pow_right (by decide) (by omega)
       have at1:q[8*j+(7-m)]? = some (q.getD (8*j+(7-m)) 0):=by rw[List.getD_eq_getElem?_getD,List.getElem?_eq_getElem (by omega)];rfl
       have at2:=X5m at1
       obtain⟨b,hbv⟩:∃b,q.getD (8*j+(7-m)) 0=b:=⟨_,rfl⟩
       rw[hbv] at gsm hbm at2
       have w1:IntKind.u64.wrap (256*(G m:Int))=((256*G m:Nat):Int):=by
        rw[show(256*(G m:Int))=((256*G m:Nat):Int) by omega,u64w,Nat.mod_eq_of_lt (by omega)]
       have w2:IntKind.u64.wrap (b:Int)=(b:Int):=by rw[u64w,Nat.mod_eq_of_lt (by omega)]
       have w3:IntKind.u64.wrap (((256*G m:Nat):Int)+(b:Int))=((G (m+1):Nat):Int):=by
        rw[show(((256*G m:Nat):Int)+(b:Int))=((256*G m+b:Nat):Int) by omega,u64w,Nat.mod_eq_of_lt (by omega),gsm]
       have hd2:decide ((7:Int)-(m:Int)≥0)=true:=by simp;omega
       have i1:(8:Int)*(j:Int)=((8*j:Nat):Int):=by omega
       have i2:((8*j:Nat):Int)+(7-(m:Int))=((8*j+(7-m):Nat):Int):=by omega
       have i3:(7:Int)-(m:Int)-1=7-((m+1:Nat):Int):=by omega
       (have W:=ndI hd2 (ndI w1 (ndI w2 (ndI w3 (ndI i1 (ndI i2 (ndI i3 (ndI at2 @wrI)))))));(repeat(any_goals(first|((with_reducible refine Q0b ?_ ?_);rfl;intro K hK;simp(disch:=omega) only[go_sem,W,Int.toNat_natCast];((repeat(refine ndI (by first|assumption|omega|rfl) ?_));refine hK _ ?_;clear hK K))|(with_reducible first|(refine Q0c ?_;refine hR _ ?_;clear hR R)|((first|refine Q0e ?_|refine Q0f ?_);intro J hJ hJ')|(refine Q0a ?_;intro R hR)|(refine hJ _ ?_;clear hJ hJ' J)|refine Q0h ?_)|((with_reducible refine hJ' _ _ ?_ ?_);(focus(simp;done));clear hJ hJ' J)|((with_reducible apply Q0d);rfl;rfl;all_goals(intro hc;first|(cases hc;done)|(try simp only at hc)))))))
       exact hJ _ (by omega) (St.le_of (by simp[leT]) (by simp[leH,hget]))
     · have hm8:m=8:=by omega
       subst hm8
       have gl8:=gl 8
       obtain⟨v,hv⟩:∃v,(X j).getD j 0=v:=⟨_,rfl⟩
       obtain⟨g,hg⟩:∃g,UInt64.ofNat (G 8)=g:=⟨_,rfl⟩
       have hgn:(G 8:Int)=(g.toNat:Int):=by rw[←hg,UInt64.toNat_ofNat_of_lt' (by exact gl8)]
       have k1:=Q1l (l:=X j) (i:=j) (by rw[lx];omega)
       have k4:=Q3t (X j) j (v ^^^ g) (by rw[lx];omega)
       rw[hv,hg] at xsj
       rw[←xsj] at k4
       rw[hv] at k1
       have k6:(rcV (X j)).length=25:=by rw[Q1a,lx]
       have u1:=Q3y v g
       have hd3:decide ((7:Int)-((8:Nat):Int)≥0)=false:=by decide
       rw[hgn]
       clear gl gs g0 xsj hv hg hgn gl8
       (have W:=ndI hd3 (ndI k1 (ndI k4 (ndI k6 (ndI u1 @wrI))));(repeat(any_goals(first|((with_reducible refine Q0b ?_ ?_);rfl;intro K hK;simp(disch:=omega) only[go_sem,W,Nat.mul_one,Int.toNat_natCast,Nat.zero_add];((repeat(refine ndI (by first|assumption|omega|rfl) ?_));refine hK _ ?_;clear hK K))|(with_reducible first|(refine Q0c ?_;refine hR _ ?_;clear hR R)|((first|refine Q0e ?_);intro J hJ hJ')|(refine Q0a ?_;intro R hR)|(refine hJ _ ?_;clear hJ hJ' J)|refine Q0q ?_)|((with_reducible refine hJ' _ _ ?_ ?_);(focus(simp;done));clear hJ hJ' J)|((with_reducible apply Q0d);rfl;rfl;all_goals(intro hc;first|(cases hc;done)|(try simp only at hc)))))))
       exact hJ _ (by omega) (St.le_of (by simp[leT]) (by simp[leH,hget]))
   · have hj17:j=17:=by omega
     subst hj17
     have b1:List.take 25 (rcV (X 17))=rcV (X 17):=Q1y _ (lx 17)
     have b2:(rcV (X 17)).length=25:=by rw[Q1a,lx]
     have b3:List.drop 25 (rcV (X 17))=[]:=List.drop_eq_nil_of_le (by omega)
     have b4:List.take 25 (rcV (L (i+1)))=rcV (L (i+1)):=Q1y _ (lL _)
     have b5:(rcV (L (i+1))).length=25:=by rw[Q1a,lL]
     have d1:=X3m q 136
     have d2:(p0.drop (136*(i+1))).length=q.length-136:=by rw[←e136,List.length_drop]
     have d3:(q.flatMap bpv).length=q.length:=by rw[Q0s Q2x,Nat.mul_one]
     rw[e136] at d1
     have d4:List.take (q.length-136) ((p0.drop (136*(i+1))).flatMap bpv)=(p0.drop (136*(i+1))).flatMap bpv:=List.take_of_length_le (by rw[Q0s Q2x,d2,Nat.mul_one];omega)
     clear xs x0 lx lL
     (have W:=ndI b1 (ndI b2 (ndI b3 (ndI b4 (ndI b5 (ndI d1 (ndI d3 (ndI d4 @wrI)))))));(repeat(any_goals(first|((with_reducible refine Q0l ?_ ?_ ?_);rfl;rfl;intro K hK;((apply Q0i (pmi);rfl;rfl;rfl;rfl;exact Tryz.func174);kernel_rfl;rfl;(focus((simp(disch:=omega) only[go_sem,W,Q0n,Nat.mul_one,Int.toNat_natCast]);(try rfl);done));(first|simp[AV.inNL,AV.inN]));(simp(disch:=omega) only[go_sem,W,Q0n,Nat.mul_one,Int.toNat_natCast];refine hK _ ?_;clear hK K))|((with_reducible refine Q0b ?_ ?_);rfl;intro K hK;simp(disch:=omega) only[go_sem,W,Q0n,Nat.mul_one,Int.toNat_natCast];((repeat(refine ndI (by first|assumption|omega|rfl) ?_));refine hK _ ?_;clear hK K))|(with_reducible first|(refine Q0c ?_;refine hR _ ?_;clear hR R)|((first|refine Q0e ?_);intro J hJ hJ')|(refine Q0a ?_;intro R hR)|(refine hJ _ ?_;clear hJ hJ' J)|refine Q0q ?_)|((with_reducible refine hJ' _ _ ?_ ?_);(focus(simp;done));clear hJ hJ' J)|((with_reducible apply Q0d);rfl;rfl;all_goals(intro hc;first|(cases hc;done)|(try simp only at hc)))))))
     exact hJ _ (by omega) (St.le_of (by simp[leT,d2]) (by simp[leH,hget]))
 · have hin:i=n:=by omega
   have dl:(p0.drop (136*i)).length=0:=by rw[List.length_drop,hp,hin];omega
   have hd:decide (((p0.drop (136*i)).length:Int)>0)=false:=by rw[dl];rfl
   rw[hin] at dl hd ⊢
   have ln:=lL n
   rw[hM] at ln ⊢
   clear pm
   (repeat(any_goals(first|((with_reducible refine Q0b ?_ ?_);rfl;intro K hK;simp(disch:=omega) only[go_sem,hd,dl,Q1s,Q0n];((repeat(refine ndI (by first|assumption|rfl) ?_));refine hK _ ?_;clear hK K))|(with_reducible first|(refine Q0c ?_;refine hR _ ?_;clear hR R)|((first|refine Q0e ?_|refine Q0f ?_);intro J hJ hJ')|(refine Q0a ?_;intro R hR)|(refine hJ _ ?_;clear hJ hJ' J)|refine Q0q ?_)|((with_reducible refine hJ' _ _ ?_ ?_);(focus(simp;done));clear hJ hJ' J)|((with_reducible apply Q0d);rfl;rfl;all_goals(intro hc;first|(cases hc;done)|(try simp only at hc))))))
   refine Q1t 4 (fun a=>⟨[bsl ex l,.any,.ptr 2 0,.ptr 3 0,.any,.any,.any,.any,.ptr 8 0,.any,.any,.any,.any,.any,.any,.any,.any,.any,.any,.any,.any,.any,.any,.any,.any,.any,.any,.any,.any,.any,.any,.any,.any,.any,.any,.any,.any,.any,.any,.any,.any,.any,.any,.any,.any,.any,vi .i64 (a:Int),.any,.any,.any,.any,.any,.any,.any,.any,.any,.any,.any,.any,.any,.any,.any,.any,.any,.any,.any,.any,.any],[(2,rcB (List.replicate 32 0)),(3,rcV M),(8,rcB (I (8*a)))]⟩) (St.le_of (by simp[leT]) (by rw[Nat.mul_zero,I0];simp[leH,hget,rcB,bpv])) ?_
   intro a ha J hJ hJ'
   by_cases hla:a<4
   · have hd1:decide ((a:Int)<4)=true:=by simp;omega
     obtain⟨v,hv⟩:∃v,M.getD a 0=v:=⟨_,rfl⟩
     have k1:=Q1l (l:=M) (i:=a) (by omega)
     rw[hv] at k1
     have k6:(rcV M).length=25:=by rw[Q1a,ln]
     (have W:=ndI hd1 (ndI k1 k6);(repeat(any_goals(first|((with_reducible refine Q0b ?_ ?_);rfl;intro K hK;simp(disch:=omega) only[go_sem,W,Nat.mul_one,Int.toNat_natCast];((repeat(refine ndI (by first|assumption|omega|rfl) ?_));refine hK _ ?_;clear hK K))|(with_reducible first|(refine Q0c ?_;refine hR _ ?_;clear hR R)|((first|refine Q0e ?_|refine Q0f ?_);intro J hJ hJ')|(refine Q0a ?_;intro R hR)|(refine hJ _ ?_;clear hJ hJ' J)|refine Q0h ?_)|((with_reducible apply Q0d);rfl;rfl;all_goals(intro hc;first|(cases hc;done)|(try simp only at hc)))))))
     refine Q1t 8 (fun b=>⟨[bsl ex l,.any,.ptr 2 0,.ptr 3 0,.any,.any,.any,.any,.ptr 8 0,vi .i64 (a:Int),vi .u64 ((v.toNat/256 ^ b:Nat):Int),.any,.any,.any,.any,.any,.any,.any,.any,.any,.any,.any,.any,.any,.any,.any,.any,.any,.any,.any,.any,.any,.any,.any,.any,.any,.any,.any,.any,.any,.any,.any,.any,.any,.any,.any,vi .i64 (a:Int),.any,.any,.any,.any,.any,vi .i64 (b:Int),.any,.any,.any,.any,.any,.any,.any,.any,.any,.any,.any,.any,.any,.any,.any],[(2,rcB (List.replicate 32 0)),(3,rcV M),(8,rcB (I (8*a+b)))]⟩) (St.le_of (by simp[leT]) (by simp[leH,hget])) ?_
     intro b hb' J hJ hJ'
     by_cases hlb:b<8
     · have hd2:decide ((b:Int)<8)=true:=by simp;omega
       have is:=Is (8*a+b)
       rw[show(8*a+b)/8=a by omega,show(8*a+b)%8=b by omega,hv] at is
       have ww:v.toNat/256 ^ b/256=v.toNat/256 ^ (b+1):=by rw[Nat.div_div_eq_div_mul,Nat.pow_succ]
       obtain⟨w,hw⟩:∃w,v.toNat/256 ^ b=w:=⟨_,rfl⟩
       have hwl:w<18446744073709551616:=by rw[←hw];exact Nat.lt_of_le_of_lt (Nat.div_le_self _ _) v.toNat_lt
       rw[hw] at is ww ⊢
       have k4:=Q7r (I (8*a+b)) (8*a+b) (w%256) (by rw[Il];omega)
       rw[←is] at k4
       have k7:=Q2y (I (8*a+b))
       rw[Il] at k7
       have i1:(8:Int)*(a:Int)=((8*a:Nat):Int):=by omega
       have i2:((8*a:Nat):Int)+(b:Int)=((8*a+b:Nat):Int):=by omega
       have w1:Int.tmod (w:Int) 256=((w%256:Nat):Int):=by rw[Int.tmod_eq_emod_of_nonneg (by omega)];omega
       have w2:Int.tdiv (w:Int) 256=((w/256:Nat):Int):=by rw[Int.tdiv_eq_ediv_of_nonneg (by omega)];omega
       have w3:IntKind.u8.wrap ((w%256:Nat):Int)=((w%256:Nat):Int):=by rw[IntKind.wrap_u8];omega
       have w4':IntKind.u64.wrap ((w%256:Nat):Int)=((w%256:Nat):Int):=by rw[u64w,Nat.mod_eq_of_lt (by omega)]
       have w5:IntKind.u64.wrap ((w/256:Nat):Int)=((w/256:Nat):Int):=by rw[u64w,Nat.mod_eq_of_lt (by omega)]
       (have W:=ndI hd2 (ndI k4 (ndI k7 (ndI i1 (ndI i2 (ndI w1 (ndI w2 (ndI w3 (ndI w4' (ndI w5 @wrI)))))))));(repeat(any_goals(first|((with_reducible refine Q0b ?_ ?_);rfl;intro K hK;simp(disch:=omega) only[go_sem,W,Nat.mul_one,Int.toNat_natCast];((repeat(refine ndI (by first|assumption|omega|rfl) ?_));refine hK _ ?_;clear hK K))|(with_reducible first|(refine Q0c ?_;refine hR _ ?_;clear hR R)|((first|refine Q0e ?_|refine Q0f ?_);intro J hJ hJ')|(refine Q0a ?_;intro R hR)|(refine hJ _ ?_;clear hJ hJ' J)|refine Q0h ?_)|((with_reducible refine hJ' _ _ ?_ ?_);(focus(simp;done));clear hJ hJ' J)|((with_reducible apply Q0d);rfl;rfl;all_goals(intro hc;first|(cases hc;done)|(try simp only at hc)))))))
       exact hJ _ (by omega) (St.le_of (by simp[leT,ww]) (by simp[leH,hget,Nat.add_assoc]))
     · have hb8:b=8:=by omega
       subst hb8
       (repeat(any_goals(first|((with_reducible refine Q0b ?_ ?_);rfl;intro K hK;simp(disch:=omega) only[go_sem,wrI];((repeat(refine ndI (by first|assumption|rfl) ?_));refine hK _ ?_;clear hK K))|(with_reducible first|(refine Q0c ?_;refine hR _ ?_;clear hR R)|((first|refine Q0e ?_);intro J hJ hJ')|(refine Q0a ?_;intro R hR)|(refine hJ _ ?_;clear hJ hJ' J)|refine Q0q ?_)|((with_reducible refine hJ' _ _ ?_ ?_);(focus(simp;done));clear hJ hJ' J)|((with_reducible apply Q0d);rfl;rfl;all_goals(intro hc;first|(cases hc;done)|(try simp only at hc))))))
       exact hJ _ (by omega) (St.le_of (by simp[leT]) (by simp[leH,hget,Nat.mul_add]))
   · have ha4:a=4:=by omega
     subst ha4
     have c1:=Q2y (I 32)
     rw[Il] at c1
     have c2:List.take 32 (rcB (I 32))=rcB (I 32):=List.take_of_length_le (by omega)
     have z1:(rcB ([0,0,0,0,0,0,0,0,0,0,0,0,0,0,0,0,0,0,0,0,0,0,0,0,0,0,0,0,0,0,0,0]:List Nat)).length=32:=rfl
     have z2:List.drop 32 (rcB ([0,0,0,0,0,0,0,0,0,0,0,0,0,0,0,0,0,0,0,0,0,0,0,0,0,0,0,0,0,0,0,0]:List Nat))=[]:=rfl
     have c3:List.drop 32 (rcB (I 32))=[]:=List.drop_eq_nil_of_le (by omega)
     rw[show 8*4=32 from rfl]
     (have W:=ndI c1 (ndI c2 (ndI c3 (ndI z1 z2)));(repeat(any_goals(first|((with_reducible refine Q0b ?_ ?_);rfl;intro K hK;simp(disch:=omega) only[go_sem,W,Q1s,List.append_nil];((repeat(refine ndI (by first|assumption|rfl) ?_));refine hK _ ?_;clear hK K))|(with_reducible first|(refine Q0c ?_;refine hR _ ?_;clear hR R)|((first|refine Q0e ?_);intro J hJ hJ')|(refine Q0a ?_;intro R hR)|(refine hJ _ ?_;clear hJ hJ' J)|refine Q0j ?_|refine Q0q ?_)|((with_reducible refine hJ' _ _ ?_ ?_);(focus(simp;done));clear hJ hJ' J)|((with_reducible apply Q0d);rfl;rfl;all_goals(intro hc;first|(cases hc;done)|(try simp only at hc)))))))
     all_goals(refine⟨by simp,⟨_,?_,AV.le_refl _⟩,Q0g (by simp[leH,hget])⟩;simp only[Tryz.results147,resL,ldA,Q0m,go_sem,c2];rw[if_pos (by omega)];rfl)
def digK(p:List Nat):Nat→List UInt64
 |0=>zer 25
 |k+1=>Z0g (xorD (digK p k) (p.drop (136*k)) 17)
theorem permC_len(l:List UInt64)(h:l.length=25):(Z0g l).length=25:=X8h l h 24
theorem X2z(p:List Nat):∀k,(digK p k).length=25
 |0=>rfl
 |k+1=>permC_len _ ((Q8m _ _ _).trans (X2z p k))
def digL(l:List Nat):List Nat:=idL (digK (padL l) (l.length/136+1)) 32
theorem padL_lt(l:List Nat)(hb:∀b∈l,b<256):∀b∈padL l,b<256:=by
 intro b h
 unfold padL padT at h
 split at h
 · simp at h;rcases h with h|h
   · exact hb b h
   · omega
 · simp at h;rcases h with h|h|h|h
   · exact hb b h
   · omega
   · omega
   · omega
theorem rsum_fn(ex:Bool)(l:List Nat)(hl:l.length≤1000)(hb:∀b∈l,b<256):Fn Tryz.prog 147 [bsl ex l] [] (.agg (rcB (digL l))) []:=by
 unfold digL
 have hpl:(padL l).length=136*(l.length/136+1):=by rw[Q6y,Nat.mul_comm];rfl
 have pad:=rpad_fn ex l hl
 have plt:=padL_lt l hb
 have dl:=X2z (padL l)
 have ds:∀k,digK (padL l) (k+1)=Z0g (xorD (digK (padL l) k) ((padL l).drop (136*k)) 17):=fun _=>rfl
 have d0:digK (padL l) 0=zer 25:=rfl
 generalize digK (padL l)=L at *
 exact rsum_fnE ex l (padL l) (l.length/136+1) hl (by omega) hpl plt L d0 dl _ rfl (idL (L (l.length/136+1))) rfl (X2n _) (idL_s _) pad fun k=>by
  rw[ds k]
  exact permR_fn _ ((Q8m _ _ _).trans (dl k))
end
section
open Go.RowKit
open Nat (reduceBEq)
set_option maxRecDepth 20000
set_option maxHeartbeats 2000000
open Go.Lib in
theorem AWR.loop{ro:Option Nat}{P:Program}{σ : St}{Φ : Exit→St→Prop}{c:Code}(n:Nat)(I:Nat→St)(h0:σ.to (I 0))
 (round:∀i,i≤n→AWR ro P c (I i) fun ex σ'=>match ex with | .normal=>i+1≤n∧σ'.to (I (i+1))|ex=>Φ ex σ'):AWR ro P (.loop c) σ Φ:=fun E ι a w hc=>by
 obtain⟨ι0,hc0⟩:=h0 E ι a w hc
 refine wpIn_loop_ghost (fun m a w=>m≤n∧∃ι,Conc E ι (I (n-m)) a w) n ⟨Nat.le_refl _,ι0,by rw[Nat.sub_self];exact hc0⟩ ?_
 rintro m a w ⟨hm,ι,hc⟩
 refine wpIn_mono (round (n-m) (by omega) E ι a w hc) fun ex a' w'=>?_
 rintro ⟨ι',σ',hc',hΦ⟩
 cases ex with
 |normal=>
  obtain⟨h1,h2⟩:=hΦ
  obtain⟨ι2,hc2⟩:=h2 E ι' a' w' hc'
  exact⟨m-1,by omega,by omega,ι2,by rw[show n-(m-1)=n-m+1 by omega];exact hc2⟩
 |_=>exact⟨ι',σ',hc',hΦ⟩
open Go.Lib in
theorem yc_ofR{P:Program}{t:Tmp}{assign body:Code}{T0:List AV}{l:Nat}{x:AV}{H0 H1:List (Nat×List AV)}(hA:Q4o assign=true)
 (h:evC P assign ⟨T0.set t x,H0⟩ fun ex σ1=>ex = .normal∧∀ro,AWR ro P body σ1 fun ex σ2=>ex = .normal∧∀r cs,hget H1 r=some cs→hget σ2.H r=some cs):YC P t assign body T0 l x H0 H1:=by
 intro E v f ts D hED hS hH hv hl hsz hts
 have hlt:=(Array.getElem?_eq_some_iff.1 hl).1
 have hne:∀r∈E.D,(E.ι r).2.1≠0→(E.ι r).1≠l:=by rw[hED];exact Q6e hH hl rfl
 have hv':RV (Sx E E.ι H0) E.ι E.w v x:=hv.mono (fun b hb _=>⟨⟨.inl hb,fun r cs hr hz=>hS r cs b hr hz hb⟩,rfl⟩) fun _ _=>rfl
 have hc0:=(Conc.begin E hED hS hH hsz hts).put (some t) hv'
 refine roundIn_of_wpIn trivial ?_
 refine wpIn_mono (Q8l (ro:=some l) assign hA _ _ h E E.ι _ E.w hc0) ?_
 rintro ex a1 w1 ⟨ι1,σ1,hc1,rfl,h2⟩
 have hl1:w1.heap[l]? = some (.loop (Q1v #[t] assign body f ts D)):=(hc1.keep.block l hlt hne).trans hl
 refine⟨_,run_beginRound hl1 rfl,?_⟩
 have hc2:=hc1.rebase (.loop {Q1v #[t] assign body f ts D with state:=.busy}) hl hl1 rfl
 refine wpIn_mono (h2 (some l) _ ι1 _ _ hc2) ?_
 rintro ex a2 w3 ⟨ι2,σ2,hc3,rfl,h3⟩
 have hlb:(E.w.putObj l (.loop {Q1v #[t] assign body f ts D with state:=.busy})).heap[l]? = some (.loop {Q1v #[t] assign body f ts D with state:=.busy}):=World.putObj_heap_same hlt
 have hl3:w3.heap[l]? = some (.loop {Q1v #[t] assign body f ts D with state:=.busy}):=(hc3.keep.block l (by simpa using hlt) hne).trans hlb
 refine⟨_,_,run_endRound none hl3,?_⟩
 have hc4:=hc3.rebase (.loop (Q1v #[t] assign body f ts D)) hlb hl3 rfl
 have key:∀(w':World) (hG':GlobOK w' E.S E.ι E.D),w'=E.w→Conc {E with w:=w',hG:=hG'} ι2 σ2 a2 (w3.putObj l (.loop (Q1v #[t] assign body f ts D)))→Conc E ι2 σ2 a2 (w3.putObj l (.loop (Q1v #[t] assign body f ts D))):=by
  rintro _ _ rfl h;exact h
 have hc5:Conc E ι2 σ2 a2 (w3.putObj l (.loop (Q1v #[t] assign body f ts D))):=key _ _ (Q6h hl) hc4
 have hc6:=hc5.leH h3
 exact⟨_,ι2,rfl,.c _ _ (.v _ rfl),hc6.heap,hc6.keep⟩
theorem chunk_row(p:List Nat):Fn Tryz.prog 185 [bsl false p,vi .i64 136] [] (.fn 192 [.ptr 2 0,.ptr 3 0]) [(2,[bsl false p]),(3,[vi .i64 136])]:=by
 (refine Q0t Tryz.func185 rfl (by rfl) ?_;simp only[Tryz.ntmps185,List.length_cons,List.length_nil,Nat.reduceAdd,Nat.reduceSub,List.replicate,List.cons_append,List.nil_append])
 (repeat(any_goals(first|((with_reducible refine Q0b ?_ ?_);rfl;intro K hK;simp only[go_sem];((repeat(refine ndI (by first|assumption) ?_));refine hK _ ?_;clear hK K))|(with_reducible first|(refine Q0c ?_;refine hR _ ?_;clear hR R)|((first|refine Q0e ?_);intro J hJ hJ')|(refine Q0a ?_;intro R hR)|(refine hJ _ ?_;clear hJ hJ' J)|refine Q0h ?_|refine Q0j ?_)|((with_reducible apply Q0d);rfl;rfl;all_goals(intro hc;first|(cases hc;done)|(try simp only at hc))))))
 all_goals(refine⟨by simp,⟨_,?_,AV.le_refl _⟩,Q0g (by simp[leH,hget])⟩;simp only[Tryz.results185,resL,ldA,Q0m,go_sem])
end
section
open Go.RowKit
open Nat (reduceBEq)
set_option maxRecDepth 20000
set_option maxHeartbeats 2000000
attribute [local simp] Q2i Q0n Q1n
theorem chunk1_fn(p:List Nat)(n:Nat)(hp:p.length=136*n)(hn:n≤10)(L:Nat→List UInt64){t:Tmp}{asg bod:Code}{T0:List AV}(hT0:AV.inNL [1003] T0=true)(lp:Nat)
 (hY:∀i,i<n→YC Tryz.prog t asg bod T0 lp (.c (.sl true 1 136 (((p.drop (136*i)).take 136).flatMap bpv))) [(1003,rcV (L i))] [(1003,rcV (L (i+1)))]) :
 FnW (LoopAt t asg bod T0 [1003,1102,1103] lp) Tryz.prog 192 [yv lp,.ptr 1102 0,.ptr 1103 0] [(1003,rcV (L 0)),(1102,[bsl false p]),(1103,[vi .i64 136])] (.tup []) [(1003,rcV (L n))]:=by
 (refine Q4r Tryz.func192 rfl (by rfl) ?_;simp only[Tryz.ntmps192,List.length_cons,List.length_nil,Nat.reduceAdd,Nat.reduceSub,List.replicate,List.cons_append,List.nil_append])
 refine AWE.seq (AWE.of ?_)
 (repeat(any_goals(first|((with_reducible refine Q0b ?_ ?_);rfl;intro K hK;simp only[go_sem];((repeat(refine ndI (by first|assumption) ?_));refine hK _ ?_;clear hK K))|(with_reducible first|(refine Q0c ?_;refine hR _ ?_;clear hR R)|(refine Q0a ?_;intro R hR)))))
 show AWE _ _ _ _ _
 refine AWE.block ?_
 refine AWE.loop (α:={i:Nat // i≤n}) (fun i=>⟨[yv lp,.ptr 1102 0,.ptr 1103 0,.any,vi .i64 ((136*i.1:Nat):Int),.any,.any,.any,.any,.any,.any,.any,.any,.any,.any,.any,.any,.any,.any,.any,.any,.any,.any,.any,.any,.any,.any,.any,.any,.any,.any],[(1003,rcV (L i.1)),(1102,[bsl false p]),(1103,[vi .i64 136])]⟩) (fun i=>n-i.1) ⟨0,Nat.zero_le _⟩ (St.to.of_le (St.le_of (by simp[leT]) (by simp[leH,hget]))) ?_
 rintro ⟨i,hi⟩
 dsimp only
 have pl:(p.flatMap bpv).length=p.length:=by rw[Q0s Q2x,Nat.mul_one]
 rcases Nat.lt_or_ge i n with hlt|hge
 · have k1:decide (((136*i:Nat):Int)<(p.length:Int))=true:=by simp;omega
   have k2:(if ((p.length-136*i:Nat):Int)<136 then((p.length-136*i:Nat):Int) else 136)=136:=if_neg (by omega)
   have k3:((136*i:Nat):Int)+136=((136*i+136:Nat):Int):=by omega
   have k4:136*i+136-136*i=136:=by omega
   have hYi:=hY i hlt
   have dd:((p.flatMap bpv).drop (136*i)).take 136=((p.drop (136*i)).take 136).flatMap bpv:=by
    rw[X3m,Q3z,Q3z,List.map_take]
   have dl:((p.drop (136*i)).take 136).length=136:=by rw[List.length_take,List.length_drop];omega
   refine AWE.seq (AWE.seq (AWE.of ?_))
   (repeat(any_goals(first|((with_reducible refine Q0b ?_ ?_);rfl;intro K hK;simp(disch:=omega) only[go_sem,k1];((repeat(refine ndI (by first|assumption|rfl) ?_));refine hK _ ?_;clear hK K))|(with_reducible first|(refine Q0c ?_;refine hR _ ?_;clear hR R)|(refine Q0a ?_;intro R hR)))))
   refine AWE.of ?_
   (repeat(any_goals(first|(with_reducible first|refine Q0h ?_)|((with_reducible apply Q0d);rfl;rfl;all_goals(intro hc;first|(cases hc;done)|(try simp only at hc))))))
   show AWE _ _ _ _ _
   refine AWE.seq (AWE.block (AWE.seq (AWE.of ?_)))
   (have W:=ndI k1 (ndI k2 @wrI);(repeat(any_goals(first|((with_reducible refine Q0z ?_ ?_);(apply Q2e);(focus(repeat(first|exact Sims.nil|((apply Sims.cons);(focus(first|exact Ef.sim_refl _))))));kernel_rfl;(with_reducible refine hR _ ?_);clear hR R)|((first|((with_reducible apply Q0x);rfl;rfl;(simp(disch:=omega) only[rdE,rdOf,go_sem,W,Nat.mul_one,Int.toNat_natCast];rfl);(intro τ hA hQ hN;((try simp only[Q1i,Op.operands,Call.operands,go_sem,W,Nat.mul_one,Int.toNat_natCast,go_sem,List.mem_cons,List.not_mem_nil,forall_eq_or_imp,forall_eq,List.append_toArray,Option.toArray] at hA);(try simp only[go_sem,W,Nat.mul_one,Int.toNat_natCast,List.mem_cons,List.not_mem_nil,forall_eq_or_imp,forall_eq] at hQ hN);(first|(revert hA;intro hA));(first|(revert hQ;intro hQ));(first|(revert hN;intro hN));simp(disch:=omega) only[go_sem,W,Nat.mul_one,Int.toNat_natCast,go_sem,hA,hQ,hN];(repeat(refine ndI (by first|assumption|omega|rfl) ?_));(first|apply Q1b)))));(simp(disch:=omega) only[St.eff,setO,Q0u,go_sem,W,Nat.mul_one,Int.toNat_natCast]))|((with_reducible refine Q0w ?_ ?_ ?_ ?_);kernel_rfl;kernel_rfl;(simp[Q2a,Q5q,St.free,Q1z,AV.refsL,AV.refs,Q0n]);intro R hR)))))
   show AWE _ _ _ _ _
   refine AWE.seq (AWE.region_at 10 rfl rfl ?_)
   intro R hR
   simp only[List.take,List.drop]
   (have W:=ndI k1 (ndI k3 (ndI k4 @wrI));(repeat(any_goals(first|((with_reducible refine Q0b ?_ ?_);rfl;intro K hK;simp(disch:=omega) only[go_sem,W,dd,pl,Nat.mul_one,Int.toNat_natCast];((repeat(refine ndI (by first|assumption|omega|rfl) ?_));refine hK _ ?_;clear hK K))|(with_reducible first|(refine Q0c ?_;refine hR _ ?_;clear hR R))))))
   refine⟨.inl rfl,Q5o hYi (fun r=>r) rfl rfl rfl rfl (.inr ?_) (by rfl) ?_ ?_ ?_ ?_ [1003] hT0 ?_ ?_⟩
   · simp[AV.ren,AV.renL,St.ev]
   · simp[hget,AV.renL,AV.ren,Q1n]
   · intro r hr q hq h
     exact h
   · simp[Q1r,St.free,Q1z,AV.refs,AV.refsL]
   · simp[inH,AV.inNL,AV.inN,Q2i]
   · simp[hget]
   intro R hR
   simp only[List.drop,Q0u,Q1m,renH,AV.ren,AV.renL,Q1n,hput,hdel,hget,St.put,List.set,Nat.reduceEqDiff,↓reduceIte]
   (have W:=ndI k1 (ndI k3 @wrI);(repeat(any_goals(first|((with_reducible refine Q0b ?_ ?_);rfl;intro K hK;simp(disch:=omega) only[go_sem,W];((repeat(refine ndI (by first|assumption|rfl) ?_));refine hK _ ?_;clear hK K))|(with_reducible first|(refine Q0c ?_;refine hR _ ?_;clear hR R))))))
   show AWE _ _ _ _ _
   refine AWE.of ?_
   (repeat(any_goals(first|(with_reducible first|refine Q0h ?_)|((with_reducible apply Q0d);rfl;rfl;all_goals(intro hc;first|(cases hc;done)|(try simp only at hc))))))
   show AWE _ _ _ _ _
   refine AWE.of ?_
   (repeat(any_goals(first|((with_reducible refine Q0b ?_ ?_);rfl;intro K hK;simp(disch:=omega) only[go_sem,k3,wrI];((repeat(refine ndI (by first|assumption|rfl) ?_));refine hK _ ?_;clear hK K))|(with_reducible first|(refine Q0c ?_;refine hR _ ?_;clear hR R)|(refine Q0a ?_;intro R hR)))))
   exact⟨⟨i+1,hlt⟩,by simp only;omega,St.to.of_le (St.le_of (by simp[leT,Nat.mul_add]) (by simp[leH,hget]))⟩
 · have k1:decide (((136*i:Nat):Int)<(p.length:Int))=false:=by simp;omega
   obtain rfl:i=n:=by omega
   refine AWE.seq (AWE.seq (AWE.of ?_))
   (repeat(any_goals(first|((with_reducible refine Q0b ?_ ?_);rfl;intro K hK;simp(disch:=omega) only[go_sem,k1];((repeat(refine ndI (by first|assumption|rfl) ?_));refine hK _ ?_;clear hK K))|(with_reducible first|(refine Q0c ?_;refine hR _ ?_;clear hR R)|(refine Q0a ?_;intro R hR)))))
   refine AWE.of ?_
   (repeat(any_goals(first|(with_reducible first|refine Q0q ?_)|((with_reducible apply Q0d);rfl;rfl;all_goals(intro hc;first|(cases hc;done)|(try simp only at hc))))))
   exact⟨by simp,⟨_,rfl,AV.le_of (by simp[Q0m])⟩,Q0g (by simp[leH,hget])⟩
end
section
open Go.RowKit
open Nat (reduceBEq)
set_option maxRecDepth 20000
set_option maxHeartbeats 2000000
attribute [local simp] Q2i Q0n Q1n
theorem sum_fnE(ex:Bool)(l p:List Nat)(n:Nat)(hl:l.length≤1000)(hn:n≤10)(hp:p.length=136*n)(hb:∀b∈p,b<256)(L:Nat→List UInt64)(L0:L 0=zer 25)(lL:∀k,(L k).length=25)
 (M:List UInt64) (hM:L n=M) (I:Nat→List Nat) (I0:I 0=List.replicate 32 0) (Il:∀k,(I k).length=32) (Is:∀k,I (k+1)=(I k).set k ((M.getD (k/8) 0).toNat/256 ^ (k%8)%256))
 (pad:Fn Tryz.prog 186 [bsl ex l] [] (bsl false p) [])
 (pm:∀k,Fn Tryz.prog 187 [lnA (xorC (L k) (p.drop (136*k)) 136)] [] (lnA (L (k+1))) []) :
 Fn Tryz.prog 179 [bsl ex l] [] (.agg (rcB (I 32))) []:=by
 have ck:=chunk_row p
 (refine Q0t Tryz.func179 rfl (by rfl) ?_;simp only[Tryz.ntmps179,List.length_cons,List.length_nil,Nat.reduceAdd,Nat.reduceSub,List.replicate,List.cons_append,List.nil_append])
 (repeat(any_goals(first|((with_reducible refine Q0l ?_ ?_ ?_);rfl;rfl;intro K hK;(first|((apply Q0i (pad);rfl;rfl;rfl;rfl;exact Tryz.func186);kernel_rfl;rfl;(focus((simp only[go_sem]);(try rfl);done));(first|rfl))|(apply Q1c (ck) (fun r=>r+100);rfl;rfl;rfl;rfl;exact Tryz.func185;kernel_rfl;rfl;rfl;(intro r hr q hq h;simp only[List.map_cons,List.map_nil,List.cons_append,List.nil_append,List.mem_cons,List.not_mem_nil,or_false] at hr hq;(try dsimp only at h);first|omega);(simp only[Q1d,Q1x,AV.ren,AV.renL,Q0r,List.mem_cons,List.not_mem_nil,forall_eq_or_imp,forall_eq,Q1r,List.contains_cons,List.contains_nil,AV.refsL,AV.refs,Q0o,AV.inN,AV.inNL,inH,Q0v,go_sem])));(simp only[Q0u,Q1m,renH,AV.ren,AV.renL,Q0r,go_sem];refine hK _ ?_;clear hK K))|((with_reducible refine Q0b ?_ ?_);rfl;intro K hK;simp only[go_sem];((repeat(refine ndI (by first|assumption) ?_));refine hK _ ?_;clear hK K))|(with_reducible first|(refine Q0c ?_;refine hR _ ?_;clear hR R)|((first|refine Q0e ?_|refine Q0f ?_);intro J hJ hJ')|(refine Q0a ?_;intro R hR)|(refine hJ _ ?_;clear hJ hJ' J)))))
 show AW _ _ _ _
 refine AW.to (St.to.of_le (τ:=⟨[bsl ex l,.any,.ptr 2 0,.ptr 3 0,.any,.any,.any,.any,.any,.any,.fn 192 [.ptr 102 0,.ptr 103 0],.any,.any,.any,.any,.any,.any,.any,.any,.any,.any,.any,.any,.any,.any,.any,.any,.any,.any,.any,.any,.any,.any,.any,.any,.any,.any,.any,.any,.any,.any,.any,.any,.any,.any,.any,.any,.any,.any,.any],[(2,rcB (List.replicate 32 0)),(3,rcV (L 0)),(102,[bsl false p]),(103,[vi .i64 136])]⟩) (St.le_of (by simp[leT]) (by rw[L0,Q4v,←Q6w];simp[leH,hget]))) ?_
 refine AW.range (T0:=[.any,.any,.any,.ptr 1003 0,.any,.any,.any,.any,.any,.any,.any,.any,.any,.any,.any,.any,.any,.any,.any,.any,.any,.any,.any,.any,.any,.any,.any,.any,.any,.any,.any,.any,.any,.any,.any,.any,.any,.any,.any,.any,.any,.any,.any,.any,.any,.any,.any,.any,.any,.any]) (cargs:=[.ptr 1102 0,.ptr 1103 0]) (H0:=[(1003,rcV (L 0)),(1102,[bsl false p]),(1103,[vi .i64 136])]) (H1:=[(1003,rcV (L n))]) (res:=.tup []) (fun r=>r-1000) (fun lp=>chunk1_fn p n hp hn L rfl lp fun i hi=>yc_ofR rfl ?_) rfl rfl Tryz.func192 (by kernel_rfl) rfl rfl ?_ ?_ ?_ ?_ ?_ rfl ?_ ?_
 · have pmi:=pm i
   obtain⟨q,hq⟩:∃q,p.drop (136*i)=q:=⟨_,rfl⟩
   have hbq:∀b∈q,b<256:=fun b h=>hb b (List.mem_of_mem_drop (hq▸h))
   have lq:136≤q.length:=by rw[←hq,List.length_drop];omega
   rw[hq] at pmi ⊢
   have lx:=fun k=>(Q6q (L i) q k).trans (lL i)
   have xs:=xorC_s (L i) q
   have x0:xorC (L i) q 0=L i:=rfl
   generalize xorC (L i) q=X at lx xs x0 pmi
   simp only[List.set]
   (repeat(any_goals(first|((with_reducible refine Q0b ?_ ?_);rfl;intro K hK;simp only[go_sem];((repeat(refine ndI (by first|assumption) ?_));refine hK _ ?_;clear hK K))|(with_reducible first|(refine Q0c ?_;refine hR _ ?_;clear hR R)|(refine Q0a ?_;intro R hR)))))
   have l136:((q.take 136).flatMap bpv).length=136:=by rw[Q0s Q2x,List.length_take];omega
   refine⟨rfl,fun ro=>AWR.block (AWR.seq (AWR.seq (AWR.of rfl ?_)))⟩
   (repeat(any_goals(first|((with_reducible refine Q0b ?_ ?_);rfl;intro K hK;simp(disch:=omega) only[go_sem,l136];((repeat(refine ndI (by first|assumption|rfl) ?_));refine hK _ ?_;clear hK K))|(with_reducible first|(refine Q0c ?_;refine hR _ ?_;clear hR R)|(refine Q0a ?_;intro R hR)))))
   show AWR _ _ _ _ _
   refine AWR.block (AWR.loop 136 (fun k=>⟨[.any,.any,.any,.ptr 1003 0,.any,.any,.any,.any,.any,.any,.any,.any,(.c (.sl true 1 136 ((q.take 136).flatMap bpv))),vi .i64 136,vi .i64 (k:Int),.any,.any,.any,.any,.any,.any,.any,.any,.any,.any,.any,.any,.any,.any,.any,.any,.any,.any,.any,.any,.any,.any,.any,.any,.any,.any,.any,.any,.any,.any,.any,.any,.any,.any,.any],[(1003,rcV (X k))]⟩) (St.to.of_le (St.le_of (by simp[leT]) (by rw[x0];simp[leH,hget]))) ?_)
   intro k hk
   rcases Nat.lt_or_ge k 136 with hlk|hgk
   · have hd:decide ((k:Int)<136)=true:=by simp;omega
     have at1:(q.take 136)[k]? = some (q.getD k 0):=by rw[List.getElem?_take,if_pos hlk,List.getD_eq_getElem?_getD,List.getElem?_eq_getElem (by omega)];rfl
     have at2:=X5m at1
     rw[Nat.mul_one] at at2
     have hbk:=Q7w hbq k
     have xk:=xs k
     obtain⟨b,hbv⟩:∃b,q.getD k 0=b:=⟨_,rfl⟩
     obtain⟨v,hv⟩:∃v,(X k).getD (k/8) 0=v:=⟨_,rfl⟩
     rw[hbv] at at2 hbk xk
     have k1:=Q1l (l:=X k) (i:=k/8) (by rw[lx];omega)
     rw[hv] at xk k1
     have w1:IntKind.u64.wrap ((b:Int)*2 ^ min (8*(k%8)) 64)=((UInt64.ofNat (b*2 ^ (8*(k%8)))).toNat:Int):=by
      rw[Nat.min_eq_left (by omega),show((b:Int)*2 ^ (8*(k%8)))=((b*2 ^ (8*(k%8)):Nat):Int) by push_cast;rfl,u64w,UInt64.toNat_ofNat']
     obtain⟨g,hg⟩:∃g,UInt64.ofNat (b*2 ^ (8*(k%8)))=g:=⟨_,rfl⟩
     rw[hg] at w1 xk
     have u1:=Q3y v g
     have k4:=Q3t (X k) (k/8) (v ^^^ g) (by rw[lx];omega)
     rw[←xk] at k4
     have k6:(rcV (X k)).length=25:=by rw[Q1a,lx]
     have w2:IntKind.u64.wrap (b:Int)=(b:Int):=by rw[u64w,Nat.mod_eq_of_lt (by omega)]
     have j1:Int.tdiv (k:Int) 8=((k/8:Nat):Int):=by rw[Int.tdiv_eq_ediv_of_nonneg (by omega)];omega
     have j2:Int.tmod (k:Int) 8=((k%8:Nat):Int):=by rw[Int.tmod_eq_emod_of_nonneg (by omega)];omega
     have j3:(8:Int)*((k%8:Nat):Int)=((8*(k%8):Nat):Int):=by omega
     have j4:(k:Int)+1=((k+1:Nat):Int):=by omega
     clear xk hg hv hbv xs x0
     refine AWR.seq (AWR.of rfl ?_)
     (repeat(any_goals(first|((with_reducible refine Q0b ?_ ?_);rfl;intro K hK;simp(disch:=omega) only[go_sem,hd];((repeat(refine ndI (by first|assumption|rfl) ?_));refine hK _ ?_;clear hK K))|(with_reducible first|(refine Q0c ?_;refine hR _ ?_;clear hR R)|(refine Q0a ?_;intro R hR)))))
     show AWR _ _ _ _ _
     refine AWR.seq (AWR.of rfl ?_)
     (repeat(any_goals(first|(with_reducible first|refine Q0h ?_)|((with_reducible apply Q0d);rfl;rfl;all_goals(intro hc;first|(cases hc;done)|(try simp only at hc))))))
     show AWR _ _ _ _ _
     refine AWR.seq (AWR.block (AWR.seq (AWR.of rfl ?_)))
     (repeat(any_goals(first|((with_reducible refine Q0b ?_ ?_);rfl;intro K hK;simp(disch:=omega) only[go_sem,at2,l136,Nat.mul_one,Int.toNat_natCast];((repeat(refine ndI (by first|assumption|omega|rfl) ?_));refine hK _ ?_;clear hK K))|(with_reducible first|(refine Q0c ?_;refine hR _ ?_;clear hR R)|(refine Q0a ?_;intro R hR)))))
     show AWR _ _ _ _ _
     refine AWR.draw rfl (by kernel_rfl) (by kernel_rfl) (by simp[Q2a,Q5q,St.free,Q1z,AV.refsL,AV.refs,Q0n]) ?_
     intro R hR
     (have W:=ndI j1 (ndI j2 (ndI j3 (ndI w1 (ndI w2 (ndI k1 (ndI k4 (ndI k6 (ndI u1 @wrI))))))));(repeat(any_goals(first|((with_reducible refine Q0z ?_ ?_);(apply Q2e);(focus(repeat(first|exact Sims.nil|((apply Sims.cons);(focus(first|exact Ef.sim_refl _))))));kernel_rfl;(with_reducible refine hR _ ?_);clear hR R)|((first|((first|((with_reducible apply Q0x);rfl;rfl));(simp(disch:=omega) only[rdE,rdOf,go_sem,W,Nat.mul_one,Int.toNat_natCast,Nat.zero_add];rfl);(intro τ hA hQ hN;((try simp only[Q1i,Op.operands,Call.operands,go_sem,W,Nat.mul_one,Int.toNat_natCast,Nat.zero_add,go_sem,List.mem_cons,List.not_mem_nil,forall_eq_or_imp,forall_eq,List.append_toArray,Option.toArray] at hA);(try simp only[go_sem,W,Nat.mul_one,Int.toNat_natCast,Nat.zero_add,List.mem_cons,List.not_mem_nil,forall_eq_or_imp,forall_eq] at hQ hN);(first|(revert hA;intro hA));(first|(revert hQ;intro hQ));(first|(revert hN;intro hN));simp(disch:=omega) only[go_sem,W,Nat.mul_one,Int.toNat_natCast,Nat.zero_add,go_sem,hA,hQ,hN];(repeat(refine ndI (by first|assumption|omega|rfl) ?_));(first|apply Q1b|apply Q4a)))));(simp(disch:=omega) only[St.eff,setO,Q0u,go_sem,W,Nat.mul_one,Int.toNat_natCast,Nat.zero_add]))))))
     show AWR _ _ _ _ _
     refine AWR.of rfl ?_
     (repeat(any_goals(first|((with_reducible refine Q0b ?_ ?_);rfl;intro K hK;simp(disch:=omega) only[go_sem,j4,wrI];((repeat(refine ndI (by first|assumption|rfl) ?_));refine hK _ ?_;clear hK K))|(with_reducible first|(refine Q0c ?_;refine hR _ ?_;clear hR R)|(refine Q0a ?_;intro R hR)))))
     exact⟨by omega,St.to.of_le (St.le_of (by simp[leT]) (by simp[leH,hget]))⟩
   · obtain rfl:k=136:=by omega
     have hd:decide (((136:Nat):Int)<136)=false:=rfl
     have b1:List.take 25 (rcV (X 136))=rcV (X 136):=Q1y _ (lx _)
     have b2:(rcV (X 136)).length=25:=by rw[Q1a,lx]
     have b3:List.drop 25 (rcV (X 136))=[]:=List.drop_eq_nil_of_le (by omega)
     have b4:List.take 25 (rcV (L (i+1)))=rcV (L (i+1)):=Q1y _ (lL _)
     have b5:(rcV (L (i+1))).length=25:=by rw[Q1a,lL]
     refine AWR.seq (AWR.of rfl ?_)
     (repeat(any_goals(first|((with_reducible refine Q0b ?_ ?_);rfl;intro K hK;simp(disch:=omega) only[go_sem,hd];((repeat(refine ndI (by first|assumption|rfl) ?_));refine hK _ ?_;clear hK K))|(with_reducible first|(refine Q0c ?_;refine hR _ ?_;clear hR R)|(refine Q0a ?_;intro R hR)))))
     show AWR _ _ _ _ _
     refine AWR.seq (AWR.of rfl ?_)
     (repeat(any_goals(first|(with_reducible first|refine Q0q ?_)|((with_reducible apply Q0d);rfl;rfl;all_goals(intro hc;first|(cases hc;done)|(try simp only at hc))))))
     show AWR _ _ _ _ _
     refine AWR.of rfl ?_
     (have W:=ndI b1 (ndI b2 (ndI b3 (ndI b4 b5)));(repeat(any_goals(first|((with_reducible refine Q0l ?_ ?_ ?_);rfl;rfl;intro K hK;((apply Q0i (pmi);rfl;rfl;rfl;rfl;exact Tryz.func187);kernel_rfl;rfl;(focus((simp(disch:=omega) only[go_sem,W,Q0n]);(try rfl);done));(first|simp[AV.inNL,AV.inN]));(simp(disch:=omega) only[go_sem,W,Q0n];refine hK _ ?_;clear hK K))|((with_reducible refine Q0b ?_ ?_);rfl;intro K hK;simp(disch:=omega) only[go_sem,W,Q0n];((repeat(refine ndI (by first|assumption|rfl) ?_));refine hK _ ?_;clear hK K))|(with_reducible first|(refine Q0c ?_;refine hR _ ?_;clear hR R)|(refine Q0a ?_;intro R hR))))))
     exact⟨rfl,Q0g (by simp[leH,hget])⟩
 · simp[Q1d,Q1x,AV.ren]
 · simp[Q1d,Q1x,AV.ren]
 · simp[hget,Q1n,AV.renL,AV.ren]
 · intro r hr q hq h
   simp only[List.map_cons,List.map_nil,List.cons_append,List.nil_append,List.mem_cons,List.not_mem_nil,or_false] at hr hq
   omega
 · simp[Q1r]
 · simp[inH,Q2i]
 · simp only[Q0u,Q1m,renH,AV.ren,AV.renL,Q1n,hput,hdel,hget,Nat.reduceLeDiff,Nat.reduceSub,Nat.reduceEqDiff,↓reduceIte]
   have ln:=lL n
   rw[hM] at ln ⊢
   have r2:=Q1s
   (repeat(any_goals(first|((with_reducible refine Q0b ?_ ?_);rfl;intro K hK;simp only[go_sem];((repeat(refine ndI (by first|assumption) ?_));refine hK _ ?_;clear hK K))|(with_reducible first|(refine Q0c ?_;refine hR _ ?_;clear hR R)|((first|refine Q0e ?_|refine Q0f ?_);intro J hJ hJ')|(refine Q0a ?_;intro R hR)|(refine hJ _ ?_;clear hJ hJ' J))|((with_reducible refine hJ' _ _ ?_ ?_);(focus(simp;done));clear hJ hJ' J))))
   refine Q1t 32 (fun k=>⟨[bsl ex l,.any,.ptr 2 0,.ptr 3 0,.any,.any,.any,.any,.any,.any,.any,.any,.any,.any,.any,.any,.any,.any,.any,.any,.any,.any,.any,.any,.any,.any,.any,.any,.any,.any,.any,.any,.any,.any,vi .i64 (k:Int),.any,.any,.any,.any,.any,.any,.any,.any,.any,.any,.any,.any,.any,.any,.any],[(2,rcB (I k)),(3,rcV M)]⟩) (St.le_of (by simp[leT]) (by rw[I0];simp[leH,hget])) ?_
   intro k hk J hJ hJ'
   by_cases hlk:k<32
   · have hd:decide ((k:Int)<32)=true:=by simp;omega
     obtain⟨v,hv⟩:∃v,M.getD (k/8) 0=v:=⟨_,rfl⟩
     have k1:=Q1l (l:=M) (i:=k/8) (by omega)
     have is:=Is k
     rw[hv] at k1 is
     have hx:=v.toNat_lt
     obtain⟨b,hbv⟩:∃b,v.toNat/256 ^ (k%8)%256=b:=⟨_,rfl⟩
     rw[hbv] at is
     have w1:IntKind.u8.wrap (Int.fdiv (v.toNat:Int) (2 ^ min (8*(k%8)) 64))=(b:Int):=by
      rw[Nat.min_eq_left (by omega),show((2:Int) ^ (8*(k%8)))=((2 ^ (8*(k%8)):Nat):Int) by push_cast;rfl,Int.fdiv_eq_ediv_of_nonneg _ (Int.natCast_nonneg _),IntKind.wrap_u8,←hbv,Nat.pow_mul]
      rfl
     have k4:=Q7r (I k) k b (by rw[Il];omega)
     rw[←is] at k4
     have k6:(rcV M).length=25:=by rw[Q1a,ln]
     have k7:=Q2y (I k)
     rw[Il] at k7
     have j1:Int.tdiv (k:Int) 8=((k/8:Nat):Int):=by rw[Int.tdiv_eq_ediv_of_nonneg (by omega)];omega
     have j2:Int.tmod (k:Int) 8=((k%8:Nat):Int):=by rw[Int.tmod_eq_emod_of_nonneg (by omega)];omega
     have j3:(8:Int)*((k%8:Nat):Int)=((8*(k%8):Nat):Int):=by omega
     (have W:=ndI j1 (ndI j2 (ndI j3 (ndI w1 (ndI k1 (ndI k4 (ndI k6 (ndI k7 @wrI)))))));(repeat(any_goals(first|((with_reducible refine Q0b ?_ ?_);rfl;intro K hK;simp(disch:=omega) only[go_sem,W,hd,Nat.mul_one,Int.toNat_natCast,Nat.zero_add];((repeat(refine ndI (by first|assumption|omega|rfl) ?_));refine hK _ ?_;clear hK K))|(with_reducible first|(refine Q0c ?_;refine hR _ ?_;clear hR R)|((first|refine Q0e ?_|refine Q0f ?_);intro J hJ hJ')|(refine Q0a ?_;intro R hR)|(refine hJ _ ?_;clear hJ hJ' J)|refine Q0h ?_)|((with_reducible refine hJ' _ _ ?_ ?_);(focus(simp;done));clear hJ hJ' J)|((with_reducible apply Q0d);rfl;rfl;all_goals(intro hc;first|(cases hc;done)|(try simp only at hc)))))))
     exact hJ _ (by omega) (St.le_of (by simp[leT]) (by simp[leH,hget]))
   · have hk32:k=32:=by omega
     subst hk32
     have c1:=Q2y (I 32)
     rw[Il] at c1
     have c2:List.take 32 (rcB (I 32))=rcB (I 32):=List.take_of_length_le (by omega)
     have c3:List.drop 32 (rcB (I 32))=[]:=List.drop_eq_nil_of_le (by omega)
     (have W:=ndI c1 (ndI c2 c3);(repeat(any_goals(first|((with_reducible refine Q0b ?_ ?_);rfl;intro K hK;simp(disch:=omega) only[go_sem,W,Q1s,List.append_nil];((repeat(refine ndI (by first|assumption|rfl) ?_));refine hK _ ?_;clear hK K))|(with_reducible first|(refine Q0c ?_;refine hR _ ?_;clear hR R)|((first|refine Q0e ?_);intro J hJ hJ')|(refine Q0a ?_;intro R hR)|(refine hJ _ ?_;clear hJ hJ' J)|refine Q0j ?_|refine Q0q ?_)|((with_reducible refine hJ' _ _ ?_ ?_);(focus(simp;done));clear hJ hJ' J)|((with_reducible apply Q0d);rfl;rfl;all_goals(intro hc;first|(cases hc;done)|(try simp only at hc)))))))
     all_goals(refine⟨by simp,⟨_,?_,AV.le_refl _⟩,Q0g (by simp[leH,hget])⟩;simp only[Tryz.results179,resL,ldA,Q0m,go_sem,c2];rw[if_pos (by omega)];rfl)
end
section
open Go.RowKit
open Nat (reduceBEq)
set_option maxRecDepth 20000
set_option maxHeartbeats 2000000
attribute [local simp] Q2i Q0n Q1n
section
variable {P:Program} {o:Oper} {σ : St} {K:St→Prop}
theorem Q8e{t n sz:Nat}{g:Bool}{x:Operand}{lo hi:Option Operand}{cs:List PV}{l h:Int}(ho:o.op = .slice t x lo hi none)(hx:Q0k x=true)(hlo:lo.toList.all Q0k=true)(hhi:hi.toList.all Q0k=true)(hs:arrT P t=some (n,sz,g))
 (h1:σ.ev x = .ep cs) (hcl:cs.length=n*sz) (hl:bnd σ.ev 0 lo=some l) (hh:bnd σ.ev n hi=some h) (hb:0≤l∧l≤h∧h≤n∧n≤1000000)
 (hK:K (σ.put o.dst (.c (.sl false sz (h.toNat-l.toNat) ((cs.drop (l.toNat*sz)).take ((h.toNat-l.toNat)*sz)))))):OpA P o σ K:=
 Q1g _ hK fun E ι a w hc=>by
  have hxv:=hc.ev x hx
  rw[h1] at hxv
  generalize he:a.eval x=v at hxv
  obtain⟨b1,b2,b3,b4⟩:=hb
  have bv:∀{op:Option Operand} {dflt:Nat} {q:Int} (hok:op.toList.all Q0k=true) (hq:bnd σ.ev dflt op=some q),(op=none∧q=dflt)∨∃x k,op=some x∧a.eval x = .int k q:=fun {op dflt q} hok hq=>by
   cases op with
   |none=>simp[bnd] at hq;exact .inl ⟨rfl,hq.symm⟩
   |some x=>
    unfold bnd at hq
    simp only at hq
    split at hq
    · rename_i k m' hev
      cases hq
      have:=hc.ev x (by simpa using hok)
      rw[hev] at this
      exact .inr ⟨x,k,rfl,this.v_inv.1⟩
    · cases hq
  have hrunb:(Instr.sliceBounds false n n (lo.map a.eval) (hi.map a.eval) none).run P w = .ok (l.toNat,h.toNat,n) w:=by
   rcases bv hhi hh with⟨rfl,rfl⟩|⟨xh,kh,rfl,eh⟩
   · rcases bv hlo hl with⟨rfl,rfl⟩|⟨xl,kl,rfl,el⟩
     · simp[Instr.sliceBounds]
     · simp[Instr.sliceBounds,el,Q1f (P:=P) (m:=l) (y:=n) ⟨b1,by omega⟩]
   · have hbh:=fun code=>Q1f (P:=P) (k:=kh) (m:=h) (y:=n) (code:=code) ⟨by omega,by omega⟩ w
     rcases bv hlo hl with⟨rfl,rfl⟩|⟨xl,kl,rfl,el⟩
     · simp[Instr.sliceBounds,eh,hbh]
     · simp[Instr.sliceBounds,eh,el,hbh,Q1f (P:=P) (m:=l) (y:=h.toNat) ⟨b1,by omega⟩]
  unfold arrT at hs
  split at hs
  · rename_i n' e' hu
    split at hs
    · rename_i s' g' hs1 hs2
      simp only[Option.some.injEq,Prod.mk.injEq] at hs
      obtain⟨rfl,rfl,rfl⟩:=hs
      cases hxv with
      |ep b off us cs hl' hne hS h4 h5=>
       have hrun:(execOp a.eval o).run P w = .ok (.value (.slice (some (if n'=l.toNat then⟨b,off,none⟩ else(⟨b,off,none⟩:Addr).add (l.toNat*s'))) (h.toNat-l.toNat) (n'-l.toNat))) w:=by
        simp only[execOp,ho,he,Instr.sliceAt,Sem.run_bind,run_underlying hu,Result.andThen_ok,Instr.sureAddr,Sem.run_pure,Option.map_none,hrunb,Q2w hs1]
       refine⟨_,hrun,.c _ _ (.sl false s' _ _ _ ((us.drop (l.toNat*s')).take ((h.toNat-l.toNat)*s')) _ (by omega) (by unfold maxLen;omega) (fun hA=>by cases hA) (fun hex=>by cases hex) (by simp[hl']) ?_ (fun hne=>?_) fun j u y hu' hy=>?_)⟩
       · have:(h.toNat-l.toNat)*s'≤cs.length-l.toNat*s':=by
          rw[hcl,←Nat.sub_mul];exact Nat.mul_le_mul_right _ (by omega)
         rw[List.length_take,List.length_drop];omega
       · have hhl:¬h.toNat-l.toNat=0:=by intro e;rw[e] at hne;simp at hne
         rw[if_neg (by omega)]
         refine⟨b,off+l.toNat*s',by rw[Q1u],hS,fun j u hu'=>?_⟩
         rw[List.getElem?_take] at hu'
         split at hu'
         · rw[List.getElem?_drop] at hu';rw[Nat.add_assoc];exact h4 _ u hu'
         · cases hu'
       · rw[List.getElem?_take] at hu' hy
         split at hu'
         · rename_i hj
           rw[if_pos hj] at hy
           rw[List.getElem?_drop] at hu' hy;exact h5 _ u y hu' hy
         · cases hu'
    · cases hs
  · cases hs
end
theorem sum_fn(ex:Bool)(l:List Nat)(hl:l.length≤1000)(hb:∀b∈l,b<256):Fn Tryz.prog 179 [bsl ex l] [] (.agg (rcB (digL l))) []:=by
 unfold digL
 have hpl:(padL l).length=136*(l.length/136+1):=by rw[Q6y,Nat.mul_comm];rfl
 have pad:=pad_fn ex l hl
 have plt:=padL_lt l hb
 have dl:=X2z (padL l)
 have ds:∀k,digK (padL l) (k+1)=Z0g (xorD (digK (padL l) k) ((padL l).drop (136*k)) 17):=fun _=>rfl
 have d0:digK (padL l) 0=zer 25:=rfl
 generalize digK (padL l)=L at *
 exact sum_fnE ex l (padL l) (l.length/136+1) hl (by omega) hpl plt L d0 dl _ rfl (idL (L (l.length/136+1))) rfl (X2n _) (idL_s _) pad fun k=>by
  rw[ds k,←X3p _ _ (Q7w fun b h=>plt b (List.mem_of_mem_drop h)) 17 (by rw[dl];decide)]
  exact perm_fn _ ((Q6q _ _ _).trans (dl k))
def wdB(W:List UInt64)(i:Nat):Nat:=(W.getD ((31-i)/8) 0).toNat/256 ^ ((31-i)%8)%256
def wdS(W:List UInt64):Nat→List Nat
 |0=>List.replicate 32 0
 |i+1=>(wdS W i).set i (wdB W i)
def wdT(W:List UInt64):Nat→List Nat
 |0=>[]
 |i+1=>wdT W i++[wdB W i]
def wdL(W:List UInt64):List Nat:=wdT W 32
theorem wdS_len(W:List UInt64):∀k,(wdS W k).length=32
 |0=>rfl
 |k+1=>by unfold wdS;rw[List.length_set,wdS_len W k]
theorem X1p(W:List UInt64):∀k,(wdT W k).length=k
 |0=>rfl
 |k+1=>by unfold wdT;rw[List.length_append,X1p W k];rfl
theorem wdS_app(W:List UInt64):∀k,k≤32→wdS W k=wdT W k++List.replicate (32-k) 0
 |0,_=>rfl
 |k+1,h=>by
  have hl:=X1p W k
  unfold wdS wdT
  rw[wdS_app W k (by omega),List.set_append_right _ _ (by omega),hl,Nat.sub_self,show 32-k=(32-(k+1))+1 by omega,List.replicate_succ,List.set_cons_zero,List.append_assoc]
  rfl
theorem wdS_eq(W:List UInt64):wdS W 32=wdL W:=by
 rw[wdS_app W 32 (by decide)]
 exact List.append_nil _
theorem X5v(W:List UInt64):(wdL W).length=32:=X1p W 32
theorem wby(v:UInt64)(r:Nat)(hr:r<8):IntKind.u8.wrap (Int.fdiv (v.toNat:Int) (2 ^ min (8*r) 64))=((v.toNat/256 ^ r%256:Nat):Int):=by
 rw[Nat.min_eq_left (by omega),show((2:Int) ^ (8*r))=((2 ^ (8*r):Nat):Int) by push_cast;rfl,Int.fdiv_eq_ediv_of_nonneg _ (Int.natCast_nonneg _),IntKind.wrap_u8,Nat.pow_mul]
 rfl
theorem X9m(W:List UInt64)(hW:W.length=4)(B:Nat→List Nat)(B0:B 0=List.replicate 32 0)(Bl:∀k,(B k).length=32)(Bs:∀i,B (i+1)=(B i).set i (wdB W i)):Fn Tryz.prog 153 [lnA W] [] (.row 6 5 1 32) [(6,rcB (B 32))]:=by
 have r1:=fun d=>Q0n d W
 have l4:(rcV W).length=4:=by rw[Q1a,hW]
 (refine Q0t Tryz.func153 rfl (by rfl) ?_;simp only[Tryz.ntmps153,List.length_cons,List.length_nil,Nat.reduceAdd,Nat.reduceSub,List.replicate,List.cons_append,List.nil_append])
 (repeat(any_goals(first|((with_reducible refine Q0b ?_ ?_);rfl;intro K hK;simp only[go_sem,r1,l4];((repeat(refine ndI (by first|assumption) ?_));refine hK _ ?_;clear hK K))|(with_reducible first|(refine Q0c ?_;refine hR _ ?_;clear hR R)|((first|refine Q0e ?_);intro J hJ hJ')|(refine Q0a ?_;intro R hR)|(refine hJ _ ?_;clear hJ hJ' J)))))
 refine Q2n ?_ ?_
 rfl
 intro K hK
 refine X8k (n:=32) (z:=.int .u8 0) rfl rfl rfl (by(focus(simp only[go_sem];try rfl))) (by kernel_rfl) rfl rfl rfl rfl rfl rfl (by omega) (by omega) (by unfold maxLen;omega) rfl (by simp[St.free,Q1z,AV.refs,AV.refsL]) (by omega) ?_
 simp only[go_sem]
 refine hK _ ?_
 clear hK K
 (repeat(any_goals(first|((with_reducible refine Q0b ?_ ?_);rfl;intro K hK;simp only[go_sem];((repeat(refine ndI (by first|assumption) ?_));refine hK _ ?_;clear hK K))|(with_reducible first|(refine Q0c ?_;refine hR _ ?_;clear hR R)|((first|refine Q0e ?_|refine Q0f ?_);intro J hJ hJ')|(refine Q0a ?_;intro R hR)|(refine hJ _ ?_;clear hJ hJ' J)))))
 refine Q1t 32 (fun i=>⟨[.any,.ptr 1 0,.any,.row 6 5 1 32,.any,.any,.any,.any,vi .i64 32,vi .i64 (i:Int),.any,.any,.any,.any,.any,.any,.any,.any,.any,.any,.any,.any,.any,.any,.any,.any,.any,.any,.any,.any,.any],[(1,rcV W),(6,rcB (B i))]⟩) (St.le_of (by simp[leT]) (by rw[B0,←Q6w];simp[leH,hget])) ?_
 intro i hi J hJ hJ'
 (try dsimp only at hJ ⊢)
 rcases Nat.lt_or_ge i 32 with hlt|hge
 · have k1:(decide ((i:Int)<32))=true:=by simp;omega
   have k7:(i:Int)+1=((i+1:Nat):Int):=by omega
   have bs:=Bs i
   unfold wdB at bs
   obtain⟨v,hv⟩:∃v,W.getD ((31-i)/8) 0=v:=⟨_,rfl⟩
   have k2:=Q1l (l:=W) (i:=(31-i)/8) (by omega)
   rw[hv] at bs k2
   have k3:=wby v ((31-i)%8) (by omega)
   obtain⟨b,hbv⟩:∃b,v.toNat/256 ^ ((31-i)%8)%256=b:=⟨_,rfl⟩
   rw[hbv] at bs k3
   have k4:=Q7r (B i) i b (by rw[Bl];omega)
   rw[←bs] at k4
   have k5:=Q2y (B i)
   rw[Bl] at k5
   have j0:(31:Int)-(i:Int)=((31-i:Nat):Int):=by omega
   have j1:Int.tdiv ((31-i:Nat):Int) 8=(((31-i)/8:Nat):Int):=by rw[Int.tdiv_eq_ediv_of_nonneg (by omega)];omega
   have j2:Int.tmod ((31-i:Nat):Int) 8=(((31-i)%8:Nat):Int):=by rw[Int.tmod_eq_emod_of_nonneg (by omega)];omega
   have j3:(8:Int)*(((31-i)%8:Nat):Int)=((8*((31-i)%8):Nat):Int):=by omega
   have e32:((32:Nat):Int)=32:=rfl
   clear bs hbv hv
   (have W:=ndI e32 (ndI k1 (ndI k2 (ndI k3 (ndI k4 (ndI k5 (ndI k7 (ndI j0 (ndI j1 (ndI j2 (ndI j3 @wrI))))))))));(repeat(any_goals(first|((with_reducible refine Q0b ?_ ?_);rfl;intro K hK;simp(disch:=omega) only[go_sem,W,Nat.mul_one,Int.toNat_natCast,Int.reduceSub,Nat.zero_add];((repeat(refine ndI (by first|assumption|omega|rfl) ?_));refine hK _ ?_;clear hK K))|(with_reducible first|(refine Q0c ?_;refine hR _ ?_;clear hR R)|((first|refine Q0e ?_|refine Q0f ?_);intro J hJ hJ')|(refine Q0a ?_;intro R hR)|(refine hJ _ ?_;clear hJ hJ' J)|refine Q0h ?_)|((with_reducible refine hJ' _ _ ?_ ?_);(focus(simp;done));clear hJ hJ' J)|((with_reducible apply Q0d);rfl;rfl;all_goals(intro hc;first|(cases hc;done)|(try simp only at hc)))))))
   exact hJ _ hlt (St.le_of (by simp[leT]) (by simp[leH,hget]))
 · have k1:(decide ((i:Int)<32))=false:=by simp;omega
   obtain rfl:i=32:=by omega
   (repeat(any_goals(first|((with_reducible refine Q0b ?_ ?_);rfl;intro K hK;simp only[go_sem,k1];((repeat(refine ndI (by first|assumption) ?_));refine hK _ ?_;clear hK K))|(with_reducible first|(refine Q0c ?_;refine hR _ ?_;clear hR R)|((first|refine Q0e ?_);intro J hJ hJ')|(refine Q0a ?_;intro R hR)|(refine hJ _ ?_;clear hJ hJ' J)|refine Q0j ?_|refine Q0q ?_)|((with_reducible refine hJ' _ _ ?_ ?_);(focus(simp;done));clear hJ hJ' J)|((with_reducible apply Q0d);rfl;rfl;all_goals(intro hc;first|(cases hc;done)|(try simp only at hc))))))
   all_goals(refine⟨by simp,⟨_,?_,AV.le_refl _⟩,Q0g (by simp[leH,hget])⟩;simp only[Tryz.results153,resL,ldA,Q0m,go_sem])
theorem wbytes_fn(W:List UInt64)(hW:W.length=4):Fn Tryz.prog 153 [lnA W] [] (bsl false (wdL W)) []:=by
 have h0:=X9m W hW (wdS W) rfl (wdS_len W) fun _=>rfl
 rw[wdS_eq] at h0
 have h:=Fn.frzG (d:=6) (pcs:=(wdL W).flatMap bpv) h0
 simp only[AV.frz,beq_self_eq_true,if_true] at h
 rw[if_pos (by rw[Q0s Q2x,X5v])] at h
 rw[show bsl false (wdL W) = .c (.sl false 1 32 ((wdL W).flatMap bpv)) by rw[bsl,X5v]]
 exact h
end
section
open Go.RowKit
open Nat (reduceBEq)
set_option maxRecDepth 20000
set_option maxHeartbeats 2000000
attribute [local simp] Q2i Q0n Q1n
theorem St.to.nilcut{σ : St}(i d e sz:Nat)(h1:σ.T.getD i .any = .c (.v (.slice none 0 0)))(h0:i < σ.T.length)(hf:σ.free d=true)(hd:d<1000):σ.to ⟨σ.T.set i (.cut d e sz 0 0 0 true),hput σ.H d []⟩:=fun E ι a w hc'=>by
 have hv:=hc'.tmp i
 rw[h1] at hv
 obtain⟨hv,_⟩:=hv.v_inv
 have hg:=hc'.grow (w':=w) hf hd (World.grownBy.refl w none) none (fun b hb=>by cases hb) (0,0,e) (cs:=[]) (fun h=>absurd rfl h) rfl (.inl ⟨rfl,rfl⟩)
 refine⟨_,hg.defers,by simpa using hg.size,fun j=>?_,hg.heap,hg.keep⟩
 by_cases hj:j=i
 · subst hj
   have:(σ.T.set j (.cut d e sz 0 0 0 true)).getD j .any = .cut d e sz 0 0 0 true:=by simp[List.getD,List.getElem?_set,h0]
   show RV _ _ w _ ((σ.T.set j (.cut d e sz 0 0 0 true)).getD j .any)
   rw[this,hv];exact .cnil none d e sz 0 true (fun _ _=>by rw[Q1k])
 · have:(σ.T.set i (.cut d e sz 0 0 0 true)).getD j .any = σ.T.getD j .any:=by simp[List.getD,List.getElem?_set,Ne.symm hj]
   show RV _ _ w _ ((σ.T.set i (.cut d e sz 0 0 0 true)).getD j .any)
   rw[this];exact hg.tmp j
def wrR(b:List Nat):Nat→List UInt64
 |0=>zer 4
 |i+1=>(wrR b i).set ((31-i)/8) ((wrR b i).getD ((31-i)/8) 0 ||| UInt64.ofNat (b.getD i 0*2 ^ (8*((31-i)%8))))
theorem X5u(b:List Nat):∀k,(wrR b k).length=4
 |0=>rfl
 |k+1=>by unfold wrR;rw[List.length_set,X5u b k]
theorem wread_fnE(ex:Bool)(l:List Nat)(hl:l.length=32)(hb:∀b∈l,b<256)(X:Nat→List UInt64)(X0:X 0=zer 4)(lx:∀k,(X k).length=4)
 (xs:∀i,X (i+1)=(X i).set ((31-i)/8) ((X i).getD ((31-i)/8) 0 ||| UInt64.ofNat (l.getD i 0*2 ^ (8*((31-i)%8))))) :
 Fn Tryz.prog 180 [bsl ex l] [] (.tup [lnA (X 32),vi .i64 0]) []:=by
 have z4:rcV (zer 4)=[vi .u64 0,vi .u64 0,vi .u64 0,vi .u64 0]:=rfl
 have e0:decide ((l.length:Int)>32)=false:=by rw[hl];rfl
 (refine Q0t Tryz.func180 rfl (by rfl) ?_;simp only[Tryz.ntmps180,List.length_cons,List.length_nil,Nat.reduceAdd,Nat.reduceSub,List.replicate,List.cons_append,List.nil_append])
 (repeat(any_goals(first|((with_reducible refine Q0b ?_ ?_);rfl;intro K hK;simp only[go_sem,e0];((repeat(refine ndI (by first|assumption) ?_));refine hK _ ?_;clear hK K))|(with_reducible first|(refine Q0c ?_;refine hR _ ?_;clear hR R)|((first|refine Q0e ?_|refine Q0f ?_);intro J hJ hJ')|(refine Q0a ?_;intro R hR)|(refine hJ _ ?_;clear hJ hJ' J)|refine Q0h ?_)|((with_reducible apply Q0d);rfl;rfl;all_goals(intro hc;first|(cases hc;done)|(try simp only at hc))))))
 refine Q1t 32 (fun i=>⟨[bsl ex l,.any,.ptr 2 0,.any,.ptr 4 0,.any,.any,.any,.any,.any,.any,.any,bsl ex l,vi .i64 (l.length:Int),vi .i64 (i:Int),.any,.any,.any,.any,.any,.any,.any,.any,.any,.any,.any,.any,.any,.any,.any,.any,.any,.any,.any,.any,.any,.any,.any],[(2,rcV (zer 4)),(4,rcV (X i))]⟩) (St.le_of (by simp[leT]) (by rw[X0,z4];simp[leH,hget])) ?_
 intro i hi J hJ hJ'
 (try dsimp only at hJ ⊢)
 rcases Nat.lt_or_ge i 32 with hlt|hge
 · have k1:(decide ((i:Int)<(l.length:Int)))=true:=by simp;omega
   have k7:(i:Int)+1=((i+1:Nat):Int):=by omega
   have at1:l[i]? = some (l.getD i 0):=by rw[List.getD_eq_getElem?_getD,List.getElem?_eq_getElem (by omega)];rfl
   have at2:=X5m at1
   rw[Nat.mul_one] at at2
   have hbk:=Q7w hb i
   have xi:=xs i
   obtain⟨b,hbv⟩:∃b,l.getD i 0=b:=⟨_,rfl⟩
   obtain⟨v,hv⟩:∃v,(X i).getD ((31-i)/8) 0=v:=⟨_,rfl⟩
   rw[hbv] at at2 hbk xi
   have k2:=Q1l (l:=X i) (i:=(31-i)/8) (by rw[lx];omega)
   rw[hv] at xi k2
   have w1:IntKind.u64.wrap ((b:Int)*2 ^ min (8*((31-i)%8)) 64)=((UInt64.ofNat (b*2 ^ (8*((31-i)%8)))).toNat:Int):=by
    rw[Nat.min_eq_left (by omega),show((b:Int)*2 ^ (8*((31-i)%8)))=((b*2 ^ (8*((31-i)%8)):Nat):Int) by push_cast;rfl,u64w,UInt64.toNat_ofNat']
   obtain⟨g,hg⟩:∃g,UInt64.ofNat (b*2 ^ (8*((31-i)%8)))=g:=⟨_,rfl⟩
   rw[hg] at w1 xi
   have u1:=X7m v g
   have k4:=Q3t (X i) ((31-i)/8) (v ||| g) (by rw[lx];omega)
   rw[←xi] at k4
   have k6:(rcV (X i)).length=4:=by rw[Q1a,lx]
   have w2:IntKind.u64.wrap (b:Int)=(b:Int):=by rw[u64w,Nat.mod_eq_of_lt (by omega)]
   have j0:((l.length:Int)-1)-(i:Int)=((31-i:Nat):Int):=by omega
   have j1:Int.tdiv ((31-i:Nat):Int) 8=(((31-i)/8:Nat):Int):=by rw[Int.tdiv_eq_ediv_of_nonneg (by omega)];omega
   have j2:Int.tmod ((31-i:Nat):Int) 8=(((31-i)%8:Nat):Int):=by rw[Int.tmod_eq_emod_of_nonneg (by omega)];omega
   have j3:(8:Int)*(((31-i)%8:Nat):Int)=((8*((31-i)%8):Nat):Int):=by omega
   clear xi hg hv hbv xs X0
   (have W:=ndI at2 (ndI k1 (ndI k2 (ndI k4 (ndI k6 (ndI k7 (ndI j0 (ndI j1 (ndI j2 (ndI j3 (ndI w1 (ndI w2 (ndI u1 @wrI))))))))))));(repeat(any_goals(first|((with_reducible refine Q0b ?_ ?_);rfl;intro K hK;simp(disch:=omega) only[go_sem,W,Nat.mul_one,Int.toNat_natCast,Nat.zero_add];((repeat(refine ndI (by first|assumption|omega|rfl) ?_));refine hK _ ?_;clear hK K))|(with_reducible first|(refine Q0c ?_;refine hR _ ?_;clear hR R)|((first|refine Q0e ?_|refine Q0f ?_);intro J hJ hJ')|(refine Q0a ?_;intro R hR)|(refine hJ _ ?_;clear hJ hJ' J)|refine Q0h ?_)|((with_reducible refine hJ' _ _ ?_ ?_);(focus(simp;done));clear hJ hJ' J)|((with_reducible apply Q0d);rfl;rfl;all_goals(intro hc;first|(cases hc;done)|(try simp only at hc)))|((with_reducible refine Q0z ?_ ?_);(apply Q2e);(focus(repeat(first|exact Sims.nil|((apply Sims.cons);(focus(first|exact Ef.sim_refl _))))));kernel_rfl;(with_reducible refine hR _ ?_);clear hR R)|(((with_reducible apply Q0x);rfl;rfl;(simp(disch:=omega) only[rdE,rdOf,go_sem,W,Nat.mul_one,Int.toNat_natCast,Nat.zero_add];rfl);(intro τ hA hQ hN;((try simp only[Q1i,Op.operands,Call.operands,go_sem,W,Nat.mul_one,Int.toNat_natCast,Nat.zero_add,go_sem,List.mem_cons,List.not_mem_nil,forall_eq_or_imp,forall_eq,List.append_toArray,Option.toArray] at hA);(try simp only[go_sem,W,Nat.mul_one,Int.toNat_natCast,Nat.zero_add,List.mem_cons,List.not_mem_nil,forall_eq_or_imp,forall_eq] at hQ hN);(first|(revert hA;intro hA));(first|(revert hQ;intro hQ));(first|(revert hN;intro hN));simp(disch:=omega) only[go_sem,W,Nat.mul_one,Int.toNat_natCast,Nat.zero_add,go_sem,hA,hQ,hN];(repeat(refine ndI (by first|assumption|omega|rfl) ?_));(first|apply Q1b|apply Q4a))));(simp(disch:=omega) only[St.eff,setO,Q0u,go_sem,W,Nat.mul_one,Int.toNat_natCast,Nat.zero_add]))|((with_reducible refine Q0w ?_ ?_ ?_ ?_);kernel_rfl;kernel_rfl;(simp[Q2a,Q5q,St.free,Q1z,AV.refsL,AV.refs,Q0n]);intro R hR)))))
   exact hJ _ hlt (St.le_of (by simp[leT]) (by simp[leH,hget]))
 · have k1:(decide ((i:Int)<(l.length:Int)))=false:=by simp;omega
   obtain rfl:i=32:=by omega
   have b1:List.take 4 (rcV (X 32))=rcV (X 32):=List.take_of_length_le (by rw[Q1a,lx];omega)
   have b2:(rcV (X 32)).length=4:=by rw[Q1a,lx]
   have b3:List.drop 4 (rcV (X 32))=[]:=List.drop_eq_nil_of_le (by omega)
   have b5:(rcV (zer 4)).length=4:=rfl
   have b4:List.drop 4 (rcV (zer 4))=[]:=rfl
   (have W:=ndI k1 (ndI b1 (ndI b2 (ndI b3 (ndI b4 b5))));(repeat(any_goals(first|((with_reducible refine Q0b ?_ ?_);rfl;intro K hK;simp(disch:=omega) only[go_sem,W,List.append_nil];((repeat(refine ndI (by first|assumption|rfl) ?_));refine hK _ ?_;clear hK K))|(with_reducible first|(refine Q0c ?_;refine hR _ ?_;clear hR R)|((first|refine Q0e ?_);intro J hJ hJ')|(refine Q0a ?_;intro R hR)|(refine hJ _ ?_;clear hJ hJ' J)|refine Q0j ?_|refine Q0q ?_)|((with_reducible refine hJ' _ _ ?_ ?_);(focus(simp;done));clear hJ hJ' J)|((with_reducible apply Q0d);rfl;rfl;all_goals(intro hc;first|(cases hc;done)|(try simp only at hc)))))))
   all_goals(refine⟨by simp,⟨_,?_,AV.le_refl _⟩,Q0g (by simp[leH,hget])⟩;simp only[Tryz.results180,resL,ldA,Q0m,go_sem,b1];rw[if_pos (by omega)];rfl)
theorem wread_fn(ex:Bool)(l:List Nat)(hl:l.length=32)(hb:∀b∈l,b<256):Fn Tryz.prog 180 [bsl ex l] [] (.tup [lnA (wrR l 32),vi .i64 0]) []:=
 wread_fnE ex l hl hb (wrR l) rfl (X5u l) fun _=>rfl
end
section
open Go.RowKit
open Nat (reduceBEq)
set_option maxRecDepth 20000
set_option maxHeartbeats 2000000
def ddN(s:List Int):Nat→List Int
 |0=>[]
 |i+1=>match s[i]? with
  |none=>ddN s i
  |some b=>if 0<i∧s[i-1]? = some b then ddN s i else ddN s i++[b]
theorem X9c{s:List Int}{i:Nat}{a b:Int}(ha:s[i]? = some a)(hb:s[i+1]? = some b)(e:a=b):ddN s (i+2)=ddN s (i+1):=by
 show(match s[i+1]? with|none=>_|some b=>_)=_
 rw[hb]
 dsimp only
 rw[if_pos ⟨by omega,by rw[Nat.add_sub_cancel,ha,e]⟩]
theorem ddN_new{s:List Int}{i:Nat}{a b:Int}(ha:s[i]? = some a)(hb:s[i+1]? = some b)(e:a≠b):ddN s (i+2)=ddN s (i+1)++[b]:=by
 show(match s[i+1]? with|none=>_|some b=>_)=_
 rw[hb]
 dsimp only
 rw[if_neg fun h=>by
  have h2:=h.2
  rw[Nat.add_sub_cancel,ha] at h2
  exact e (Option.some.inj h2)]
theorem ddN_one{s:List Int}{a:Int}(ha:s[0]? = some a):ddN s 1=[a]:=by
 show(match s[0]? with|none=>_|some b=>_)=_
 rw[ha]
 dsimp only
 rw[if_neg fun h=>Nat.lt_irrefl 0 h.1]
 rfl
theorem X3c{s:List Int}:∀{k:Nat},k<s.length→(∀j,j<k→s[j]?≠s[j+1]?)→ddN s (k+1)=s.take (k+1)
 |0,hk,_=>by
  rw[ddN_one (List.getElem?_eq_getElem hk),List.take_add_one,List.getElem?_eq_getElem hk]
  rfl
 |k+1,hk,h=>by
  have ih:=X3c (k:=k) (by omega) fun j hj=>h j (by omega)
  have h1:=h k (by omega)
  rw[List.getElem?_eq_getElem (by omega),List.getElem?_eq_getElem hk] at h1
  rw[ddN_new (List.getElem?_eq_getElem (by omega)) (List.getElem?_eq_getElem hk) (fun e=>h1 (by rw[e])),ih,List.take_add_one (i:=k+1),List.getElem?_eq_getElem hk]
  rfl
theorem ddN_le(s:List Int):∀i,(ddN s i).length≤i
 |0=>Nat.le_refl _
 |i+1=>by
  have ih:=ddN_le s i
  unfold ddN
  split
  · omega
  · split
    · omega
    · rw[List.length_append];simp;omega
theorem X8b{l:List Int}{i:Nat}{y:Int}(h:l[i]? = some y):(rcA l)[i]? = some (vi .u64 y):=by
 unfold rcA
 rw[List.getElem?_map]
 have h2:=Q4m (f:=apv) Q3s h
 rw[Nat.mul_one] at h2
 have h3:(l.flatMap apv)[i]? = some (.v (.int .u64 y)):=by
  have h4:(((l.flatMap apv).drop i).take 1)[0]? = ([PV.v (.int .u64 y)]:List PV)[0]?:=by rw[h2];rfl
  rw[List.getElem?_take,if_pos (by omega),List.getElem?_drop,Nat.add_zero] at h4
  exact h4
 rw[h3]
 rfl
theorem Q9j(l r:List Int):rcA (l++r)=rcA l++rcA r:=by
 unfold rcA;rw[List.flatMap_append,List.map_append]
theorem X7z(l:List Int)(k:Nat):(rcA l).take k=rcA (l.take k):=by
 by_cases h:k≤l.length
 · conv=>lhs;rw[←List.take_append_drop k l,Q9j]
   exact List.take_left' (by rw[Q5n,List.length_take];omega)
 · rw[List.take_of_length_le (by rw[Q5n];omega),List.take_of_length_le (by omega)]
theorem X8a(l:List Int)(k:Nat):(rcA l).drop k=rcA (l.drop k):=by
 by_cases h:k≤l.length
 · conv=>lhs;rw[←List.take_append_drop k l,Q9j]
   exact List.drop_left' (by rw[Q5n,List.length_take];omega)
 · rw[List.drop_of_length_le (by rw[Q5n];omega),List.drop_of_length_le (by omega)]
   rfl
theorem rcA_set(l:List Int)(k:Nat)(x:Int)(h:k<l.length):(rcA l).take k++(vi .u64 x::(rcA l).drop (k+1))=rcA (l.set k x):=by
 rw[X7z,X8a,List.set_eq_take_append_cons_drop,if_pos h,Q9j]
 rfl
theorem zerosA_rc(k:Nat):Q7z [.int .u64 0] k=rcA (List.replicate k 0):=by
 unfold Q7z
 induction k with
 |zero=>rfl
 |succ k ih=>
  rw[List.replicate_succ,List.flatten_cons,ih,List.replicate_succ]
  rfl
theorem X3f(s:List Int)(hs:s.length≤1000000):Fn Tryz.prog 89 [.row 1000 23 1 s.length] [(1000,rcA s)] (.row 1000 23 1 (ddN s s.length).length) [(1000,rcA (ddN s s.length++List.replicate (s.length-(ddN s s.length).length) 0))]:=by
 by_cases h2:s.length<2
 · have hd:ddN s s.length=s:=by
    match s,h2 with
    |[],_=>rfl
    |[a],_=>exact ddN_one rfl
   rw[hd,Nat.sub_self,List.replicate_zero,List.append_nil]
   have k1:(decide ((s.length:Int)<2))=true:=by simp;omega
   (refine Q0t Tryz.func89 rfl (by rfl) ?_;simp only[Tryz.ntmps89,List.length_cons,List.length_nil,Nat.reduceAdd,Nat.reduceSub,List.replicate,List.cons_append,List.nil_append])
   (repeat(any_goals(first|((with_reducible refine Q0b ?_ ?_);rfl;intro K hK;simp only[go_sem,k1];((repeat(refine ndI (by first|assumption) ?_));refine hK _ ?_;clear hK K))|(with_reducible first|(refine Q0c ?_;refine hR _ ?_;clear hR R)|((first|refine Q0e ?_);intro J hJ hJ')|(refine Q0a ?_;intro R hR)|(refine hJ _ ?_;clear hJ hJ' J)|refine Q0j ?_)|((with_reducible refine hJ' _ _ ?_ ?_);(focus(simp;done));clear hJ hJ' J)|((with_reducible apply Q0d);rfl;rfl;all_goals(intro hc;first|(cases hc;done)|(try simp only at hc))))))
   all_goals(refine⟨by simp,⟨_,?_,AV.le_refl _⟩,Q0g (by simp[leH,hget])⟩;simp only[Tryz.results89,resL,ldA,Q0m,go_sem])
 · have k1:(decide ((s.length:Int)<2))=false:=by simp;omega
   (refine Q0t Tryz.func89 rfl (by rfl) ?_;simp only[Tryz.ntmps89,List.length_cons,List.length_nil,Nat.reduceAdd,Nat.reduceSub,List.replicate,List.cons_append,List.nil_append])
   (repeat(any_goals(first|((with_reducible refine Q0b ?_ ?_);rfl;intro K hK;simp only[go_sem,k1];((repeat(refine ndI (by first|assumption) ?_));refine hK _ ?_;clear hK K))|(with_reducible first|(refine Q0c ?_;refine hR _ ?_;clear hR R)|((first|refine Q0e ?_|refine Q0f ?_);intro J hJ hJ')|(refine Q0a ?_;intro R hR)|(refine hJ _ ?_;clear hJ hJ' J)|refine Q0h ?_)|((with_reducible apply Q0d);rfl;rfl;all_goals(intro hc;first|(cases hc;done)|(try simp only at hc))))))
   refine Q1p (α:={j:Nat // j<s.length∧∀i,i<j→s[i]?≠s[i+1]?}) (fun x=>⟨[.row 1000 23 1 s.length,.any,.any,vi .i64 ((x.1+1:Nat):Int),.any,.any,.any,.any,.any,.any,.any,.any,.any,.any,.any,.any,.any,.any,.any,.any,.any,.any,.any,.any,.any,.any,.any,.any,.any,.any,.any,.any,.any,.any,.any,.any,.any,.any,.any,.any,.any,.any,.any,.any,.any,.any,.any,.any,.any,.any,.any,.any,.any,.any,.any,.any,.any,.any,.any,.any,.any],[(1000,rcA s)]⟩) (fun x=>s.length-x.1) ⟨0,by omega,fun i hi=>absurd hi (Nat.not_lt_zero _)⟩ (St.le_of (by simp[leT]) (by simp[leH,hget])) ?_
   rintro ⟨j,hj,hnd⟩ J hJ hJ'
   (try dsimp only at hJ ⊢)
   rcases Nat.lt_or_ge (j+1) s.length with hlt|hge
   · have k2:(decide (((j+1:Nat):Int)<(s.length:Int)))=true:=by simp;omega
     have k3:((j+1:Nat):Int)-1=(j:Int):=by omega
     have k4:((j+1:Nat):Int)+1=((j+1+1:Nat):Int):=by omega
     obtain⟨a,ha⟩:∃a,s[j]? = some a:=⟨_,List.getElem?_eq_getElem hj⟩
     obtain⟨b,hb⟩:∃b,s[j+1]? = some b:=⟨_,List.getElem?_eq_getElem hlt⟩
     have ea:=X8b ha
     have eb:=X8b hb
     by_cases hab:b=a
     · have k5:(b==a)=true:=by simp[hab]
       have hd0:ddN s (j+1)=s.take (j+1):=X3c hj hnd
       have hd1:ddN s (j+2)=s.take (j+1):=by rw[X9c ha hb hab.symm,hd0]
       have hd2:(ddN s (j+2)).length=j+1:=by rw[hd1,List.length_take];omega
       (have W:=ndI k2 (ndI k3 (ndI k4 (ndI k5 @wrI)));(repeat(any_goals(first|((with_reducible refine Q0b ?_ ?_);rfl;intro K hK;simp(disch:=omega) only[go_sem,W,ea,eb,Nat.mul_one];((repeat(refine ndI (by first|assumption|rfl) ?_));refine hK _ ?_;clear hK K))|((with_reducible refine Q0b ?_ ?_);rfl;intro K hK;(try simp(disch:=omega) only[go_sem,W,ea,eb,Nat.mul_one]);(repeat(refine ndI (by first|assumption|rfl) ?_));refine Q7a rfl rfl rfl rfl rfl ?_ rfl rfl rfl rfl ?_ ?_ ?_;(focus(simp only[go_sem];try rfl));(intro h;first|cases h);(first|omega);(intro q hq1 hq2;(simp(disch:=omega) only[go_sem,W,ea,eb,Nat.mul_one];refine hK _ ?_;clear hK K)))|(with_reducible first|(refine Q0c ?_;refine hR _ ?_;clear hR R)|((first|refine Q0e ?_|refine Q0f ?_);intro J hJ hJ')|(refine Q0a ?_;intro R hR)|(refine hJ _ ?_;clear hJ hJ' J)|refine Q0h ?_)|((with_reducible apply Q0d);rfl;rfl;all_goals(intro hc;first|(cases hc;done)|(try simp only at hc)))|((with_reducible refine Q0z ?_ ?_);kernel_rfl;(with_reducible refine hR _ ?_);clear hR R)|(((with_reducible apply Q0x);rfl;rfl;(simp(disch:=omega) only[rdE,rdOf,go_sem,W,ea,eb,Nat.mul_one];rfl);(intro τ hA hQ hN;((try simp only[Q1i,Op.operands,Call.operands,go_sem,W,ea,eb,Nat.mul_one,go_sem,List.mem_cons,List.not_mem_nil,forall_eq_or_imp,forall_eq,List.append_toArray,Option.toArray] at hA);(try simp only[go_sem,W,ea,eb,Nat.mul_one,List.mem_cons,List.not_mem_nil,forall_eq_or_imp,forall_eq] at hQ hN);(first|(revert hA;intro hA));(first|(revert hQ;intro hQ));(first|(revert hN;intro hN));simp(disch:=omega) only[go_sem,W,ea,eb,Nat.mul_one,go_sem,hA,hQ,hN];(repeat(refine ndI (by first|assumption|omega|rfl) ?_));(first|apply Q1b))));(simp(disch:=omega) only[St.eff,setO,Q0u,go_sem,W,ea,eb,Nat.mul_one]))|((with_reducible refine Q0w ?_ ?_ ?_ ?_);kernel_rfl;kernel_rfl;(first|kernel_rfl);intro R hR)))))
       refine Q1p (α:={p:Nat×List Int // j+2+p.1≤s.length∧p.2.length=s.length∧(ddN s (j+2+p.1)).length≤j+1+p.1∧p.2.take (ddN s (j+2+p.1)).length=ddN s (j+2+p.1)∧p.2.drop (j+1+p.1)=s.drop (j+1+p.1)}) (fun x=>⟨[.row 1000 23 1 s.length,.any,.any,vi .i64 ((ddN s (j+2+x.1.1)).length:Int),.cut 1000 23 1 (j+1) (s.length-(j+1)) q true,vi .i64 ((x.1.1+1:Nat):Int),.any,.any,.any,.any,.any,.any,.any,.any,.any,.any,.any,.any,.any,.any,.any,.any,.any,.any,.any,.any,.any,.any,.any,.any,.any,.any,.any,.any,.any,.any,.any,.any,.any,.any,.any,.any,.any,.any,.any,.any,.any,.any,.any,.any,.any,.any,.any,.any,.any,.any,.any,.any,.any,.any,.any],[(1000,rcA x.1.2)]⟩) (fun x=>s.length-x.1.1) ⟨(0,s),by dsimp only;omega,rfl,by dsimp only;rw[Nat.add_zero,hd2];omega,by dsimp only;rw[Nat.add_zero,hd2,hd1],rfl⟩ (St.le_of (by simp[leT,hd2]) (by simp[leH,hget])) ?_
       rintro ⟨⟨i,m⟩,c1,c2,c3,c4,c5⟩ J hJ hJ'
       dsimp only at c1 c2 c3 c4 c5
       (try dsimp only at hJ ⊢)
       obtain⟨d,hd⟩:∃d,(ddN s (j+2+i)).length=d:=⟨_,rfl⟩
       rcases Nat.lt_or_ge (j+2+i) s.length with hlt2|hge2
       · have n2:(decide (((i+1:Nat):Int)<((s.length-(j+1):Nat):Int)))=true:=by simp;omega
         have n3:((i+1:Nat):Int)-1=(i:Int):=by omega
         have n4:((i+1:Nat):Int)+1=((i+1+1:Nat):Int):=by omega
         have n6:((d:Nat):Int)+1=((d+1:Nat):Int):=by omega
         obtain⟨a',ha'⟩:∃a,s[j+1+i]? = some a:=⟨_,List.getElem?_eq_getElem (by omega)⟩
         obtain⟨b',hb'⟩:∃b,s[j+1+i+1]? = some b:=⟨_,List.getElem?_eq_getElem (by omega)⟩
         have hm:∀x,m[j+1+i+x]? = s[j+1+i+x]?:=fun x=>by
          rw[←List.getElem?_drop,←List.getElem?_drop,c5]
         have ea':=X8b (l:=m) (by rw[←ha'];exact hm 0)
         have eb':=X8b (l:=m) (by rw[←hb'];exact hm 1)
         rw[Nat.add_assoc (j+1) i 1] at eb'
         rw[Nat.add_zero] at ea'
         have c3':d≤j+1+i:=by rw[←hd];exact c3
         have hset:(rcA m).take d++[vi .u64 b']++(rcA m).drop (d+1)=rcA (m.set d b'):=by
          rw[List.append_assoc]
          exact rcA_set m d b' (by omega)
         have hdl:d<s.length:=by omega
         have hml:(rcA m).length=s.length:=by rw[Q5n,c2,Nat.mul_one]
         rw[hd] at c3 c4
         rw[hd]
         by_cases hab':b'=a'
         · have n5:(b' != a')=false:=by simp[hab']
           have en:=X9c (s:=s) ha' hb' hab'.symm
           have hJ1:=fun σ'=>hJ σ' ⟨(i+1,m),by dsimp only;omega,c2,by
            dsimp only
            rw[show j+2+(i+1)=j+1+i+2 by omega,en,show j+1+i+1=j+2+i by omega,hd]
            omega,by
            dsimp only
            rw[show j+2+(i+1)=j+1+i+2 by omega,en,show j+1+i+1=j+2+i by omega,hd]
            exact c4,by
            dsimp only
            rw[show j+1+(i+1)=j+1+i+1 by omega,←List.drop_drop,c5,List.drop_drop]⟩ (by dsimp only;omega)
           dsimp only at hJ1
           rw[show j+2+(i+1)=j+1+i+2 by omega,en,show j+1+i+1=j+2+i by omega,hd] at hJ1
           (have W:=ndI n2 (ndI n3 (ndI n4 (ndI n5 (ndI n6 @wrI))));(repeat(any_goals(first|((with_reducible refine Q0b ?_ ?_);rfl;intro K hK;simp(disch:=omega) only[go_sem,W,ea',eb',hset,hml,Nat.mul_one];((repeat(refine ndI (by first|assumption|rfl) ?_));refine hK _ ?_;clear hK K))|(with_reducible first|(refine Q0c ?_;refine hR _ ?_;clear hR R)|((first|refine Q0e ?_|refine Q0f ?_);intro J hJ hJ')|(refine Q0a ?_;intro R hR)|(refine hJ _ ?_;clear hJ hJ' J)|refine Q0h ?_)|((with_reducible refine hJ' _ _ ?_ ?_);(focus(simp;done));clear hJ hJ' J)|((with_reducible apply Q0d);rfl;rfl;all_goals(intro hc;first|(cases hc;done)|(try simp only at hc)))|((with_reducible refine Q0z ?_ ?_);kernel_rfl;(with_reducible refine hR _ ?_);clear hR R)|((first|((with_reducible apply Q0x);rfl;rfl;(simp(disch:=omega) only[rdE,rdOf,go_sem,W,ea',eb',hset,hml,Nat.mul_one];rfl);(intro τ hA hQ hN;((try simp only[Q1i,Op.operands,Call.operands,go_sem,W,ea',eb',hset,hml,Nat.mul_one,go_sem,List.mem_cons,List.not_mem_nil,forall_eq_or_imp,forall_eq,List.append_toArray,Option.toArray] at hA);(try simp only[go_sem,W,ea',eb',hset,hml,Nat.mul_one,List.mem_cons,List.not_mem_nil,forall_eq_or_imp,forall_eq] at hQ hN);(first|(revert hA;intro hA));(first|(revert hQ;intro hQ));(first|(revert hN;intro hN));simp(disch:=omega) only[go_sem,W,ea',eb',hset,hml,Nat.mul_one,go_sem,hA,hQ,hN];(repeat(refine ndI (by first|assumption|rfl) ?_));(first|apply Q1b))))|((first|((with_reducible apply Q6j);rfl));apply Q6z;rfl;rfl;rfl;rfl;rfl;(focus(simp only[go_sem];try rfl));(first|omega)));(simp(disch:=omega) only[St.eff,setO,Q0u,go_sem,W,ea',eb',hset,hml,Nat.mul_one]))|((with_reducible refine Q0w ?_ ?_ ?_ ?_);kernel_rfl;kernel_rfl;(first|kernel_rfl);intro R hR)))))
           all_goals exact hJ1 _ (St.le_of (by simp[leT]) (by simp[leH,hget]))
         · have n5:(b' != a')=true:=by simp[hab']
           have en:=ddN_new (s:=s) ha' hb' (fun e=>hab' e.symm)
           have hl':(ddN s (j+1+i+2)).length=d+1:=by
            rw[en,List.length_append,show j+1+i+1=j+2+i by omega,hd];rfl
           have hJ1:=fun σ'=>hJ σ' ⟨(i+1,m.set d b'),by dsimp only;omega,by dsimp only;rw[List.length_set];exact c2,by
            dsimp only
            rw[show j+2+(i+1)=j+1+i+2 by omega,hl']
            omega,by
            dsimp only
            rw[show j+2+(i+1)=j+1+i+2 by omega,hl',en,show j+1+i+1=j+2+i by omega,List.set_eq_take_append_cons_drop,if_pos (by omega),c4,List.take_append,hd]
            rw[List.take_of_length_le (by omega),show d+1-d=1 by omega]
            rfl,by
            dsimp only
            rw[List.drop_set,if_pos (by omega),show j+1+(i+1)=j+1+i+1 by omega,←List.drop_drop,c5,List.drop_drop]⟩ (by dsimp only;omega)
           dsimp only at hJ1
           rw[show j+2+(i+1)=j+1+i+2 by omega,hl'] at hJ1
           (have W:=ndI n2 (ndI n3 (ndI n4 (ndI n5 (ndI n6 @wrI))));(repeat(any_goals(first|((with_reducible refine Q0b ?_ ?_);rfl;intro K hK;simp(disch:=omega) only[go_sem,W,ea',eb',hset,hml,Nat.mul_one];((repeat(refine ndI (by first|assumption|omega|rfl) ?_));refine hK _ ?_;clear hK K))|((with_reducible refine Q0b ?_ ?_);rfl;intro K hK;(try simp(disch:=omega) only[go_sem,W,ea',eb',hset,hml,Nat.mul_one]);(repeat(refine ndI (by first|assumption|rfl) ?_));refine Q4b rfl rfl rfl rfl rfl ?_ ?_ ?_;(focus(simp only[go_sem];try rfl));(first|omega);(simp(disch:=omega) only[go_sem,W,ea',eb',hset,hml,Nat.mul_one];refine hK _ ?_;clear hK K))|(with_reducible first|(refine Q0c ?_;refine hR _ ?_;clear hR R)|((first|refine Q0e ?_|refine Q0f ?_);intro J hJ hJ')|(refine Q0a ?_;intro R hR)|(refine hJ _ ?_;clear hJ hJ' J)|refine Q0h ?_)|((with_reducible refine hJ' _ _ ?_ ?_);(focus(simp;done));clear hJ hJ' J)|((with_reducible apply Q0d);rfl;rfl;all_goals(intro hc;first|(cases hc;done)|(try simp only at hc)))|((with_reducible refine Q0z ?_ ?_);kernel_rfl;(with_reducible refine hR _ ?_);clear hR R)|((first|((with_reducible apply Q0x);rfl;rfl;(simp(disch:=omega) only[rdE,rdOf,go_sem,W,ea',eb',hset,hml,Nat.mul_one];rfl);(intro τ hA hQ hN;((try simp only[Q1i,Op.operands,Call.operands,go_sem,W,ea',eb',hset,hml,Nat.mul_one,go_sem,List.mem_cons,List.not_mem_nil,forall_eq_or_imp,forall_eq,List.append_toArray,Option.toArray] at hA);(try simp only[go_sem,W,ea',eb',hset,hml,Nat.mul_one,List.mem_cons,List.not_mem_nil,forall_eq_or_imp,forall_eq] at hQ hN);(first|(revert hA;intro hA));(first|(revert hQ;intro hQ));(first|(revert hN;intro hN));simp(disch:=omega) only[go_sem,W,ea',eb',hset,hml,Nat.mul_one,go_sem,hA,hQ,hN];(repeat(refine ndI (by first|assumption|rfl) ?_));(first|apply Q1b))))|((first|((with_reducible apply Q6j);rfl));apply Q6z;rfl;rfl;rfl;rfl;rfl;(focus(simp only[go_sem];try rfl));(first|omega)));(simp(disch:=omega) only[St.eff,setO,Q0u,go_sem,W,ea',eb',hset,hml,Nat.mul_one]))|((with_reducible refine Q0w ?_ ?_ ?_ ?_);kernel_rfl;kernel_rfl;(first|kernel_rfl);intro R hR)))))
           all_goals exact hJ1 _ (St.le_of (by simp[leT]) (by simp[leH,hget]))
       · have n2:(decide (((i+1:Nat):Int)<((s.length-(j+1):Nat):Int)))=false:=by simp;omega
         have e:j+2+i=s.length:=by omega
         rw[e] at hd c4
         rw[hd] at c4
         have hdl:d≤s.length:=by rw[←hd];exact ddN_le s _
         have hml:=Q5n m
         have hfin:rcA (ddN s s.length++List.replicate (s.length-d) 0)=spl (rcA m) d (Q7z [.int .u64 0] (s.length-d)):=by
          unfold spl
          rw[zerosA_rc,Q5n,List.length_replicate,Q9j,X7z,c4,X8a,List.drop_of_length_le (by omega)]
          show _=_++[]
          rw[List.append_nil]
         rw[e,hd]
         have hr:(AV.row 1000 23 1 (ddN s s.length).length) = .row 1000 23 1 d:=by rw[hd]
         have hcc:ddN s s.length++List.replicate (s.length-(ddN s s.length).length) 0=ddN s s.length++List.replicate (s.length-d) 0:=by rw[hd]
         (repeat(any_goals(first|((with_reducible refine Q0b ?_ ?_);rfl;intro K hK;simp(disch:=omega) only[go_sem,n2,wrI,Nat.mul_one];((repeat(refine ndI (by first|assumption|rfl) ?_));refine hK _ ?_;clear hK K))|((with_reducible refine Q0b ?_ ?_);rfl;intro K hK;(try simp(disch:=omega) only[go_sem,n2,wrI,Nat.mul_one]);(repeat(refine ndI (by first|assumption|rfl) ?_));refine Q7a rfl rfl rfl rfl rfl ?_ rfl rfl rfl rfl ?_ ?_ ?_;(focus(simp only[go_sem];try rfl));(intro h;first|rfl|cases h);(first|omega);(intro q hq1 hq2;(simp(disch:=omega) only[go_sem,n2,wrI,Nat.mul_one];refine hK _ ?_;clear hK K)))|((with_reducible refine Q0b ?_ ?_);rfl;intro K hK;(try simp(disch:=omega) only[go_sem,n2,wrI,Nat.mul_one]);(repeat(refine ndI (by first|assumption) ?_));apply opA_clear;rfl;rfl;(focus(simp only[go_sem];try rfl));(first|omega);(simp(disch:=omega) only[go_sem,Option.bind_some];rfl);rfl;rfl;rfl;rfl;(first|omega);(simp(disch:=omega) only[go_sem,n2,wrI,Nat.mul_one];refine hK _ ?_;clear hK K))|(with_reducible first|(refine Q0c ?_;refine hR _ ?_;clear hR R)|((first|refine Q0e ?_);intro J hJ hJ')|(refine Q0a ?_;intro R hR)|(refine hJ _ ?_;clear hJ hJ' J)|refine Q0j ?_|refine Q0q ?_)|((with_reducible refine hJ' _ _ ?_ ?_);(focus(simp;done));clear hJ hJ' J)|((with_reducible apply Q0d);rfl;rfl;all_goals(intro hc;first|(cases hc;done)|(try simp only at hc))))))
         all_goals rw[hr,hcc,hfin]
         all_goals refine⟨by simp,⟨_,rfl,AV.le_cut _ _ _ _ _⟩,Q0g ⟨?_,trivial⟩⟩
         all_goals simp[Q2r,spl,List.append_assoc]
     · have k5:(b==a)=false:=by simp[hab]
       have hJ1:=fun σ'=>hJ σ' ⟨j+1,hlt,fun i hi=>by
        rcases Nat.lt_or_ge i j with h|h
        · exact hnd i h
        · obtain rfl:i=j:=by omega
          rw[ha,hb]
          exact fun e=>hab (Option.some.inj e).symm⟩ (by dsimp only;omega)
       dsimp only at hJ1
       (have W:=ndI k2 (ndI k3 (ndI k4 (ndI k5 @wrI)));(repeat(any_goals(first|((with_reducible refine Q0b ?_ ?_);rfl;intro K hK;simp(disch:=omega) only[go_sem,W,ea,eb,Nat.mul_one];((repeat(refine ndI (by first|assumption|rfl) ?_));refine hK _ ?_;clear hK K))|(with_reducible first|(refine Q0c ?_;refine hR _ ?_;clear hR R)|((first|refine Q0e ?_|refine Q0f ?_);intro J hJ hJ')|(refine Q0a ?_;intro R hR)|(refine hJ _ ?_;clear hJ hJ' J)|refine Q0h ?_)|((with_reducible refine hJ' _ _ ?_ ?_);(focus(simp;done));clear hJ hJ' J)|((with_reducible apply Q0d);rfl;rfl;all_goals(intro hc;first|(cases hc;done)|(try simp only at hc)))|((with_reducible refine Q0z ?_ ?_);kernel_rfl;(with_reducible refine hR _ ?_);clear hR R)|(((with_reducible apply Q0x);rfl;rfl;(simp(disch:=omega) only[rdE,rdOf,go_sem,W,ea,eb,Nat.mul_one];rfl);(intro τ hA hQ hN;((try simp only[Q1i,Op.operands,Call.operands,go_sem,W,ea,eb,Nat.mul_one,go_sem,List.mem_cons,List.not_mem_nil,forall_eq_or_imp,forall_eq,List.append_toArray,Option.toArray] at hA);(try simp only[go_sem,W,ea,eb,Nat.mul_one,List.mem_cons,List.not_mem_nil,forall_eq_or_imp,forall_eq] at hQ hN);(first|(revert hA;intro hA));(first|(revert hQ;intro hQ));(first|(revert hN;intro hN));simp(disch:=omega) only[go_sem,W,ea,eb,Nat.mul_one,go_sem,hA,hQ,hN];(repeat(refine ndI (by first|assumption|omega|rfl) ?_));(first|apply Q1b))));(simp(disch:=omega) only[St.eff,setO,Q0u,go_sem,W,ea,eb,Nat.mul_one]))|((with_reducible refine Q0w ?_ ?_ ?_ ?_);kernel_rfl;kernel_rfl;(first|kernel_rfl);intro R hR)))))
       all_goals exact hJ1 _ (St.le_of (by simp[leT]) (by simp[leH,hget]))
   · have k2:(decide (((j+1:Nat):Int)<(s.length:Int)))=false:=by simp;omega
     have hd:ddN s s.length=s:=by
      have e:s.length=j+1:=by omega
      rw[e,X3c hj hnd,←e,List.take_length]
     have hr:(AV.row 1000 23 1 (ddN s s.length).length) = .row 1000 23 1 s.length:=by rw[hd]
     have hcc:ddN s s.length++List.replicate (s.length-(ddN s s.length).length) 0=s:=by rw[hd,Nat.sub_self,List.replicate_zero,List.append_nil]
     (repeat(any_goals(first|((with_reducible refine Q0b ?_ ?_);rfl;intro K hK;simp only[go_sem,k2];((repeat(refine ndI (by first|assumption) ?_));refine hK _ ?_;clear hK K))|(with_reducible first|(refine Q0c ?_;refine hR _ ?_;clear hR R)|((first|refine Q0e ?_);intro J hJ hJ')|(refine Q0a ?_;intro R hR)|(refine hJ _ ?_;clear hJ hJ' J)|refine Q0j ?_|refine Q0q ?_)|((with_reducible refine hJ' _ _ ?_ ?_);(focus(simp;done));clear hJ hJ' J)|((with_reducible apply Q0d);rfl;rfl;all_goals(intro hc;first|(cases hc;done)|(try simp only at hc))))))
     all_goals rw[hr,hcc]
     all_goals(refine⟨by simp,⟨_,?_,AV.le_refl _⟩,Q0g (by simp[leH,hget])⟩;simp only[Tryz.results89,resL,ldA,Q0m,go_sem])
end
section
open Go.RowKit
theorem X6u{α : Type}[Inhabited α]{enc:α→Value}{w:World}{blk m:Nat}{d:Array α}{os:Array Obj}{cur:Array Value}{t:TypeId}(hb:w.heap[blk]? = some (.cells cur t (0,0))) :
 (sortWorld enc w blk 0 m d os).heap[blk]? = some (.cells (Sort.putCells enc 0 d cur) t (0,0)):=by
 have hlt:blk<w.heap.size:=(Array.getElem?_eq_some_iff.1 hb).1
 unfold sortWorld
 rw[Sort.heap_grow_old _ _ (by rw[Sort.size_putRow];exact hlt)]
 show(w.heap.modify blk (Sort.onCells (Sort.putCells enc 0 d)))[blk]? = _
 rw[Array.getElem?_modify,if_pos rfl,hb]
 rfl
theorem Q7u{α : Type}[Inhabited α]{enc:α→Value}{w:World}{blk m b:Nat}{d:Array α}{os:Array Obj}(hlt:b<w.heap.size)(hne:blk≠b) :
 (sortWorld enc w blk 0 m d os).heap[b]? = w.heap[b]?:=by
 unfold sortWorld
 rw[Sort.heap_grow_old _ _ (by rw[Sort.size_putRow];exact hlt)]
 show(w.heap.modify blk (Sort.onCells (Sort.putCells enc 0 d)))[b]? = _
 rw[Array.getElem?_modify,if_neg hne]
theorem X5x{α : Type}[Inhabited α]{enc:α→Value}{w:World}{blk m:Nat}{d:Array α}{os:Array Obj}:w.heap.size≤(sortWorld enc w blk 0 m d os).heap.size:=by
 unfold sortWorld
 rw[Sort.size_grow,Sort.size_putRow]
 exact Nat.le_add_right _ _
theorem X6w{w:World}{b:Nat}{cs:Array Value}{t:TypeId}(hb:w.heap[b]? = some (.cells cs t (0,0)))(j:Nat):w.frozen? ⟨b,j,none⟩=false:=by
 unfold World.frozen?
 rw[hb]
 simp
theorem cell_of{w:World}{b:Nat}{cs:Array Value}{t:TypeId}(hb:w.heap[b]? = some (.cells cs t (0,0)))(j:Nat):w.cell? ⟨b,j,none⟩=cs[j]?:=by
 unfold World.cell?
 rw[hb]
 rfl
theorem Fn.sorting{α : Type}[Inhabited α]{P:Program}{f g:FuncId}{e:TypeId}{enc:α→Value}(h1:∀x,(enc x).oneCell'=true)(l l':List α)(hlen:l'.length=l.length)
 (hS:∀(blk cap:Nat) (w:World),l≠[]→Sort.Holds enc w blk 0 l.toArray→blk<w.heap.size→Calls P f #[.slice (some ⟨blk,0,none⟩) l.toArray.size cap,.func (.func g) #[] #[]] w fun e w'=>e = .returned (.tuple #[])∧∃n os,w'=sortWorld enc w blk 0 n l'.toArray os)
 (h0:∀p cap w,Calls P f #[.slice p 0 cap,.func (.func g) #[] #[]] w fun e w'=>e = .returned (.tuple #[])∧w'=w) :
 Fn P f [.row 1000 e 1 l.length,.fn g []] [(1000,l.map fun x=>.c (.v (enc x)))] (.tup []) [(1000,l'.map fun x=>.c (.v (enc x)))]:=by
 intro E vs hD hsep hH hvl hv
 obtain⟨v0,v1,rfl⟩:∃v0 v1,vs=[v0,v1]:=by
  match vs,hvl with
  |[v0,v1],_=>exact⟨v0,v1,rfl⟩
 have r0:=hv 0 v0 _ rfl rfl
 have r1:=hv 1 v1 _ rfl rfl
 have hmine:(∀(q:Nat) cs,hget [(1000,l'.map fun x=>AV.c (.v (enc x)))] q=some cs→(q∈E.D→E.ι q=E.ι q)∧(q∉E.D→(E.ι q).2.1≠0→Mine E (E.ι q).1)):=fun q cs hq=>
  ⟨fun _=>rfl,fun hn _=>by
    rw[hD] at hn
    simp only[hget] at hq
    split at hq
    · rename_i e;subst e;simp at hn
    · cases hq⟩
 have hblk0:=hH.blk 1000 (l.map fun x=>AV.c (.v (enc x))) (by simp[hget])
 cases r1 with
 |fn _ us _ hul hus=>
 obtain rfl:=List.eq_nil_of_length_eq_zero hul
 have hnone:∀p c,l=[]→v0 = .slice p 0 c→Calls P f [v0,.func (.func g) #[] #[]].toArray E.w fun e w'=>∃v ι',e = .returned v∧RV (Sx E ι' [(1000,l'.map fun x=>AV.c (.v (enc x)))]) ι' w' v (.tup [])∧ConcH (Sx E ι' [(1000,l'.map fun x=>AV.c (.v (enc x)))]) ι' [(1000,l'.map fun x=>AV.c (.v (enc x)))] w'∧Keep E ι' [(1000,l'.map fun x=>AV.c (.v (enc x)))] w':=by
  intro p c hl0 hv0
  subst hl0 hv0
  obtain rfl:=List.eq_nil_of_length_eq_zero hlen
  refine(h0 p c E.w).mono ?_
  rintro e w' ⟨rfl,rfl⟩
  refine⟨_,E.ι,rfl,.tup [] [] rfl (fun j u x hu=>by cases hu),⟨fun q cs hq=>?_,fun q q' cs ds hq hq' hne=>?_⟩,⟨rfl,rfl,rfl,Nat.le_refl _,fun _ _ _=>rfl,hmine⟩⟩
  · simp only[hget] at hq
    split at hq
    · rename_i e;subst e;cases hq
      rcases hblk0 with hb|⟨cur,hc1,hc2,hc3,hc4,hc5⟩
      · exact .inl hb
      · exact .inr ⟨cur,hc1,hc2,hc3,fun j u x hu hx=>(by cases hx),hc5⟩
    · cases hq
  · simp only[hget] at hq hq'
    split at hq
    · split at hq'
      · omega
      · cases hq'
    · cases hq
 rcases Nat.eq_zero_or_pos l.length with hl0|hl0
 · generalize hn:l.length=n at r0
   have hn0:n=0:=by omega
   cases r0 with
   |row _ _ _ _ c k1 k2 k3 k4 k0=>exact hnone _ _ (List.eq_nil_of_length_eq_zero hl0) (by rw[hn0])
   |rnil A _ _ _ k=>exact hnone A 0 (List.eq_nil_of_length_eq_zero hl0) rfl
 · have hne:l≠[]:=fun h=>by rw[h] at hl0;exact Nat.lt_irrefl _ hl0
   generalize hn:l.length=n at r0
   cases r0 with
   |rnil A _ _ _ k=>omega
   |row _ _ _ _ c k1 k2 k3 k4 k0=>
    rcases hblk0 with hb|⟨cur,hc1,hc2,hc3,hc4,hc5⟩
    · exact absurd hb.1 k0
    · rw[List.length_map] at hc3
      have hlt:(E.ι 1000).1<E.w.heap.size:=(Array.getElem?_eq_some_iff.1 hc1).1
      have hsz:l.toArray.size=n:=by simp[hn]
      have hHo:Sort.Holds enc E.w (E.ι 1000).1 0 l.toArray:=by
       intro j hj
       rw[hsz] at hj
       have hjc:j<cur.size:=by omega
       refine⟨?_,X6w hc1 _⟩
       rw[Nat.zero_add,cell_of hc1,Array.getElem?_eq_getElem hjc]
       obtain⟨hrv,_⟩:=hc4 j _ (.c (.v (enc l[j]))) (Array.getElem?_eq_getElem hjc) (by rw[List.getElem?_map,List.getElem?_eq_getElem (by omega)];rfl)
       generalize cur[j]=u at hrv ⊢
       cases hrv with
       |c _ _ hp=>
        cases hp with
        |v=>
         rw[getElem!_pos _ j (by simp;omega)]
         simp
      have hC:=hS (E.ι 1000).1 c E.w hne hHo hlt
      rw[hsz] at hC
      refine hC.mono ?_
      rintro e w' ⟨rfl,m,os,rfl⟩
      have hnew:=X6u (enc:=enc) (m:=m) (d:=l'.toArray) (os:=os) hc1
      have hcs:(Sort.putCells enc 0 l'.toArray cur).size=cur.size:=by simp[Sort.putCells]
      have hcell:∀(j:Nat) (u:Value),(Sort.putCells enc 0 l'.toArray cur)[j]? = some u→∃y,cur[j]? = some y∧u=if j<l'.length then enc l'.toArray[j]! else y:=by
       intro j u hu
       have hj:j<cur.size:=by rw[←hcs];exact(Array.getElem?_eq_some_iff.1 hu).1
       refine⟨_,Array.getElem?_eq_getElem hj,?_⟩
       simp only[Sort.putCells,Array.getElem?_mapIdx,Array.getElem?_eq_getElem hj,Option.map_some,Option.some.injEq] at hu
       rw[←hu]
       simp
      refine⟨_,E.ι,rfl,.tup [] [] rfl (fun j u x hu=>by cases hu),⟨fun q cs hq=>?_,fun q q' cs ds hq hq' hne'=>?_⟩,⟨rfl,rfl,rfl,X5x,fun b hb hnb=>?_,hmine⟩⟩
      · simp only[hget] at hq
        split at hq
        · rename_i e;subst e;cases hq
          refine .inr ⟨_,hnew,by rw[hcs];exact hc2,by rw[hcs,List.length_map];omega,fun j u x hu hx=>?_,fun u hu=>?_⟩
          · obtain⟨y,hy,rfl⟩:=hcell j u hu
            rw[List.getElem?_map,Option.map_eq_some_iff] at hx
            obtain⟨z,hz,rfl⟩:=hx
            have hj:=(List.getElem?_eq_some_iff.1 hz).1
            rw[if_pos hj]
            have:l'.toArray[j]! = z:=by
             rw[getElem!_pos _ j (by simpa using hj)]
             simp
             exact(List.getElem?_eq_some_iff.1 hz).2
            rw[this]
            exact⟨.c _ _ (.v _ (h1 z)),h1 z⟩
          · obtain⟨j,hj⟩:=List.mem_iff_getElem?.1 hu
            rw[Array.getElem?_toList] at hj
            obtain⟨y,hy,rfl⟩:=hcell j u hj
            split
            · exact h1 _
            · exact hc5 y (by
               rw[←Array.getElem?_toList] at hy
               exact List.mem_of_getElem? hy)
        · cases hq
      · simp only[hget] at hq hq'
        split at hq
        · split at hq'
          · omega
          · cases hq'
        · cases hq
      · exact Q7u hb (hnb 1000 (by rw[hD];simp) k0)
end
section
open Go.RowKit
set_option maxRecDepth 20000
set_option maxHeartbeats 2000000
def X3t:Go.Shelf.Ren:=⟨fun|6=>87|15=>76|14=>140|28=>130|29=>131|20=>162|21=>163|22=>164|23=>165|24=>166|25=>167|26=>168|27=>169|46=>181|47=>155|48=>156|49=>182|50=>183|57=>188|n=>n,fun|22=>25|24=>23|25=>116|3=>3|39=>55|0=>0|53=>160|55=>22|4=>4|46=>153|45=>152|50=>157|5=>5|9=>9|66=>184|70=>188|76=>203|77=>204|n=>n,fun|n=>n⟩
theorem sortL:Go.Proofs.SlLaysF.n6 Tryz.prog X3t where
 mixed:=by kernel_rfl
 f6:=⟨"slices.SortFunc[[]sheafer/api.Addr,sheafer/api.Addr]",by decide,Tryz.func87.trans (congrArg some (by kernel_rfl))⟩
 f14:=⟨"slices.pdqsortCmpFunc[sheafer/api.Addr]",by decide,Tryz.func140.trans (congrArg some (by kernel_rfl))⟩
 f15:=Tryz.func76.trans (congrArg some (by kernel_rfl))
 f20:=⟨"slices.insertionSortCmpFunc[sheafer/api.Addr]",by decide,Tryz.func162.trans (congrArg some (by kernel_rfl))⟩
 f21:=⟨"slices.heapSortCmpFunc[sheafer/api.Addr]",by decide,Tryz.func163.trans (congrArg some (by kernel_rfl))⟩
 f22:=⟨"slices.breakPatternsCmpFunc[sheafer/api.Addr]",by decide,Tryz.func164.trans (congrArg some (by kernel_rfl))⟩
 f23:=⟨"slices.choosePivotCmpFunc[sheafer/api.Addr]",by decide,Tryz.func165.trans (congrArg some (by kernel_rfl))⟩
 f24:=⟨"slices.reverseRangeCmpFunc[sheafer/api.Addr]",by decide,Tryz.func166.trans (congrArg some (by kernel_rfl))⟩
 f25:=⟨"slices.partialInsertionSortCmpFunc[sheafer/api.Addr]",by decide,Tryz.func167.trans (congrArg some (by kernel_rfl))⟩
 f26:=⟨"slices.partitionEqualCmpFunc[sheafer/api.Addr]",by decide,Tryz.func168.trans (congrArg some (by kernel_rfl))⟩
 f27:=⟨"slices.partitionCmpFunc[sheafer/api.Addr]",by decide,Tryz.func169.trans (congrArg some (by kernel_rfl))⟩
 f28:=Tryz.func130.trans (congrArg some (by kernel_rfl))
 f29:=Tryz.func131.trans (congrArg some (by kernel_rfl))
 f46:=⟨"slices.siftDownCmpFunc[sheafer/api.Addr]",by decide,Tryz.func181.trans (congrArg some (by kernel_rfl))⟩
 f47:=Tryz.func155.trans (congrArg some (by kernel_rfl))
 f48:=Tryz.func156.trans (congrArg some (by kernel_rfl))
 f49:=⟨"slices.medianAdjacentCmpFunc[sheafer/api.Addr]",by decide,Tryz.func182.trans (congrArg some (by kernel_rfl))⟩
 f50:=⟨"slices.medianCmpFunc[sheafer/api.Addr]",by decide,Tryz.func183.trans (congrArg some (by kernel_rfl))⟩
 f57:=⟨"slices.order2CmpFunc[sheafer/api.Addr]",by decide,Tryz.func188.trans (congrArg some (by kernel_rfl))⟩
 t0:=Tryz.underlying0
 a0:=Tryz.isAgg0
 z0:=Tryz.sizeOf0
 v0:=Tryz.zeroValue0
 t3:=Tryz.underlying3
 a3:=Tryz.isAgg3
 z3:=Tryz.sizeOf3
 v3:=Tryz.zeroValue3
 t4:=Tryz.underlying4
 a4:=Tryz.isAgg4
 z4:=Tryz.sizeOf4
 v4:=Tryz.zeroValue4
 t5:=Tryz.underlying5
 a5:=Tryz.isAgg5
 z5:=Tryz.sizeOf5
 v5:=Tryz.zeroValue5
 t9:=Tryz.underlying9
 a9:=Tryz.isAgg9
 z9:=Tryz.sizeOf9
 v9:=Tryz.zeroValue9
 t22:=Tryz.underlying25
 a22:=Tryz.isAgg25
 z22:=Tryz.sizeOf25
 v22:=Tryz.zeroValue25
 a24:=Tryz.isAgg23
 z24:=Tryz.sizeOf23
 t25:=Tryz.underlying116
 a25:=Tryz.isAgg116
 z25:=Tryz.sizeOf116
 v25:=Tryz.zeroValue116
 t39:=Tryz.underlying55
 a39:=Tryz.isAgg55
 z39:=Tryz.sizeOf55
 v39:=Tryz.zeroValue55
 t45:=Tryz.underlying152
 a45:=Tryz.isAgg152
 z45:=Tryz.sizeOf152
 v45:=Tryz.zeroValue152
 t46:=Tryz.underlying153
 a46:=Tryz.isAgg153
 z46:=Tryz.sizeOf153
 v46:=Tryz.zeroValue153
 t50:=Tryz.underlying157
 a50:=Tryz.isAgg157
 z50:=Tryz.sizeOf157
 v50:=Tryz.zeroValue157
 t53:=Tryz.underlying160
 a53:=Tryz.isAgg160
 z53:=Tryz.sizeOf160
 v53:=Tryz.zeroValue160
 t55:=Tryz.underlying22
 a55:=Tryz.isAgg22
 z55:=Tryz.sizeOf22
 v55:=Tryz.zeroValue22
 t66:=Tryz.underlying184
 a66:=Tryz.isAgg184
 z66:=Tryz.sizeOf184
 v66:=Tryz.zeroValue184
 t70:=Tryz.underlying188
 a70:=Tryz.isAgg188
 z70:=Tryz.sizeOf188
 v70:=Tryz.zeroValue188
 t76:=Tryz.underlying203
 a76:=Tryz.isAgg203
 z76:=Tryz.sizeOf203
 v76:=Tryz.zeroValue203
 t77:=Tryz.underlying204
 a77:=Tryz.isAgg204
 z77:=Tryz.sizeOf204
 v77:=Tryz.zeroValue204
abbrev A64:={a:Int // 0≤a∧a≤18446744073709551615}
instance:Inhabited A64:=⟨⟨0,by omega,by omega⟩⟩
def encA(x:A64):Value:=.int .u64 x.1
def cfA(x y:A64):Int:=if x.1<y.1 then -1 else if y.1<x.1 then 1 else 0
theorem ltA(x y:A64):ltOf cfA x y=decide (x.1<y.1):=by
 unfold ltOf cfA
 by_cases h1:x.1<y.1
 · simp[h1]
 · by_cases h2:y.1<x.1<;>simp[h1,h2]
theorem swoA:Sort.SWO (ltOf cfA) where
 irrefl x:=by rw[ltA];simp
 trans x y z h1 h2:=by rw[ltA] at *;simp at *;omega
 ntrans x y z h1 h2:=by rw[ltA] at *;simp at *;omega
theorem totA(x y:A64)(h1:ltOf cfA x y=false)(h2:ltOf cfA y x=false):x=y:=by
 rw[ltA] at *
 simp at *
 exact Subtype.ext (by omega)
theorem Z0r(x y:A64)(W:World):Calls Tryz.prog 88 #[.int .u64 x.1,.int .u64 y.1] W fun e w'=>e = .returned (.int .i64 (cfA x y))∧∃q,w'=W.drewN q:=by
 obtain⟨x,hx⟩:=x
 obtain⟨y,hy⟩:=y
 by_cases h1:x<y
 · have e:cfA ⟨x,hx⟩ ⟨y,hy⟩ = -1:=by unfold cfA;rw[if_pos h1]
   rw[e]
   go_enter Tryz.func88,Tryz.ntmps88
   go_wp2
   go_ret
   exact⟨rfl,0,rfl⟩
 · have e:cfA ⟨x,hx⟩ ⟨y,hy⟩=min (x-y) 1:=by
    unfold cfA
    rw[if_neg h1]
    dsimp only at h1 ⊢
    by_cases h2:y<x
    · rw[if_pos h2];omega
    · rw[if_neg h2];omega
   rw[e]
   have hw:IntKind.u64.wrap (x-y)=x-y:=wrU (by omega) (by omega)
   go_enter Tryz.func88,Tryz.ntmps88
   go_wp2
   go_ret
   exact⟨rfl,0,rfl⟩
theorem up64:∀{l:List Int},(∀a∈l,U a)→∃L:List A64,L.map (·.1)=l
 |[],_=>⟨[],rfl⟩
 |a::l,h=>by
  obtain⟨L,hL⟩:=up64 (l:=l) fun b hb=>h b (by simp[hb])
  exact⟨⟨a,h a (by simp)⟩::L,by simp[hL]⟩
theorem rcA_map(L:List A64):rcA (L.map (·.1))=L.map fun x=>AV.c (.v (encA x)):=by
 unfold rcA
 induction L with
 |nil=>rfl
 |cons x L ih=>
  rw[List.map_cons,List.flatMap_cons,List.map_append,ih]
  rfl
theorem sortA_fn(l:List Int)(hl:l.length≤1000000)(hu:∀a∈l,U a):∃s:List Int,s.Perm l∧s.Pairwise (·≤·) ∧
 Fn Tryz.prog 87 [.row 1000 23 1 l.length,.fn 88 []] [(1000,rcA l)] (.tup []) [(1000,rcA s)]:=by
 obtain⟨L,rfl⟩:=up64 hu
 have hle:∀x y:A64,(!ltOf cfA y x)=decide (x.1≤y.1):=fun x y=>by
  rw[ltA,←decide_not]
  exact decide_eq_decide.2 (by omega)
 refine⟨(L.mergeSort fun x y=>!ltOf cfA y x).map (·.1),(List.mergeSort_perm _ _).map _,?_,?_⟩
 · have h:=List.pairwise_mergeSort (le:=fun x y:A64=>!ltOf cfA y x) (fun x y z h1 h2=>by
    rw[hle] at *
    simp at *
    omega) (fun x y=>by
    rw[hle,hle]
    simp
    omega) L
   rw[List.pairwise_map]
   exact h.imp fun {x y} hxy=>by
    rw[hle] at hxy
    simpa using hxy
 · rw[rcA_map,rcA_map,List.length_map]
   refine Fn.sorting (enc:=encA) (fun _=>rfl) L _ (List.length_mergeSort _) (fun blk cap w hne hH hblk=>?_) fun p cap w=>?_
   · have eg:∀args w,(callFunc 88 args).run Tryz.prog w = .ok (.enter 88 args) w:=enters_of Tryz.func88 (by kernel_rfl) rfl
     have hc:CmpReads Tryz.prog 88 #[] encA cfA blk 0 L.toArray.size w:=fun m os dk hdk x y=>Z0r x y _
     have h:=Any.slices_SortFunc_total sortL encA (fun _=>rfl) cfA swoA 88 #[] blk 0 cap L.toArray w eg hc.lays hH hblk (by simp at hl ⊢;omega) totA
     exact h
   · exact AnyF.slices_SortFunc_none (P:=Tryz.prog) (ρ:=X3t) {sortL with} p cap _ w
end
section
open Go.RowKit
open Nat (reduceBEq)
set_option maxRecDepth 20000
set_option maxHeartbeats 2000000
theorem X9b{s:List Int}{i:Nat}{b:Int}(hb:s[i]? = some b):(ddN s (i+1)=ddN s i∧0<i∧s[i-1]? = some b)∨(ddN s (i+1)=ddN s i++[b]∧(0<i→s[i-1]?≠some b)):=by
 have e:ddN s (i+1)=if 0<i∧s[i-1]? = some b then ddN s i else ddN s i++[b]:=by
  show(match s[i]? with|none=>_|some b=>_)=_
  rw[hb]
 by_cases h:0<i∧s[i-1]? = some b
 · exact .inl ⟨by rw[e,if_pos h],h⟩
 · exact .inr ⟨by rw[e,if_neg h],fun h1 h2=>h ⟨h1,h2⟩⟩
theorem X6r{s:List Int}{i j:Nat}{b:Int}(h:s[j]? = some b)(hj:j<i):b∈s.take i:=by
 refine List.mem_of_getElem? (i:=j) ?_
 rw[List.getElem?_take,if_pos hj,h]
theorem X7f(s:List Int):∀i,i≤s.length→∀x,x∈ddN s i↔x∈s.take i
 |0,_,x=>by simp[ddN]
 |i+1,h,x=>by
  have ih:=X7f s i (by omega) x
  have hb:s[i]? = some (s[i]'(by omega)):=List.getElem?_eq_getElem (by omega)
  have et:s.take (i+1)=s.take i++[s[i]'(by omega)]:=by rw[List.take_add_one,hb];rfl
  rw[et,List.mem_append,List.mem_singleton]
  rcases X9b hb with⟨e,h0,h1⟩|⟨e,_⟩
  · rw[e,ih]
    refine⟨.inl,fun h=>h.elim id fun hx=>?_⟩
    rw[hx]
    exact X6r h1 (by omega)
  · rw[e,List.mem_append,List.mem_singleton,ih]
theorem ddN_lt(s:List Int)(hs:s.Pairwise (·≤·)):∀i,i≤s.length→(ddN s i).Pairwise (· < ·)
 |0,_=>by simp[ddN]
 |i+1,h=>by
  have ih:=ddN_lt s hs i (by omega)
  have hb:s[i]? = some (s[i]'(by omega)):=List.getElem?_eq_getElem (by omega)
  rcases X9b hb with⟨e,_⟩|⟨e,h1⟩
  · rw[e];exact ih
  · rw[e,List.pairwise_append]
    refine⟨ih,List.pairwise_singleton _ _,fun a ha b hb'=>?_⟩
    rw[List.mem_singleton] at hb'
    subst hb'
    have ha':=(X7f s i (by omega) a).1 ha
    obtain⟨j,hj⟩:=List.mem_iff_getElem?.1 ha'
    rw[List.getElem?_take] at hj
    split at hj
    · rename_i hji
      have hp:=List.pairwise_iff_getElem.1 hs
      have haj:s[j]'(by omega)=a:=(List.getElem?_eq_some_iff.1 hj).2
      have h2:=hp j i (by omega) (by omega) hji
      rw[haj] at h2
      have h3:=h1 (by omega)
      rw[List.getElem?_eq_getElem (by omega)] at h3
      have h4:s[i-1]'(by omega)≠s[i]'(by omega):=fun e=>h3 (by rw[e])
      have h5:=hp (i-1) i (by omega) (by omega) (by omega)
      rcases Nat.lt_or_ge j (i-1) with h6|h6
      · have h7:=hp j (i-1) (by omega) (by omega) h6
        rw[haj] at h7
        omega
      · have:j=i-1:=by omega
        subst this
        rw[haj] at h4
        omega
    · cases hj
theorem X6d:∀{a b:List Int},a.Pairwise (· < ·)→b.Pairwise (· < ·)→(∀x,x∈a↔x∈b)→a=b
 |[],[],_,_,_=>rfl
 |[],y::b,_,_,h=>by have:=(h y).2 (by simp);simp at this
 |x::a,[],_,_,h=>by have:=(h x).1 (by simp);simp at this
 |x::a,y::b,ha,hb,h=>by
  rw[List.pairwise_cons] at ha hb
  have hx:=(h x).1 (by simp)
  have hy:=(h y).2 (by simp)
  rw[List.mem_cons] at hx hy
  have e:x=y:=by
   rcases hx with hx|hx
   · exact hx
   · rcases hy with hy|hy
     · exact hy.symm
     · have h1:=ha.1 y hy
       have h2:=hb.1 x hx
       omega
  subst e
  rw[X6d ha.2 hb.2 fun z=>by
   have hz:=h z
   rw[List.mem_cons,List.mem_cons] at hz
   constructor
   · intro hm
     rcases hz.1 (.inr hm) with e|hm'
     · have:=ha.1 z hm;omega
     · exact hm'
   · intro hm
     rcases hz.2 (.inr hm) with e|hm'
     · have:=hb.1 z hm;omega
     · exact hm']
theorem X0s(ex:Bool)(l:List Int)(hl:l.length≤1000000)(hu:∀a∈l,U a):∃r:List Int,r.Pairwise (· < ·)∧(∀x,x∈r↔x∈l)∧r.length≤l.length∧Fn Tryz.prog 55 [asl ex l] [] (asl false r) []:=by
 obtain⟨s,hp,hs,so⟩:=sortA_fn l hl hu
 have hlen:=hp.length_eq
 have cl:=X5j ex l hl
 have co:=(X3f s (by omega)).weaken (H2:=[(1000,rcA (ddN s s.length))]) (AV.le_refl _) (leHp (ds:=rcA (List.replicate (s.length-(ddN s s.length).length) 0)) (by rw[Q9j];simp[hget]))
 rw[hlen] at co
 have hdl:=ddN_le s l.length
 refine⟨ddN s l.length,ddN_lt s hs _ (by omega),fun x=>?_,hdl,?_⟩
 · rw[X7f s _ (by omega),←hlen,List.take_length]
   exact hp.mem_iff
 · have hrow:Fn Tryz.prog 55 [asl ex l] [] (.row 5 23 1 (ddN s l.length).length) [(5,rcA (ddN s l.length))]:=by
    generalize ddN s l.length=r at co hdl ⊢
    unfold rcA at cl so co ⊢
    (refine Q0t Tryz.func55 rfl (by rfl) ?_;simp only[Tryz.ntmps55,List.length_cons,List.length_nil,Nat.reduceAdd,Nat.reduceSub,List.replicate,List.cons_append,List.nil_append])
    (repeat(any_goals(first|((with_reducible refine Q0l ?_ ?_ ?_);rfl;rfl;intro K hK;(first|(apply Q1c (cl) (fun r=>5);rfl;rfl;rfl;rfl;exact Tryz.func36;kernel_rfl;rfl;rfl;(intro r hr q hq h;simp only[List.map_cons,List.map_nil,List.cons_append,List.nil_append,List.mem_cons,List.not_mem_nil,or_false] at hr hq;(try dsimp only at h);first|omega);(simp only[Q1d,Q1x,AV.ren,AV.renL,Q0r,List.mem_cons,List.not_mem_nil,forall_eq_or_imp,forall_eq,Q1r,List.contains_cons,List.contains_nil,AV.refsL,AV.refs,Q0o,AV.inN,AV.inNL,inH,Q0v,go_sem]))|(apply Q1c (so) (fun r=>5);rfl;rfl;rfl;rfl;exact Tryz.func87;kernel_rfl;rfl;rfl;(intro r hr q hq h;simp only[List.map_cons,List.map_nil,List.cons_append,List.nil_append,List.mem_cons,List.not_mem_nil,or_false] at hr hq;(try dsimp only at h);first|omega);(simp only[Q1d,Q1x,AV.ren,AV.renL,Q0r,List.mem_cons,List.not_mem_nil,forall_eq_or_imp,forall_eq,Q1r,List.contains_cons,List.contains_nil,AV.refsL,AV.refs,Q0o,AV.inN,AV.inNL,inH,Q0v,go_sem]))|(apply Q1c (co) (fun r=>5);rfl;rfl;rfl;rfl;exact Tryz.func89;kernel_rfl;rfl;rfl;(intro r hr q hq h;simp only[List.map_cons,List.map_nil,List.cons_append,List.nil_append,List.mem_cons,List.not_mem_nil,or_false] at hr hq;(try dsimp only at h);first|omega);(simp only[Q1d,Q1x,AV.ren,AV.renL,Q0r,List.mem_cons,List.not_mem_nil,forall_eq_or_imp,forall_eq,Q1r,List.contains_cons,List.contains_nil,AV.refsL,AV.refs,Q0o,AV.inN,AV.inNL,inH,Q0v,go_sem])));(simp only[Q0u,Q1m,renH,AV.ren,AV.renL,Q0r,go_sem];refine hK _ ?_;clear hK K))|((with_reducible refine Q0b ?_ ?_);rfl;intro K hK;simp only[go_sem];((repeat(refine ndI (by first|assumption) ?_));refine hK _ ?_;clear hK K))|(with_reducible first|(refine Q0c ?_;refine hR _ ?_;clear hR R)|((first|refine Q0e ?_);intro J hJ hJ')|(refine Q0a ?_;intro R hR)|(refine hJ _ ?_;clear hJ hJ' J)|refine Q0j ?_))))
    all_goals(refine⟨by simp,⟨_,?_,AV.le_refl _⟩,Q0g (by simp[leH,hget])⟩;simp only[Tryz.results55,resL,ldA,Q0m,go_sem])
   have h:=Fn.frzG (d:=5) (pcs:=(ddN s l.length).flatMap apv) hrow
   simp only[AV.frz,beq_self_eq_true,if_true] at h
   rw[if_pos (Q0s Q3s _).symm] at h
   exact h
end
section
open Go.RowKit
open Nat (reduceBEq)
attribute [-go_sem] IntKind.bits
set_option maxRecDepth 20000
set_option maxHeartbeats 2000000
theorem X9k(a:Int):Fn Tryz.prog 119 [vi .u64 a] [] (w4 a 0 0 0) []:=by
 have h:=of_fn a
 (refine Q0t Tryz.func119 rfl (by rfl) ?_;simp only[Tryz.ntmps119,List.length_cons,List.length_nil,Nat.reduceAdd,Nat.reduceSub,List.replicate,List.cons_append,List.nil_append])
 (repeat(any_goals(first|((with_reducible refine Q0l ?_ ?_ ?_);rfl;rfl;intro K hK;((apply Q0i (h);rfl;rfl;rfl;rfl;exact Tryz.func151);kernel_rfl;rfl;(focus((simp only[go_sem]);(try rfl);done));(first|rfl));(simp only[go_sem];refine hK _ ?_;clear hK K))|((with_reducible refine Q0b ?_ ?_);rfl;intro K hK;simp only[go_sem];((repeat(refine ndI (by first|assumption) ?_));refine hK _ ?_;clear hK K))|(with_reducible first|(refine Q0c ?_;refine hR _ ?_;clear hR R)|((first|refine Q0e ?_);intro J hJ hJ')|(refine Q0a ?_;intro R hR)|(refine hJ _ ?_;clear hJ hJ' J)|refine Q0j ?_))))
 all_goals(refine⟨by simp,⟨_,?_,AV.le_refl _⟩,Q0g (by simp[leH,hget])⟩;simp only[Tryz.results119,resL,ldA,Q0m,go_sem])
theorem rword_fn(a:Int):Fn Tryz.prog 80 [vi .u64 a] [] (w4 a 0 0 0) []:=by
 (refine Q0t Tryz.func80 rfl (by rfl) ?_;simp only[Tryz.ntmps80,List.length_cons,List.length_nil,Nat.reduceAdd,Nat.reduceSub,List.replicate,List.cons_append,List.nil_append])
 (repeat(any_goals(first|((with_reducible refine Q0b ?_ ?_);rfl;intro K hK;simp only[go_sem];((repeat(refine ndI (by first|assumption) ?_));refine hK _ ?_;clear hK K))|(with_reducible first|(refine Q0c ?_;refine hR _ ?_;clear hR R)|((first|refine Q0e ?_);intro J hJ hJ')|(refine Q0a ?_;intro R hR)|(refine hJ _ ?_;clear hJ hJ' J)|refine Q0j ?_))))
 all_goals(refine⟨by simp,⟨_,?_,AV.le_refl _⟩,Q0g (by simp[leH,hget])⟩;simp only[Tryz.results80,resL,ldA,Q0m,go_sem])
theorem X7u(ex:Bool)(l:List Nat)(hl:8≤l.length)(hb:∀b∈l,b<256):Fn Tryz.prog 133 [bsl ex l] [] (vi .u64 (rdN l 8:Int)) []:=by
 (refine Q0t Tryz.func133 rfl (by rfl) ?_;simp only[Tryz.ntmps133,List.length_cons,List.length_nil,Nat.reduceAdd,Nat.reduceSub,List.replicate,List.cons_append,List.nil_append])
 (repeat(any_goals(first|((with_reducible refine Q0b ?_ ?_);rfl;intro K hK;simp only[go_sem];((repeat(refine ndI (by first|assumption) ?_));refine hK _ ?_;clear hK K))|(with_reducible first|(refine Q0c ?_;refine hR _ ?_;clear hR R)|((first|refine Q0e ?_|refine Q0f ?_);intro J hJ hJ')|(refine Q0a ?_;intro R hR)|(refine hJ _ ?_;clear hJ hJ' J)))))
 refine Q1t 8 (fun i=>⟨[bsl ex l,.any,.any,vi .u64 (rdN l i:Int),vi .i64 i,.any,.any,.any,.any,.any,.any,.any,.any,.any,.any,.any,.any,.any],[]⟩) (St.le_of (by simp[leT,rdN]) (by simp[leH])) ?_
 intro i hi J hJ hJ'
 (try dsimp only at hJ ⊢)
 rcases Nat.lt_or_ge i 8 with hlt|hge
 · obtain⟨y,hy⟩:∃y,l[i]? = some y:=⟨l[i]'(by omega),List.getElem?_eq_getElem (by omega)⟩
   have k1:(decide ((i:Int)<8))=true:=by simp;omega
   have k2:=X5m hy
   have k7:(i:Int)+1=((i+1:Nat):Int):=by omega
   have hil:i<l.length:=by omega
   have hx:rdN l i<72057594037927936:=Nat.lt_of_lt_of_le (rdN_lt hb i) (Nat.pow_le_pow_right (n:=256) (by omega) (show i≤7 by omega))
   obtain⟨g1,g2,g3⟩:=or_step hx (hb y (List.mem_of_getElem? hy))
   have g4:rdN l (i+1)=rdN l i*256+y:=by
    show rdN l i*256+(match l[i]? with|some b=>b|none=>0)=_
    rw[hy]
   rw[←g4] at g3
   generalize rdN l (i+1)=r1 at g3 hJ
   generalize rdN l i=r0 at g1 g3 ⊢
   generalize ((r0*256:Nat):Int)=r2 at g1 g3
   (have W:=ndI k1 (ndI k2 (ndI k7 (ndI g1 (ndI g2 (ndI g3 @wrI)))));(repeat(any_goals(first|((with_reducible refine Q0b ?_ ?_);rfl;intro K hK;simp(disch:=omega) only[go_sem,W];((repeat(refine ndI (by first|assumption|omega|rfl) ?_));refine hK _ ?_;clear hK K))|(with_reducible first|(refine Q0c ?_;refine hR _ ?_;clear hR R)|((first|refine Q0e ?_|refine Q0f ?_);intro J hJ hJ')|(refine Q0a ?_;intro R hR)|(refine hJ _ ?_;clear hJ hJ' J)|refine Q0h ?_)|((with_reducible refine hJ' _ _ ?_ ?_);(focus(simp;done));clear hJ hJ' J)|((with_reducible apply Q0d);rfl;rfl;all_goals(intro hc;first|(cases hc;done)|(try simp only at hc)))))))
   all_goals exact hJ _ hlt (St.le_of (by simp[leT]) (by simp[leH]))
 · have k1:(decide ((i:Int)<8))=false:=by simp;omega
   obtain rfl:i=8:=by omega
   (repeat(any_goals(first|((with_reducible refine Q0b ?_ ?_);rfl;intro K hK;simp only[go_sem,k1];((repeat(refine ndI (by first|assumption) ?_));refine hK _ ?_;clear hK K))|(with_reducible first|(refine Q0c ?_;refine hR _ ?_;clear hR R)|((first|refine Q0e ?_);intro J hJ hJ')|(refine Q0a ?_;intro R hR)|(refine hJ _ ?_;clear hJ hJ' J)|refine Q0j ?_|refine Q0q ?_)|((with_reducible refine hJ' _ _ ?_ ?_);(focus(simp;done));clear hJ hJ' J)|((with_reducible apply Q0d);rfl;rfl;all_goals(intro hc;first|(cases hc;done)|(try simp only at hc))))))
   all_goals(refine⟨by simp,⟨_,?_,AV.le_refl _⟩,Q0g (by simp[leH,hget])⟩;simp only[Tryz.results133,resL,ldA,Q0m,go_sem])
abbrev p8(b:Int):PV:=.v (.int .u8 b)
end
section
open Go.RowKit
section
variable {P:Program} {o:Oper} {σ : St} {K:St→Prop}
theorem X0l{d:Nat}{s x:Operand}{t e sz by_ n m:Nat}{ex:Bool}{ps qs:List PV}(ho:o.op = .call {callee:=.builtin .append,args:=#[s,x],argTypes:=#[t,t]})(hs0:Q0k s=true)(hx0:Q0k x=true)(hz:slcZ P t=some (e,sz,by_))(h0:0<sz)(hb0:0<by_)
 (h1:σ.ev s = .c (.sl true sz n ps)) (h2:σ.ev x = .c (.sl ex sz m qs)) (hm:0<m) (hql:qs.length=m*sz) (hby:(n+m)*by_≤140737488355328) (hd:o.dst=some d) (hd2:d<1000) :
 OpN P o σ.ev (hget σ.H) ⟨.row d e sz (n+m),[],[(d,(ps++qs).map .c)],[d]⟩:=fun τ hA _ hN=>by
 have hA':∀z,z=s∨z=x→τ.ev z = σ.ev z:=fun z hz=>hA z (by rw[ho];rcases hz with rfl|rfl<;>simp[Op.operands,Call.operands])
 refine Q5e (m:=m) (ds:=qs.map .c) ho hs0 hx0 hz h0 hb0 (by rw[hA' s (.inl rfl)];exact h1) (by rw[hA' x (.inr rfl),h2];simp[St.src]) hm (by rw[List.length_map];exact hql) hby hd (hN d (by simp)) hd2 (by simp) ?_
 rw[hd,List.map_append]
 rfl
theorem X0o{l0 rest:List Oper}{acc:List Ef}{d:Nat}{s x:Operand}{t e sz by_ n m:Nat}{ex:Bool}{ps qs:List PV}{X:List AV}(hg:o.guard=none)(ho:o.op = .call {callee:=.builtin .append,args:=#[s,x],argTypes:=#[t,t]})(hs0:Q0k s=true)(hx0:Q0k x=true)(hz:slcZ P t=some (e,sz,by_))(h0:0<sz)(hb0:0<by_)
 (h1:σ.ev s = .c (.sl true sz n ps)) (h2:σ.ev x = .c (.sl ex sz m qs)) (hm:0<m) (hql:qs.length=m*sz) (hby:(n+m)*by_≤140737488355328) (hd:o.dst=some d) (hd2:d<1000) (hX:(ps++qs).map .c=X)
 (h:evD P l0 rest (σ.eff o.dst (.row d e sz (n+m)) [(d,X)]) (⟨.row d e sz (n+m),[],[(d,X)],[d]⟩::acc) K):evD P l0 (o::rest) σ acc K:=by
 subst hX
 exact⟨_,.inl ⟨hg,X0l ho hs0 hx0 hz h0 hb0 h1 h2 hm hql hby hd hd2⟩,h⟩
end
end
end Go.Proofs.YtgdjkkapgghdbaaGreatDoor
