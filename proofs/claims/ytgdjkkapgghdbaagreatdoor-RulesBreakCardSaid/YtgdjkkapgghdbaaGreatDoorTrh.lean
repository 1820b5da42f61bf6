/-
  What goes over the events of some kinds, whatever is taken of them; bases; what is associated. Reckoned.
-/
import Derived.Test.YtgdjkkapgghdbaaGreatDoorAvAr
import Derived.Test.YtgdjkkapgghdbaaGreatDoorYe
import Derived.Test.YtgdjkkapgghdbaaGreatDoorAvF
import Derived.Calls
import Derived.Sort.Grow
import Derived.Sort.Row
import Derived.Deep.Draws
import Derived.Test.YtgdjkkapgghdbaaGreatDoorAvO
namespace Go.Proofs.YtgdjkkapgghdbaaGreatDoor
set_option linter.unusedSimpArgs false
set_option linter.unusedVariables false
section
open Go.RowKit
open Nat (reduceBEq)
set_option maxRecDepth 20000
set_option maxHeartbeats 2000000
attribute [local simp] Q2i Q0n Q1n
theorem Ef.sim_val{v:AV}{rd nw:List Nat}{wr:List (Nat×List AV)}(h:∀d,AV.refs d v=false):Ef.sim ⟨v,rd,wr,nw⟩ ⟨.any,rd,wr,nw⟩:=⟨rfl,rfl,rfl,fun d=>by unfold Ef.names;simp[h,AV.refs]⟩
theorem X8p(N:List Nat)(l:List Nat):AV.inNL N (rcB l)=true:=by unfold rcB;exact Q0v _ _
theorem X7w(ρ : Nat→Nat)(l:List Nat):AV.renL ρ (rcB l)=rcB l:=by unfold rcB;exact Q0r _ _
attribute [local simp] X8p Q1s X7w
theorem X8t(r:Nat)(pcs:List PV)(l:List Nat):AV.frzL r pcs (rcB l)=rcB l:=by unfold rcB;exact Q7h _ _ _
theorem frzL_rcV(r:Nat)(pcs:List PV)(l:List UInt64):AV.frzL r pcs (rcV l)=rcV l:=Q3o (Q0n r l)
theorem bpv_take(l:List Nat)(k:Nat):(l.flatMap bpv).take k=(l.take k).flatMap bpv:=by
 rw[Q3z,Q3z,List.map_take]
theorem X3l(l:List Nat):(l.flatMap bpv).length=l.length:=by rw[Q0s Q2x,Nat.mul_one]
theorem Z0m(ex:Bool)(l D:List Nat)(X:List UInt64)(hD:D.length=32)(hX:X.length=4)(sm:Fn Tryz.prog 179 [bsl ex l] [] (.agg (rcB D)) [])
 (wr:Fn Tryz.prog 180 [.c (.sl false 1 32 (D.flatMap bpv))] [] (.tup [lnA X,vi .i64 0]) []):Fn Tryz.prog 159 [bsl ex l] [] (lnA X) []:=by
 have r1:=fun d=>Q1s d D
 have r2:=fun d=>Q0n d X
 have l32:(rcB D).length=32:=by rw[Q2y,hD]
 have t1:List.take 32 (D.flatMap bpv)=D.flatMap bpv:=List.take_of_length_le (by rw[X3l];omega)
 have t2:(D.flatMap bpv).length=32:=by rw[X3l,hD]
 have t3:List.drop 32 (rcB D)=[]:=List.drop_eq_nil_of_le (by omega)
 have u1:List.take 4 (rcV X)=rcV X:=List.take_of_length_le (by rw[Q1a];omega)
 have u2:(rcV X).length=4:=by rw[Q1a,hX]
 have u3:List.drop 4 (rcV X)=[]:=List.drop_eq_nil_of_le (by omega)
 (refine Q0t Tryz.func159 rfl (by rfl) ?_;simp only[Tryz.ntmps159,List.length_cons,List.length_nil,Nat.reduceAdd,Nat.reduceSub,List.replicate,List.cons_append,List.nil_append])
 (have W:=ndI r1 (ndI l32 t3);(repeat(any_goals(first|((with_reducible refine Q0l ?_ ?_ ?_);rfl;rfl;intro K hK;((apply Q0i (sm);rfl;rfl;rfl;rfl;exact Tryz.func179);kernel_rfl;rfl;(focus((simp(disch:=omega) only[go_sem,W,List.append_nil]);(try rfl);done));(first|simp[AV.inNL,AV.inN]));(simp(disch:=omega) only[go_sem,W,List.append_nil];refine hK _ ?_;clear hK K))|((with_reducible refine Q0b ?_ ?_);rfl;intro K hK;simp(disch:=omega) only[go_sem,W,List.append_nil];((repeat(refine ndI (by first|assumption|rfl) ?_));refine hK _ ?_;clear hK K))|(with_reducible first|(refine Q0c ?_;refine hR _ ?_;clear hR R)|((first|refine Q0e ?_);intro J hJ hJ')|(refine Q0a ?_;intro R hR)|(refine hJ _ ?_;clear hJ hJ' J))))))
 refine evL_to rfl (St.to.frz 3 (pcs:=D.flatMap bpv) (by simp[hget,rcB])) ?_
 simp only[St.frz,AV.frzL,AV.frz,frzH,t2,X8t,if_true,eq_self,↓reduceIte,Nat.reduceEqDiff,Nat.reduceLT,List.drop_zero]
 (have W:=ndI r2 (ndI t1 (ndI t2 (ndI u1 (ndI u2 u3))));(repeat(any_goals(first|((with_reducible refine Q0l ?_ ?_ ?_);rfl;rfl;intro K hK;((apply Q0i (wr);rfl;rfl;rfl;rfl;exact Tryz.func180);kernel_rfl;rfl;(focus((simp(disch:=omega) only[go_sem,W,Q1s,Q0n,List.append_nil,Nat.mul_one,Nat.sub_zero,Int.toNat_zero]);(try rfl);done));(first|simp[AV.inNL,AV.inN]));(simp(disch:=omega) only[go_sem,W,Q1s,Q0n,List.append_nil,Nat.mul_one,Nat.sub_zero,Int.toNat_zero];refine hK _ ?_;clear hK K))|((with_reducible refine Q0b ?_ ?_);rfl;intro K hK;simp(disch:=omega) only[go_sem,W,Q1s,Q0n,List.append_nil,Nat.mul_one,Nat.sub_zero,Int.toNat_zero];((repeat(refine ndI (by first|assumption|rfl) ?_));refine hK _ ?_;clear hK K))|((with_reducible refine Q0b ?_ ?_);rfl;intro K hK;(try simp(disch:=omega) only[go_sem,W,Q1s,Q0n,List.append_nil,Nat.mul_one,Nat.sub_zero,Int.toNat_zero]);(repeat(refine ndI (by first|assumption|rfl) ?_));apply Q8e;rfl;rfl;rfl;rfl;(focus(simp only[go_sem];try rfl));rfl;(first|omega);rfl;rfl;(first|omega);(simp(disch:=omega) only[go_sem,W,Q1s,Q0n,List.append_nil,Nat.mul_one,Nat.sub_zero,Int.toNat_zero];refine hK _ ?_;clear hK K))|(with_reducible first|(refine Q0c ?_;refine hR _ ?_;clear hR R)|((first|refine Q0e ?_);intro J hJ hJ')|(refine Q0a ?_;intro R hR)|(refine hJ _ ?_;clear hJ hJ' J)|refine Q0j ?_)))))
 all_goals(refine⟨by simp,⟨_,?_,AV.le_refl _⟩,Q0g (by simp[leH,hget])⟩;simp only[Tryz.results159,resL,ldA,Q0m,go_sem,u1];rw[if_pos (by omega)];rfl)
theorem digest_fn(ex:Bool)(l:List Nat)(hl:l.length≤1000)(hb:∀b∈l,b<256)(hd:(digL l).length=32)(hdb:∀b∈digL l,b<256):Fn Tryz.prog 159 [bsl ex l] [] (lnA (wrR (digL l) 32)) []:=by
 have sm:=sum_fn ex l hl hb
 have wr:=wread_fn false (digL l) hd hdb
 have e:bsl false (digL l) = .c (.sl false 1 32 ((digL l).flatMap bpv)):=by rw[bsl,hd]
 rw[e] at wr
 have hX:=X5u (digL l) 32
 exact Z0m ex l (digL l) _ hd hX sm wr
theorem X6g(ex:Bool)(l D:List Nat)(X:Nat→List UInt64)(g:Nat→UInt64)(hD:D.length=32)(X0:X 0=zer 4)(lX:∀i,(X i).length=4)(Xs:∀i,X (i+1)=(X i).set (3-i) (g i))(sm:Fn Tryz.prog 147 [bsl ex l] [] (.agg (rcB D)) [])
 (rd:∀i,i<4→Fn Tryz.prog 133 [.c (.sl false 1 8 (((D.drop (8*i)).take 8).flatMap bpv))] [] (lvA (g i)) []):Fn Tryz.prog 112 [bsl ex l] [] (lnA (X 4)) []:=by
 have r1:=fun d=>Q1s d D
 have l32:(rcB D).length=32:=by rw[Q2y,hD]
 have t2:(D.flatMap bpv).length=32:=by rw[X3l,hD]
 have t3:List.drop 32 (rcB D)=[]:=List.drop_eq_nil_of_le (by omega)
 have z4:rcV (zer 4)=[vi .u64 0,vi .u64 0,vi .u64 0,vi .u64 0]:=rfl
 (refine Q0t Tryz.func112 rfl (by rfl) ?_;simp only[Tryz.ntmps112,List.length_cons,List.length_nil,Nat.reduceAdd,Nat.reduceSub,List.replicate,List.cons_append,List.nil_append])
 (have W:=ndI r1 (ndI l32 t3);(repeat(any_goals(first|((with_reducible refine Q0l ?_ ?_ ?_);rfl;rfl;intro K hK;((apply Q0i (sm);rfl;rfl;rfl;rfl;exact Tryz.func147);kernel_rfl;rfl;(focus((simp(disch:=omega) only[go_sem,W,List.append_nil]);(try rfl);done));(first|simp[AV.inNL,AV.inN]));(simp(disch:=omega) only[go_sem,W,List.append_nil];refine hK _ ?_;clear hK K))|((with_reducible refine Q0b ?_ ?_);rfl;intro K hK;simp(disch:=omega) only[go_sem,W,List.append_nil];((repeat(refine ndI (by first|assumption|rfl) ?_));refine hK _ ?_;clear hK K))|(with_reducible first|(refine Q0c ?_;refine hR _ ?_;clear hR R)|((first|refine Q0e ?_|refine Q0f ?_);intro J hJ hJ')|(refine Q0a ?_;intro R hR)|(refine hJ _ ?_;clear hJ hJ' J))))))
 refine Q3r 4 (fun i=>⟨[.any,.any,.ptr 2 0,.ep (D.flatMap bpv),.ptr 4 0,vi .i64 (i:Int),.any,.any,.any,.any,.any,.any,.any,.any,.any,.any,.any,.any,.any,.any,.any,.any,.any],[(2,rcV (zer 4)),(4,rcV (X i))]⟩) ?_ ?_
 · refine St.to.trans (St.to.of_le (τ:=⟨[.any,.any,.ptr 2 0,.ptr 3 0,.ptr 4 0,vi .i64 0,.any,.any,.any,.any,.any,.any,.any,.any,.any,.any,.any,.any,.any,.any,.any,.any,.any],[(2,rcV (zer 4)),(3,rcB D),(4,rcV (zer 4))]⟩) (St.le_of (by simp[leT]) (by rw[z4];simp[leH,hget]))) ?_
   refine St.to.trans (St.to.frz 3 (pcs:=D.flatMap bpv) (by simp[hget,rcB])) (St.to.of_le ?_)
   simp only[St.frz,AV.frzL,AV.frz,frzH,t2,frzL_rcV,X8t,if_true,eq_self,↓reduceIte,Nat.reduceEqDiff,Nat.reduceLT,List.drop_zero]
   exact St.le_of (by simp[leT]) (by rw[X0];simp[leH,hget])
 intro i hi J hJ hJ'
 (try dsimp only at hJ ⊢)
 rcases Nat.lt_or_ge i 4 with hlt|hge
 · have k1:(decide ((i:Int)<4))=true:=by simp;omega
   have k7:(i:Int)+1=((i+1:Nat):Int):=by omega
   have j0:(3:Int)-(i:Int)=((3-i:Nat):Int):=by omega
   have j1:(8:Int)*(i:Int)=((8*i:Nat):Int):=by omega
   have j2:((8*i:Nat):Int)+8=((8*i+8:Nat):Int):=by omega
   have j3:8*i+8-8*i=8:=by omega
   have t4:List.take 8 (List.drop (8*i) (D.flatMap bpv))=((D.drop (8*i)).take 8).flatMap bpv:=by rw[X3m,bpv_take]
   have rd:=rd i hlt
   have xs:=Xs i
   obtain⟨v,hv⟩:∃v,g i=v:=⟨_,rfl⟩
   rw[hv] at rd xs
   have k4:=Q3t (X i) (3-i) v (by rw[lX];omega)
   rw[←xs] at k4
   have k6:(rcV (X i)).length=4:=by rw[Q1a,lX]
   clear xs hv
   (have W:=ndI k1 (ndI k4 (ndI k6 (ndI k7 (ndI j0 (ndI j1 (ndI j2 (ndI j3 (ndI t2 (ndI t4 @wrI)))))))));(repeat(any_goals(first|((with_reducible refine Q0l ?_ ?_ ?_);rfl;rfl;intro K hK;((apply Q0i (rd);rfl;rfl;rfl;rfl;exact Tryz.func133);kernel_rfl;rfl;(focus((simp(disch:=omega) only[go_sem,W,Q0n,Q1s,Nat.mul_one,Int.toNat_natCast,Nat.zero_add]);(try rfl);done));(first|rfl));(simp(disch:=omega) only[go_sem,W,Q0n,Q1s,Nat.mul_one,Int.toNat_natCast,Nat.zero_add];refine hK _ ?_;clear hK K))|((with_reducible refine Q0b ?_ ?_);rfl;intro K hK;simp(disch:=omega) only[go_sem,W,Q0n,Q1s,Nat.mul_one,Int.toNat_natCast,Nat.zero_add];((repeat(refine ndI (by first|assumption|omega|rfl) ?_));refine hK _ ?_;clear hK K))|((with_reducible refine Q0b ?_ ?_);rfl;intro K hK;(try simp(disch:=omega) only[go_sem,W,Q0n,Q1s,Nat.mul_one,Int.toNat_natCast,Nat.zero_add]);(repeat(refine ndI (by first|assumption|rfl) ?_));apply Q8e;rfl;rfl;rfl;rfl;(focus(simp only[go_sem];try rfl));rfl;(first|omega);rfl;rfl;(first|omega);(simp(disch:=omega) only[go_sem,W,Q0n,Q1s,Nat.mul_one,Int.toNat_natCast,Nat.zero_add];refine hK _ ?_;clear hK K))|(with_reducible first|(refine Q0c ?_;refine hR _ ?_;clear hR R)|((first|refine Q0e ?_|refine Q0f ?_);intro J hJ hJ')|(refine Q0a ?_;intro R hR)|(refine hJ _ ?_;clear hJ hJ' J)|refine Q0h ?_)|((with_reducible refine hJ' _ _ ?_ ?_);(focus(simp;done));clear hJ hJ' J)|((with_reducible apply Q0d);rfl;rfl;all_goals(intro hc;first|(cases hc;done)|(try simp only at hc)))))))
   all_goals exact hJ _ hlt (St.to.of_le (St.le_of (by simp[leT]) (by simp[leH,hget])))
 · have k1:(decide ((i:Int)<4))=false:=by simp;omega
   obtain rfl:i=4:=by omega
   have b1:List.take 4 (rcV (X 4))=rcV (X 4):=List.take_of_length_le (by rw[Q1a,lX];omega)
   have b2:(rcV (X 4)).length=4:=by rw[Q1a,lX]
   have b5:(rcV (zer 4)).length=4:=rfl
   have b4:List.drop 4 (rcV (zer 4))=[]:=rfl
   (have W:=ndI k1 (ndI b1 (ndI b2 (ndI b4 b5)));(repeat(any_goals(first|((with_reducible refine Q0b ?_ ?_);rfl;intro K hK;simp(disch:=omega) only[go_sem,W,List.append_nil];((repeat(refine ndI (by first|assumption|rfl) ?_));refine hK _ ?_;clear hK K))|(with_reducible first|(refine Q0c ?_;refine hR _ ?_;clear hR R)|((first|refine Q0e ?_);intro J hJ hJ')|(refine Q0a ?_;intro R hR)|(refine hJ _ ?_;clear hJ hJ' J)|refine Q0j ?_|refine Q0q ?_)|((with_reducible refine hJ' _ _ ?_ ?_);(focus(simp;done));clear hJ hJ' J)|((with_reducible apply Q0d);rfl;rfl;all_goals(intro hc;first|(cases hc;done)|(try simp only at hc)))))))
   all_goals(refine⟨by simp,⟨_,?_,AV.le_refl _⟩,Q0g (by simp[leH,hget])⟩;simp only[Tryz.results112,resL,ldA,Q0m,go_sem,b1];rw[if_pos (by omega)];rfl)
end
section
open Go.RowKit
set_option maxRecDepth 20000
set_option maxHeartbeats 2000000
attribute [local simp] Q2i Q0n Q1n X8p Q1s X7w
theorem of_or(a b:Nat):UInt64.ofNat a ||| UInt64.ofNat b=UInt64.ofNat (a ||| b):=by
 apply UInt64.toNat.inj
 rw[UInt64.toNat_or,UInt64.toNat_ofNat',UInt64.toNat_ofNat',UInt64.toNat_ofNat']
 exact(Nat.or_mod_two_pow (n:=64)).symm
def drG(b:List Nat)(i:Nat):UInt64:=UInt64.ofNat (rdN ((b.drop (8*i)).take 8) 8)
def drR(b:List Nat):Nat→List UInt64
 |0=>zer 4
 |i+1=>(drR b i).set (3-i) (drG b i)
theorem Q9y(b:List Nat):∀k,(drR b k).length=4
 |0=>rfl
 |k+1=>by unfold drR;rw[List.length_set,Q9y b k]
theorem X8z(b:List Nat):∀g j,j+g≤3→(drR b g).getD j 0=0
 |0,j,h=>by
  have:j=0∨j=1∨j=2∨j=3:=by omega
  rcases this with rfl|rfl|rfl|rfl<;>rfl
 |g+1,j,h=>by
  unfold drR
  rw[List.getD_eq_getElem?_getD,List.getElem?_set_ne (by omega),←List.getD_eq_getElem?_getD]
  exact X8z b g j (by omega)
theorem rdN_s{l:List Nat}{i:Nat}(h:i<l.length):rdN l (i+1)=rdN l i*256+l.getD i 0:=by
 show rdN l i*256+(match l[i]? with|some b=>b|none=>0)=_
 rw[List.getD_eq_getElem?_getD,List.getElem?_eq_getElem h];rfl
theorem step_or{x y:Nat}(m:Nat)(hy:y<256)(hm:m<8):(x*2 ^ (8*(8-m))) ||| (y*2 ^ (8*(7-m)))=(x*256+y)*2 ^ (8*(8-(m+1))):=by
 have e:8*(8-m)=8*(7-m)+8:=by omega
 have e2:8*(8-(m+1))=8*(7-m):=by omega
 rw[e,e2,Nat.pow_add,show x*(2 ^ (8*(7-m))*2 ^ 8)=(x*256)*2 ^ (8*(7-m)) by rw[Nat.mul_comm (2 ^ (8*(7-m))),←Nat.mul_assoc]]
 generalize 8*(7-m)=k
 rw[←Nat.shiftLeft_eq,←Nat.shiftLeft_eq,←Nat.shiftLeft_or_distrib,←Nat.shiftLeft_eq]
 have:=Nat.two_pow_add_eq_or_of_lt (i:=8) (b:=y) (by omega) x
 rw[show x*256=2 ^ 8*x by omega,this]
theorem lane_eq(b:List Nat)(hb:∀x∈b,x<256)(hl:b.length=32)(g:Nat)(hg:g<4)(ih:wrR b (8*g)=drR b g) :
 ∀m,m≤8→wrR b (8*g+m)=(drR b g).set (3-g) (UInt64.ofNat (rdN ((b.drop (8*g)).take 8) m*2 ^ (8*(8-m))))
 |0,_=>by
  have e:UInt64.ofNat (rdN ((b.drop (8*g)).take 8) 0*2 ^ (8*(8-0)))=0:=by
   show UInt64.ofNat (0*_)=0
   rw[Nat.zero_mul];rfl
  rw[e,Nat.add_zero,ih]
  have hz:=X8z b g (3-g) (by omega)
  conv=>rhs;rw[←hz]
  exact(X7q _ _ (by rw[Q9y];omega)).symm
 |m+1,h=>by
  have hlen:((b.drop (8*g)).take 8).length=8:=by rw[List.length_take,List.length_drop];omega
  have hi:=lane_eq b hb hl g hg ih m (by omega)
  show wrR b ((8*g+m)+1)=_
  unfold wrR
  rw[hi,show(31-(8*g+m))/8=3-g by omega,show(31-(8*g+m))%8=7-m by omega,X8q _ _ _ (by rw[Q9y];omega),List.set_set,of_or]
  have e1:b.getD (8*g+m) 0=((b.drop (8*g)).take 8).getD m 0:=by
   rw[List.getD_eq_getElem?_getD,List.getD_eq_getElem?_getD,List.getElem?_take,if_pos (by omega),List.getElem?_drop]
  have hy:((b.drop (8*g)).take 8).getD m 0<256:=by rw[←e1];exact Q7w hb _
  rw[e1,step_or m hy (by omega),rdN_s (by omega)]
theorem word_eq(b:List Nat)(hb:∀x∈b,x<256)(hl:b.length=32):∀g,g≤4→wrR b (8*g)=drR b g
 |0,_=>rfl
 |g+1,h=>by
  have:=lane_eq b hb hl g (by omega) (word_eq b hb hl g (by omega)) 8 (by omega)
  rw[show 8*(g+1)=8*g+8 by omega,this,show 8*(8-8)=0 from rfl,Nat.pow_zero,Nat.mul_one]
  rfl
theorem X2y(l:List Nat):(digL l).length=32:=X2n _ 32
theorem idL_lt(l:List UInt64):∀k,∀b∈idL l k,b<256
 |0,b,h=>by
  unfold idL at h
  obtain⟨_,rfl⟩:=List.mem_replicate.1 h
  decide
 |k+1,b,h=>by
  unfold idL at h
  rcases List.mem_or_eq_of_mem_set h with h|rfl
  · exact idL_lt l k b h
  · exact Nat.mod_lt _ (by decide)
theorem X7b(l:List Nat):∀b∈digL l,b<256:=idL_lt _ 32
def digW(l:List Nat):List UInt64:=drR (digL l) 4
theorem X9a(l:List Nat):(digW l).length=4:=Q9y _ 4
theorem dig_fn(ex:Bool)(l:List Nat)(hl:l.length≤1000)(hb:∀b∈l,b<256):Fn Tryz.prog 159 [bsl ex l] [] (lnA (digW l)) []:=by
 have h:=digest_fn ex l hl hb (X2y l) (X7b l)
 rw[show wrR (digL l) 32=digW l from word_eq _ (X7b l) (X2y l) 4 (by decide)] at h
 exact h
theorem rdN_lt64{l:List Nat}(h:∀b∈l,b<256):rdN l 8<18446744073709551616:=rdN_lt h 8
theorem rdig_fn(ex:Bool)(l:List Nat)(hl:l.length≤1000)(hb:∀b∈l,b<256):Fn Tryz.prog 112 [bsl ex l] [] (lnA (digW l)) []:=by
 have sm:=rsum_fn ex l hl hb
 have hd:=X2y l
 have hdb:=X7b l
 unfold digW
 generalize digL l=D at *
 refine X6g ex l D (drR D) (drG D) hd rfl (Q9y D) (fun _=>rfl) sm fun i hi=>?_
 have hb':∀b∈(D.drop (8*i)).take 8,b<256:=fun b h=>hdb b (List.mem_of_mem_drop (List.mem_of_mem_take h))
 have hlen:((D.drop (8*i)).take 8).length=8:=by rw[List.length_take,List.length_drop];omega
 have h:=X7u false ((D.drop (8*i)).take 8) (by omega) hb'
 have e:(vi .u64 (rdN ((D.drop (8*i)).take 8) 8:Int):AV)=lvA (drG D i):=by
  unfold drG lvA
  rw[UInt64.toNat_ofNat_of_lt' (rdN_lt64 hb')]
 rw[e,bsl,hlen] at h
 exact h
end
section
open Go.RowKit Go.MapKept
section
variable {P:Program} {o:Oper} {σ : St} {K:St→Prop}
theorem Q1o{f:FuncId}{x:Operand}(ho:o.op = .makeFunc (.func f) #[x] #[])(hx:Q0k x=true)(hK:K (σ.put o.dst (.fnb f [σ.ev x]))):OpA P o σ K:=
 Q1g _ hK fun E ι a w h=>by
  refine⟨.func (.func f) #[a.eval x] #[],by simp[execOp,ho,Instr.makeFunc],.fnb f [a.eval x] [σ.ev x] rfl fun j u y hu hy=>?_⟩
  cases j with
  |zero=>simp at hu hy;subst hu hy;exact h.ev x hx
  |succ j=>simp at hu
theorem opA_callG{f:FuncId}{fn:Func}{cargs:List AV}{H0 H1:List (Nat×List AV)}{res:AV}(hF:Fn P f cargs H0 res H1)(ρ : Nat→Nat)
 {fo:Operand} {ts:Array TypeId} {caps:List AV} (ho:o.op = .call {callee:=.value fo,args:=#[],argTypes:=ts}) (hfo:Q0k fo=true) (hf:σ.ev fo = .fnb f caps)
 (hfn:P.funcs[f]? = some fn) (hname:(fn.name == "runtime.NumGoroutine")=false) (hbody:fn.body.isNone=false)
 (hD0:H0.all (fun x=>decide (1000≤x.1))=true) (hargs:Q1d ρ cargs caps) (hH0:∀r∈H0.map (·.1),hget σ.H (ρ r)=(hget H0 r).map (AV.renL ρ)) (hinj:∀r∈H0.map (·.1)++H1.map (·.1),∀q∈H0.map (·.1)++H1.map (·.1),ρ r = ρ q→r=q)
 (hnew:Q1r σ ρ H0 H1) (hin:AV.inN (H1.map (·.1)) res=true) (hinH:inH (H1.map (·.1)) H1=true)
 (hK:K ((St.mk σ.T (Q0u (Q1m σ.H (renH ρ H0)) (renH ρ H1))).put o.dst (AV.ren ρ res))):OpA P o σ K:=by
 intro E ι a w hc K' Q hK'
 have hfv:=hc.ev fo hfo
 rw[hf] at hfv
 generalize hfe:a.eval fo=fv at hfv
 cases hfv with
 |fnb _ us _ hul hus=>
  have hSx:∀b,Sx E ι σ.H b→b<w.heap.size→Sx E ι σ.H b∧w.heap[b]? = w.heap[b]?:=fun b hb _=>⟨hb,rfl⟩
  have hD0':∀r∈H0.map (·.1),1000≤r:=fun r hr=>by
   obtain⟨x,hx,rfl⟩:=List.mem_map.1 hr
   have:=List.all_eq_true.1 hD0 x hx
   simpa using this
  obtain⟨hal,hag⟩:=Q3e hargs
  have hlen:us.length=cargs.length:=by rw[hal,hul]
  have hH0':∀r cs,hget H0 r=some cs→hget σ.H (ρ r)=some (AV.renL ρ cs):=fun r cs hr=>by rw[hH0 r (Q2q hr),hr];rfl
  obtain⟨E',hE'⟩:∃E':Env,E'={w:=w,S:=Sx E ι σ.H,ι:=fun r=>ι (ρ r),D:=H0.map (·.1),hD:=hD0',hG:=hc.glob hH0'}:=⟨_,rfl⟩
  have hconcH:ConcH E'.S E'.ι H0 E'.w:=by
   subst hE'
   exact hc.enter ρ hH0' fun r hr q hq=>hinj r (List.mem_append_left _ hr) q (List.mem_append_left _ hq)
  have hcall:=hF E' us (by rw[hE']) (fun r cs b hr hz hS=>by
   subst hE'
   exact hS.2 (ρ r) _ (hH0' r cs hr) hz) hconcH hlen (fun j v x hv hx=>by
   subst hE'
   have hlt:=(List.getElem?_eq_some_iff.1 hv).1
   have hy:caps[j]? = some (caps[j]'(by rw[←hul];exact hlt)):=List.getElem?_eq_getElem _
   rcases hag j x _ hx hy with rfl|e
   · exact .any _
   · exact(hus j v _ hv hy).unren x e)
  have hwE:E'.w=w:=by rw[hE']
  rw[hwE] at hcall
  have hrun:(execOp a.eval o).run P w = .ok (.enter f us.toArray) w:=by
   have hen:=Q4t hfn hname hbody us.toArray w
   simp only[execOp,ho,resolve,hfe,Deferred.ofValue,Sem.run_bind,Sem.run_pure,Result.andThen_ok,invoke,Array.map_empty,Array.append_empty,hen]
  unfold Oper.wp
  rw[hrun,Oper.upon_enter]
  refine hcall.mono fun e w'=>?_
  rintro ⟨v,ι',rfl,hres,hcH,hk⟩
  simp only
  obtain⟨ι2,hcn,hrv⟩:=hc.back ρ hD0' hH0' hinj hnew hin hinH hE' hres hcH hk
  exact hK' ι2 _ _ _ hK (hcn.put o.dst hrv)
theorem opF_callG{f:FuncId}{fn:Func}{cs cs':List AV}{res:AV}{r:Nat}(hF:Fn P f [.ptr 1000 0] [(1000,cs)] res [(1000,cs')])
 {fo:Operand} {ts:Array TypeId} (ho:o.op = .call {callee:=.value fo,args:=#[],argTypes:=ts}) (hfo:Q0k fo=true) (hf:σ.ev fo = .fnb f [.ptr r 0])
 (hfn:P.funcs[f]? = some fn) (hname:(fn.name == "runtime.NumGoroutine")=false) (hbody:fn.body.isNone=false)
 (hr:hget σ.H r=some cs) (hc0:AV.inNL [] cs=true) (hc1:AV.inNL [] cs'=true) (hre:AV.inN [] res=true):OpF P o σ.ev (hget σ.H) res [r] [(r,cs')]:=fun τ hA hQ=>by
 have e1:τ.ev fo = σ.ev fo:=hA fo (by rw[ho];simp[Op.operands,Call.operands])
 have e2:hget τ.H r=some cs:=(hQ r (by simp)).trans hr
 refine OpA.then ?_
 refine opA_callG hF (fun _=>r) ho hfo (e1.trans hf) hfn hname hbody rfl (by simp[Q1d,Q1x,AV.ren]) (by simp[hget,e2,Q3x _ _ hc0]) (by simp) (by simp[Q1r]) (inN_sub (fun r h=>by cases h) _ hre) (by simp[inH,Q5b (N:=[]) (fun r h=>by cases h) _ hc1]) ?_
 refine⟨_,St.to.of_le ?_,rfl⟩
 rw[Q8q _ _ hre]
 have key:∀q es,hget (hput τ.H r cs') q=some es→hget (hput (hdel τ.H r) r cs') q=some es:=fun q es hq=>by
  rw[Q2j] at hq ⊢
  split at hq
  · rename_i e;rw[if_pos e];exact hq
  · rename_i e;rw[if_neg e,X2q,if_neg e];exact hq
 simp only[renH,Q0u,Q1m,Q3x _ _ hc1]
 cases o.dst with
 |none=>exact⟨rfl,fun i=>AV.le_refl _,key⟩
 |some d=>exact⟨rfl,fun i=>AV.le_refl _,key⟩
def ALE(p:Env→Prop)(P:Program)(ops:Array Oper)(l:List Oper)(σ : St)(K:St→Prop):Prop:=
 ∀(E:Env) (ι : Nat→Nat×Nat×Nat) (a:Act) (w:World),p E→Conc E ι σ a w→∀Q:Exit→Act→World→Prop,(∀ι' σ' a' w',K σ'→Conc E ι' σ' a' w'→Q .normal a' w')→wpList P ops Q l a w
theorem ALE.nil{p:Env→Prop}{ops:Array Oper}(h:K σ):ALE p P ops [] σ K:=fun E ι a w _ hc Q hQ=>hQ ι σ a w h hc
theorem ALE.one{p:Env→Prop}{ops:Array Oper}{rest:List Oper}(hg:o.guard=none)(h:OpW p P o σ fun σ'=>ALE p P ops rest σ' K):ALE p P ops (o::rest) σ K:=fun E ι a w hp hc Q hQ=>by
 refine wpList_plain hg fun K1 hK1=>?_
 exact h E ι a w hp hc K1 _ fun ι' σ' a' w' hk hc'=>hK1 _ _ (hk E ι' a' w' hp hc' Q hQ)
theorem ALE.oneA{p:Env→Prop}{ops:Array Oper}{rest:List Oper}(hg:o.guard=none)(h:evO P o σ fun σ'=>ALE p P ops rest σ' K):ALE p P ops (o::rest) σ K:=ALE.one hg (Q3p h).toW
theorem AWE.regionL{p:Env→Prop}{id:Nat}{l:List Oper}{Φ : Exit→St→Prop}(h:ALE p P l.toArray l σ (Φ .normal)):AWE p P (.region id l.toArray false) σ Φ:=fun E ι a w hp hc=>by
 refine wp_region_list ?_
 exact h E ι a w hp hc _ fun ι' σ' a' w' hk hc'=>⟨ι',σ',hc',hk⟩
theorem Q8d{E0:Env}{t:TypeId}(ho:o.op = .makeMap t none)(hK:∀b,E0.w.heap.size≤b→K (σ.put o.dst (.amp b [] []))):OpW (fun E=>E=E0) P o σ K:=by
 intro E ι a w hE hc K' Q hK'
 subst hE
 have hS:Sx E ι σ.H w.heap.size:=by
  refine⟨.inr (.inl hc.keep.size),fun r cs hr hz e=>?_⟩
  rcases hc.heap.blk r cs hr with⟨h0,_⟩|⟨cur,hh,_⟩
  · exact hz h0
  · have:=(Array.getElem?_eq_some_iff.1 hh).1
    omega
 have hc1:=hc.alloc (.map #[] 0)
 have hnew:(w.alloc (.map #[] 0)).heap[w.heap.size]? = some (.map #[] 0):=World.alloc_heap_new w _
 have hr:(execOp a.eval o).run P w = .ok (.value (.map (some w.heap.size))) (w.alloc (.map #[] 0)):=by
  unfold execOp
  simp only[ho]
  rfl
 have h2:=hK' ι _ _ _ (hK w.heap.size hc.keep.size) (hc1.put o.dst (.amp w.heap.size #[] 0 [] [] [] hS hnew rfl rfl rfl fun j u x hu=>by simp at hu))
 unfold Oper.wp
 rw[hr]
 exact h2
def AV.amU(b:Nat)(ks:List Value)(cs:List AV)(x:AV):AV:=
 match x with
 |.amp b0 _ _=>if b0=b then .amp b ks cs else .any
 |x=>if AV.hasMp x then .any else x
end
section
variable {E:Env} {ι : Nat→Nat×Nat×Nat} {σ : St} {a:Act} {w:World} {b clk clk':Nat} {X X':Array MapEntry}
theorem RV.amU{S:Nat→Prop}{v:Value}{x:AV}{ks us:List Value}{cs:List AV}(h:RV S ι w v x)(hb:w.heap[b]? = some (.map X clk))(hk:X'.toList.map (·.key)=ks)(hu:X'.toList.map (·.val)=us)(hl:us.length=cs.length)(hr:∀(j:Nat) (u:Value) (x:AV),us[j]? = some u→cs[j]? = some x→RV S ι w u x)(hm:AV.hasMpA cs=false) :
 RV S ι (w.putObj b (.map X' clk')) v (x.amU b ks cs):=by
 have hlt:=(Array.getElem?_eq_some_iff.1 hb).1
 have hn:∀{v:Value} {x:AV},RV S ι w v x→AV.hasMp x=false→RV S ι (w.putObj b (.map X' clk')) v x:=fun h hm=>h.nmono (fun b' cur e z hS hh=>⟨hS,X8d hb _ hh fun _ _ h=>by cases h⟩) hm
 unfold AV.amU
 split
 · rename_i b0 ks0 cs0
   split
   · rename_i e
     subst e
     cases h with
     |amp _ Y c ks us' cs' hS hh hk' hu' hl' h'=>exact .amp _ X' clk' _ us cs hS (World.putObj_heap_same hlt) hk hu hl fun j u x hu hx=>hn (hr j u x hu hx) (Q3u hm j x hx)
   · exact .any _
 · split
   · exact .any _
   · rename_i hm
     exact hn h (by simpa using hm)
theorem Conc.amap{ks us:List Value}{cs:List AV}(h:Conc E ι σ a w)(hb:w.heap[b]? = some (.map X clk))(hE:E.w.heap.size≤b)(hH:Q7g σ.H=false)(hk:X'.toList.map (·.key)=ks)(hu:X'.toList.map (·.val)=us)(hl:us.length=cs.length)(hr:∀(j:Nat) (u:Value) (x:AV),us[j]? = some u→cs[j]? = some x→RV (Sx E ι σ.H) ι w u x)(hm:AV.hasMpA cs=false) :
 Conc E ι ⟨σ.T.map (AV.amU b ks cs),σ.H⟩ a (w.putObj b (.map X' clk')):=by
 have hlt:=(Array.getElem?_eq_some_iff.1 hb).1
 refine⟨?_,by rw[List.length_map];exact h.size,fun i=>?_,⟨fun r cs hr=>?_,h.heap.inj⟩,⟨h.keep.os,h.keep.tape,h.keep.output,by simpa using h.keep.size,fun b' hb' hbD=>?_,h.keep.mine⟩⟩
 · obtain⟨Ds,h1,h2,h3⟩:=h.defers
   refine⟨Ds,h1,h2,fun D hD=>?_⟩
   obtain⟨g1,g2,g3⟩:=h3 D hD
   exact⟨g1,g2,(X8d hb _ g3 fun _ _ h=>by cases h).trans g3⟩
 · have e:(σ.T.map (AV.amU b ks cs)).getD i .any=(σ.T.getD i .any).amU b ks cs:=by
    rw[List.getD_eq_getElem?_getD,List.getD_eq_getElem?_getD,List.getElem?_map]
    cases σ.T[i]? <;> rfl
   rw[e]
   exact(h.tmp i).amU hb hk hu hl hr hm
 · rcases h.heap.blk r cs hr with h0|⟨cur,hh,hs,hlen,hc,hone1⟩
   · exact .inl h0
   · have hm:=X1f hH r cs hr
     exact .inr ⟨cur,(X8d hb _ hh fun _ _ h=>by cases h).trans hh,hs,hlen,fun j u x hu hx=>⟨(hc j u x hu hx).1.nmono (fun b' cur e z hS hh=>⟨hS,X8d hb _ hh fun _ _ h=>by cases h⟩) (Q3u hm j x hx),(hc j u x hu hx).2⟩,hone1⟩
 · have hne:b'≠b:=by omega
   rw[World.putObj_heap_other hne]
   exact h.keep.block b' hb' hbD
end
def Q5c(k:Int):List Int→Nat→Option Nat
 |[],_=>none
 |q::l,i=>if k=q then some i else Q5c k l (i+1)
abbrev iks(l:List Int):List Value:=l.map fun n=>Value.int .i64 n
theorem Q5w(k:Int):∀(l:List MapEntry) (kl:List Int) (i:Nat),l.map (·.key)=iks kl→Instr.findNow (.int .i64) (.int .i64 k) l i=some ((Q5c k kl i).bind fun j=>(l[j-i]?).map fun e=>(j,e.val))
 |[],[],i,_=>rfl
 |[],p::m,i,h=>by cases h
 |e::l,[],i,h=>by cases h
 |e::l,p::m,i,h=>by
  simp only[iks,List.map_cons,List.cons.injEq] at h
  obtain⟨h1,h3⟩:=h
  have ih:=Q5w k l m (i+1) h3
  unfold Instr.findNow Q5c
  rw[h1]
  unfold Instr.sameNow
  by_cases hk:k=p
  · have:(k==p)=true:=by simpa using hk
    simp[this,hk]
  · have:(k==p)=false:=by simpa using hk
    simp[this,hk,ih]
    cases hf:Q5c k m (i+1) with
    |none=>rfl
    |some j=>
     have hge:∀(m:List Int) (i j:Nat),Q5c k m i=some j→i≤j:=by
      intro m
      induction m with
      |nil=>intro i j h;cases h
      |cons q m ih=>
       intro i j h
       unfold Q5c at h
       split at h
       · cases h;exact Nat.le_refl _
       · exact Nat.le_of_succ_le (ih (i+1) j h)
     have:=hge m (i+1) j hf
     obtain⟨d,rfl⟩:∃d,j=i+1+d:=⟨j-(i+1),by omega⟩
     simp only[Option.bind_some]
     rw[show i+1+d-(i+1)=d by omega,show i+1+d-i=d+1 by omega,List.getElem?_cons_succ]
theorem Q9r(k:Int):IsKey (.int .i64) (.int .i64 k):=by simp[IsKey]
section
variable {P:Program} {o:Oper} {σ : St} {K:St→Prop}
theorem Q2f{E0:Env}{t kt et:TypeId}{x ix vx:Operand}{b:Nat}{k:Int}{kl:List Int}{cs:List AV}{y:AV}(ho:o.op = .insert t x ix vx)(hd:o.dst=none)(hx:Q0k x=true)(hi:Q0k ix=true)(hvx:Q0k vx=true)(hm:P.underlying t=some (.map kt et))(hkt:P.underlying kt=some (.int .i64))
 (h1:σ.ev x = .amp b (iks kl) cs) (h2:σ.ev ix = .c (.v (.int .i64 k))) (h3:σ.ev vx=y) (hf:Q5c k kl 0=none) (hb:E0.w.heap.size≤b) (hH:Q7g σ.H=false) (hm1:AV.hasMpA (cs++[y])=false)
 (hK:K ⟨σ.T.map (AV.amU b (iks (kl++[k])) (cs++[y])),σ.H⟩):OpW (fun E=>E=E0) P o σ K:=by
 intro E ι a w hE hc K' Q hK'
 subst hE
 have hiv:=hc.ev ix hi
 rw[h2] at hiv
 obtain⟨ei,_⟩:=hiv.v_inv
 have hvv:=hc.ev vx hvx
 rw[h3] at hvv
 have hxv:=hc.ev x hx
 rw[h1] at hxv
 generalize he:a.eval x=vm at hxv
 cases hxv with
 |amp _ X clk _ us _ hS hh hk hu hl hr=>
  have hfn:=Q5w k X.toList kl 0 hk
  rw[hf] at hfn
  have hrun:(execOp a.eval o).run P w = .ok .skip (w.putObj b (.map (X.push {key:=.int .i64 k,val:=a.eval vx,born:=clk}) (clk+1))):=by
   unfold execOp
   simp[ho,he,ei,Instr.mapUpdate,run_underlying hm,MapKept.run_getObj_map hh,MapKept.run_checkKey hkt (Q9r k),MapKept.run_findKey hkt hfn,MapKept.run_setObj_map _ hh,Result.andThen,World.putObj]
  have h4:=hK' ι _ _ _ hK (hc.amap (X':=X.push {key:=.int .i64 k,val:=a.eval vx,born:=clk}) (clk':=clk+1) (us:=us++[a.eval vx]) (cs:=cs++[y]) hh hb hH (by rw[Array.toList_push,List.map_append,hk];simp[iks]) (by rw[Array.toList_push,List.map_append,hu];rfl) (by simp[hl]) (fun j u x hu hx=>by
   rcases Nat.lt_or_ge j us.length with hj|hj
   · rw[List.getElem?_append_left hj] at hu
     rw[List.getElem?_append_left (by omega)] at hx
     exact hr j u x hu hx
   · rw[List.getElem?_append_right hj] at hu
     rw[List.getElem?_append_right (by omega)] at hx
     rw[hl] at hu
     cases hz:j-cs.length with
     |zero=>rw[hz] at hu hx;simp at hu hx;subst hu hx;exact hvv
     |succ m=>rw[hz] at hu;simp at hu) hm1)
  unfold Oper.wp
  rw[hrun]
  simpa [Oper.upon,hd,Act.put] using h4
theorem X6n{t kt et:TypeId}{x ix:Operand}{b j:Nat}{k:Int}{kl:List Int}{cs:List AV}{y:AV}(ho:o.op = .lookup t x ix true)(hx:Q0k x=true)(hi:Q0k ix=true)(hm:P.underlying t=some (.map kt et))(hkt:P.underlying kt=some (.int .i64))
 (h1:σ.ev x = .amp b (iks kl) cs) (h2:σ.ev ix = .c (.v (.int .i64 k))) (hf:Q5c k kl 0=some j) (hy:cs[j]? = some y) (hK:K (σ.put o.dst (.tup [y,.c (.v (.bool true))]))):OpA P o σ K:=by
 refine Q1g _ hK fun E ι a w h=>?_
 have hxv:=h.ev x hx
 rw[h1] at hxv
 have hiv:=h.ev ix hi
 rw[h2] at hiv
 obtain⟨ei,_⟩:=hiv.v_inv
 generalize he:a.eval x=v at hxv
 cases hxv with
 |amp _ X clk _ us _ hS hh hk hu hl hr=>
  have hfn:=Q5w k X.toList kl 0 hk
  rw[hf] at hfn
  have hj:j<us.length:=by rw[hl];exact(List.getElem?_eq_some_iff.1 hy).1
  have hjX:j<X.size:=by
   have:=congrArg List.length hu
   simp at this
   omega
  have hval:X[j].val=us[j]:=by
   have:(X.toList.map (·.val))[j]? = us[j]?:=by rw[hu]
   rw[List.getElem?_map,List.getElem?_eq_getElem hj] at this
   simpa [hjX] using this
  refine⟨.tuple #[us[j],.bool true],?_,.tup [us[j],.bool true] _ rfl fun i u z hu hz=>?_⟩
  · unfold execOp
    simp only[Option.bind_some,Nat.sub_zero] at hfn
    rw[show X.toList[j]? = some X[j] by simp[hjX],Option.map_some,hval] at hfn
    simp only[ho,he,ei]
    simp[Instr.lookup,run_underlying hm,MapKept.run_getObj_map hh,MapKept.run_checkKey hkt (Q9r k),MapKept.run_findKey hkt hfn,Result.andThen]
  · rcases i with _|_|i
    · simp at hu hz;subst hu hz;exact hr j _ _ (List.getElem?_eq_getElem hj) hy
    · simp at hu hz;subst hu hz;exact Q2d _ rfl
    · simp at hu
theorem X6m{t kt et:TypeId}{x ix:Operand}{b:Nat}{k:Int}{kl:List Int}{cs:List AV}{z:Value}(ho:o.op = .lookup t x ix true)(hx:Q0k x=true)(hi:Q0k ix=true)(hm:P.underlying t=some (.map kt et))(hkt:P.underlying kt=some (.int .i64))(hz:(P.info? et).bind (·.zero)=some z)(hz1:z.oneCell'=true)
 (h1:σ.ev x = .amp b (iks kl) cs) (h2:σ.ev ix = .c (.v (.int .i64 k))) (hf:Q5c k kl 0=none) (hK:K (σ.put o.dst (.tup [.c (.v z),.c (.v (.bool false))]))):OpA P o σ K:=by
 refine Q1g _ hK fun E ι a w h=>?_
 have hxv:=h.ev x hx
 rw[h1] at hxv
 have hiv:=h.ev ix hi
 rw[h2] at hiv
 obtain⟨ei,_⟩:=hiv.v_inv
 generalize he:a.eval x=v at hxv
 cases hxv with
 |amp _ X clk _ us _ hS hh hk hu hl hr=>
  have hfn:=Q5w k X.toList kl 0 hk
  rw[hf] at hfn
  refine⟨.tuple #[z,.bool false],?_,.tup [z,.bool false] _ rfl fun i u y hu hy=>?_⟩
  · unfold execOp
    simp only[ho,he,ei]
    simp[Instr.lookup,run_underlying hm,MapKept.run_getObj_map hh,MapKept.run_checkKey hkt (Q9r k),MapKept.run_findKey hkt hfn,Result.andThen,run_zeroV hz]
  · rcases i with _|_|i
    · simp at hu hy;subst hu hy;exact Q2d _ hz1
    · simp at hu hy;subst hu hy;exact Q2d _ rfl
    · simp at hu
end
end
section
open Go.RowKit
open Nat (reduceBEq)
attribute [-go_sem] IntKind.bits
set_option maxRecDepth 20000
set_option maxHeartbeats 2000000
theorem Q7x{l:List Nat}{i:Nat}{y:Nat}(h:l[i]? = some y):((l.flatMap bpv).drop i).take 1=[.v (.int .u8 (y:Int))]:=by
 have:=X5m h
 rwa [Nat.mul_one] at this
theorem beq_fn(e1 e2:Bool)(a b:List Nat)(hl:a.length≤1000000):Fn Tryz.prog 141 [bsl e1 a,bsl e2 b] [] (vb (decide (a=b))) []:=by
 obtain⟨r,hr⟩:∃r,decide (a=b)=r:=⟨_,rfl⟩
 rw[hr]
 by_cases hab:a.length=b.length
 · have k0:((a.length:Int) != (b.length:Int))=false:=by simp;omega
   (refine Q0t Tryz.func141 rfl (by rfl) ?_;simp only[Tryz.ntmps141,List.length_cons,List.length_nil,Nat.reduceAdd,Nat.reduceSub,List.replicate,List.cons_append,List.nil_append])
   (repeat(any_goals(first|((with_reducible refine Q0b ?_ ?_);rfl;intro K hK;simp only[go_sem,k0];((repeat(refine ndI (by first|assumption) ?_));refine hK _ ?_;clear hK K))|(with_reducible first|(refine Q0c ?_;refine hR _ ?_;clear hR R)|((first|refine Q0e ?_|refine Q0f ?_);intro J hJ hJ')|(refine Q0a ?_;intro R hR)|(refine hJ _ ?_;clear hJ hJ' J)|refine Q0h ?_)|((with_reducible apply Q0d);rfl;rfl;all_goals(intro hc;first|(cases hc;done)|(try simp only at hc))))))
   refine Q1p (α:={i:Nat // i≤a.length∧a.take i=b.take i}) (fun p=>⟨[bsl e1 a,bsl e2 b,.any,.any,vb false,.any,.any,.any,.any,.any,.any,.any,vi .i64 a.length,vi .i64 (p.1:Int),.any,.any,.any,.any,.any,.any,.any,.any,.any,.any,.any,.any],[]⟩) (fun p=>a.length-p.1) ⟨0,Nat.zero_le _,rfl⟩ (St.le_of (by simp[leT]) (by simp[leH])) ?_
   rintro ⟨i,hi,htk⟩ J hJ hJ'
   (try dsimp only at hJ ⊢)
   rcases Nat.lt_or_ge i a.length with hlt|hge
   · obtain⟨x,hx⟩:∃x,a[i]? = some x:=⟨_,List.getElem?_eq_getElem hlt⟩
     obtain⟨y,hy⟩:∃y,b[i]? = some y:=⟨_,List.getElem?_eq_getElem (by omega)⟩
     have k1:(decide ((i:Int)<(a.length:Int)))=true:=by simp;omega
     have k2:=Q7x hx
     have k3:=Q7x hy
     have k7:(i:Int)+1=((i+1:Nat):Int):=by omega
     have hib:i<b.length:=by omega
     by_cases hxy:x=y
     · have k4:((x:Int) != (y:Int))=false:=by simp[hxy]
       have hJ1:=fun σ'=>hJ σ' ⟨i+1,hlt,by rw[List.take_add_one,List.take_add_one,htk,hx,hy,hxy]⟩ (by dsimp only;omega)
       dsimp only at hJ1
       (have W:=ndI k1 (ndI k2 (ndI k3 (ndI k4 (ndI k7 @wrI))));(repeat(any_goals(first|((with_reducible refine Q0b ?_ ?_);rfl;intro K hK;simp(disch:=omega) only[go_sem,W,Nat.mul_one];((repeat(refine ndI (by first|assumption|rfl) ?_));refine hK _ ?_;clear hK K))|(with_reducible first|(refine Q0c ?_;refine hR _ ?_;clear hR R)|((first|refine Q0e ?_|refine Q0f ?_);intro J hJ hJ')|(refine Q0a ?_;intro R hR)|(refine hJ _ ?_;clear hJ hJ' J)|refine Q0h ?_)|((with_reducible refine hJ' _ _ ?_ ?_);(focus(simp;done));clear hJ hJ' J)|((with_reducible apply Q0d);rfl;rfl;all_goals(intro hc;first|(cases hc;done)|(try simp only at hc)))|((with_reducible refine Q0z ?_ ?_);kernel_rfl;(with_reducible refine hR _ ?_);clear hR R)|(((with_reducible apply Q0x);rfl;rfl;(simp(disch:=omega) only[rdE,rdOf,go_sem,W,Nat.mul_one];rfl);(intro τ hA hQ hN;((try simp only[Q1i,Op.operands,Call.operands,go_sem,W,Nat.mul_one,go_sem,List.mem_cons,List.not_mem_nil,forall_eq_or_imp,forall_eq,List.append_toArray,Option.toArray] at hA);(try simp only[go_sem,W,Nat.mul_one,List.mem_cons,List.not_mem_nil,forall_eq_or_imp,forall_eq] at hQ hN);(first|(revert hA;intro hA));(first|(revert hQ;intro hQ));(first|(revert hN;intro hN));simp(disch:=omega) only[go_sem,W,Nat.mul_one,go_sem,hA,hQ,hN];(repeat(refine ndI (by first|assumption|omega|rfl) ?_));(first|apply Q1b))));(simp(disch:=omega) only[St.eff,setO,Q0u,go_sem,W,Nat.mul_one]))|((with_reducible refine Q0w ?_ ?_ ?_ ?_);kernel_rfl;kernel_rfl;(first|kernel_rfl);intro R hR)))))
       all_goals exact hJ1 _ (St.le_of (by simp[leT]) (by simp[leH]))
     · have k4:((x:Int) != (y:Int))=true:=by simp;omega
       have hrf:r=false:=by
        rw[←hr,decide_eq_false]
        rintro rfl
        rw[hx] at hy
        exact hxy (Option.some.inj hy)
       (have W:=ndI k1 (ndI k2 (ndI k3 (ndI k4 (ndI k7 @wrI))));(repeat(any_goals(first|((with_reducible refine Q0b ?_ ?_);rfl;intro K hK;simp(disch:=omega) only[go_sem,W,Nat.mul_one];((repeat(refine ndI (by first|assumption|rfl) ?_));refine hK _ ?_;clear hK K))|(with_reducible first|(refine Q0c ?_;refine hR _ ?_;clear hR R)|((first|refine Q0e ?_|refine Q0f ?_);intro J hJ hJ')|(refine Q0a ?_;intro R hR)|(refine hJ _ ?_;clear hJ hJ' J)|refine Q0h ?_|refine Q0j ?_)|((with_reducible refine hJ' _ _ ?_ ?_);(focus(simp;done));clear hJ hJ' J)|((with_reducible apply Q0d);rfl;rfl;all_goals(intro hc;first|(cases hc;done)|(try simp only at hc)))|((with_reducible refine Q0z ?_ ?_);kernel_rfl;(with_reducible refine hR _ ?_);clear hR R)|(((with_reducible apply Q0x);rfl;rfl;(simp(disch:=omega) only[rdE,rdOf,go_sem,W,Nat.mul_one];rfl);(intro τ hA hQ hN;((try simp only[Q1i,Op.operands,Call.operands,go_sem,W,Nat.mul_one,go_sem,List.mem_cons,List.not_mem_nil,forall_eq_or_imp,forall_eq,List.append_toArray,Option.toArray] at hA);(try simp only[go_sem,W,Nat.mul_one,List.mem_cons,List.not_mem_nil,forall_eq_or_imp,forall_eq] at hQ hN);(first|(revert hA;intro hA));(first|(revert hQ;intro hQ));(first|(revert hN;intro hN));simp(disch:=omega) only[go_sem,W,Nat.mul_one,go_sem,hA,hQ,hN];(repeat(refine ndI (by first|assumption|omega|rfl) ?_));(first|apply Q1b))));(simp(disch:=omega) only[St.eff,setO,Q0u,go_sem,W,Nat.mul_one]))|((with_reducible refine Q0w ?_ ?_ ?_ ?_);kernel_rfl;kernel_rfl;(first|kernel_rfl);intro R hR)))))
       all_goals rw[hrf]
       all_goals(refine⟨by simp,⟨_,?_,AV.le_refl _⟩,Q0g (by simp[leH,hget])⟩;simp only[Tryz.results141,resL,ldA,Q0m,go_sem])
   · have k1:(decide ((i:Int)<(a.length:Int)))=false:=by simp;omega
     have hrt:r=true:=by
      rw[←hr,decide_eq_true]
      rw[List.take_of_length_le hge,List.take_of_length_le (by omega)] at htk
      exact htk
     (repeat(any_goals(first|((with_reducible refine Q0b ?_ ?_);rfl;intro K hK;simp only[go_sem,k1];((repeat(refine ndI (by first|assumption) ?_));refine hK _ ?_;clear hK K))|(with_reducible first|(refine Q0c ?_;refine hR _ ?_;clear hR R)|((first|refine Q0e ?_);intro J hJ hJ')|(refine Q0a ?_;intro R hR)|(refine hJ _ ?_;clear hJ hJ' J)|refine Q0j ?_|refine Q0q ?_)|((with_reducible refine hJ' _ _ ?_ ?_);(focus(simp;done));clear hJ hJ' J)|((with_reducible apply Q0d);rfl;rfl;all_goals(intro hc;first|(cases hc;done)|(try simp only at hc))))))
     all_goals rw[hrt]
     all_goals(refine⟨by simp,⟨_,?_,AV.le_refl _⟩,Q0g (by simp[leH,hget])⟩;simp only[Tryz.results141,resL,ldA,Q0m,go_sem])
 · have k0:((a.length:Int) != (b.length:Int))=true:=by simp;omega
   obtain rfl:r=false:=by
    rw[←hr,decide_eq_false]
    rintro rfl
    exact hab rfl
   (refine Q0t Tryz.func141 rfl (by rfl) ?_;simp only[Tryz.ntmps141,List.length_cons,List.length_nil,Nat.reduceAdd,Nat.reduceSub,List.replicate,List.cons_append,List.nil_append])
   (repeat(any_goals(first|((with_reducible refine Q0b ?_ ?_);rfl;intro K hK;simp only[go_sem,k0];((repeat(refine ndI (by first|assumption) ?_));refine hK _ ?_;clear hK K))|(with_reducible first|(refine Q0c ?_;refine hR _ ?_;clear hR R)|((first|refine Q0e ?_);intro J hJ hJ')|(refine Q0a ?_;intro R hR)|(refine hJ _ ?_;clear hJ hJ' J)|refine Q0j ?_)|((with_reducible refine hJ' _ _ ?_ ?_);(focus(simp;done));clear hJ hJ' J)|((with_reducible apply Q0d);rfl;rfl;all_goals(intro hc;first|(cases hc;done)|(try simp only at hc))))))
   all_goals(refine⟨by simp,⟨_,?_,AV.le_refl _⟩,Q0g (by simp[leH,hget])⟩;simp only[Tryz.results141,resL,ldA,Q0m,go_sem])
def idxB(x:Nat):List Nat→Nat→Int
 |[],_=>-1
 |y::l,i=>if x=y then(i:Int) else idxB x l (i+1)
theorem idxB_ge(x:Nat):∀(l:List Nat) (i:Nat),decide (idxB x l i≥0)=decide (x∈l)
 |[],i=>by simp[idxB]
 |y::l,i=>by
  unfold idxB
  by_cases h:x=y
  · subst h;simp
  · rw[if_neg h,idxB_ge x l (i+1)]
    simp[h]
theorem index_fn(ex:Bool)(l:List Nat)(x:Nat)(hl:l.length≤1000000):Fn Tryz.prog 144 [bsl ex l,vi .u8 (x:Int)] [] (vi .i64 (idxB x l 0)) []:=by
 obtain⟨r,hr⟩:∃r,idxB x l 0=r:=⟨_,rfl⟩
 rw[hr]
 (refine Q0t Tryz.func144 rfl (by rfl) ?_;simp only[Tryz.ntmps144,List.length_cons,List.length_nil,Nat.reduceAdd,Nat.reduceSub,List.replicate,List.cons_append,List.nil_append])
 (repeat(any_goals(first|((with_reducible refine Q0b ?_ ?_);rfl;intro K hK;simp only[go_sem];((repeat(refine ndI (by first|assumption) ?_));refine hK _ ?_;clear hK K))|(with_reducible first|(refine Q0c ?_;refine hR _ ?_;clear hR R)|((first|refine Q0e ?_|refine Q0f ?_);intro J hJ hJ')|(refine Q0a ?_;intro R hR)|(refine hJ _ ?_;clear hJ hJ' J)))))
 refine Q1p (α:={i:Nat // i≤l.length∧idxB x (l.drop i) i=r}) (fun p=>⟨[bsl ex l,vi .u8 (x:Int),.any,.any,.any,.any,.any,vi .i64 l.length,vi .i64 (p.1:Int),.any,.any,.any,.any,.any,.any,.any,.any,.any,.any],[]⟩) (fun p=>l.length-p.1) ⟨0,Nat.zero_le _,hr⟩ (St.le_of (by simp[leT]) (by simp[leH])) ?_
 rintro ⟨i,hi,hd⟩ J hJ hJ'
 (try dsimp only at hJ ⊢)
 rcases Nat.lt_or_ge i l.length with hlt|hge
 · obtain⟨y,hy⟩:∃y,l[i]? = some y:=⟨_,List.getElem?_eq_getElem hlt⟩
   have k1:(decide ((i:Int)<(l.length:Int)))=true:=by simp;omega
   have k2:=Q7x hy
   have k7:(i:Int)+1=((i+1:Nat):Int):=by omega
   have hdr:l.drop i=y::l.drop (i+1):=by
    rw[List.drop_eq_getElem_cons hlt]
    rw[List.getElem?_eq_getElem hlt] at hy
    rw[Option.some.inj hy]
   rw[hdr] at hd
   unfold idxB at hd
   by_cases hxy:x=y
   · have k4:((x:Int)==(y:Int))=true:=by simp[hxy]
     rw[if_pos hxy] at hd
     (have W:=ndI k1 (ndI k2 (ndI k4 (ndI k7 @wrI)));(repeat(any_goals(first|((with_reducible refine Q0b ?_ ?_);rfl;intro K hK;simp(disch:=omega) only[go_sem,W,Nat.mul_one];((repeat(refine ndI (by first|assumption|omega|rfl) ?_));refine hK _ ?_;clear hK K))|(with_reducible first|(refine Q0c ?_;refine hR _ ?_;clear hR R)|((first|refine Q0e ?_|refine Q0f ?_);intro J hJ hJ')|(refine Q0a ?_;intro R hR)|(refine hJ _ ?_;clear hJ hJ' J)|refine Q0h ?_|refine Q0j ?_)|((with_reducible refine hJ' _ _ ?_ ?_);(focus(simp;done));clear hJ hJ' J)|((with_reducible apply Q0d);rfl;rfl;all_goals(intro hc;first|(cases hc;done)|(try simp only at hc)))))))
     all_goals rw[←hd]
     all_goals(refine⟨by simp,⟨_,?_,AV.le_refl _⟩,Q0g (by simp[leH,hget])⟩;simp only[Tryz.results144,resL,ldA,Q0m,go_sem])
   · have k4:((x:Int)==(y:Int))=false:=by simp;omega
     rw[if_neg hxy] at hd
     have hJ1:=fun σ'=>hJ σ' ⟨i+1,hlt,hd⟩ (by dsimp only;omega)
     dsimp only at hJ1
     (have W:=ndI k1 (ndI k2 (ndI k4 (ndI k7 @wrI)));(repeat(any_goals(first|((with_reducible refine Q0b ?_ ?_);rfl;intro K hK;simp(disch:=omega) only[go_sem,W,Nat.mul_one];((repeat(refine ndI (by first|assumption|omega|rfl) ?_));refine hK _ ?_;clear hK K))|(with_reducible first|(refine Q0c ?_;refine hR _ ?_;clear hR R)|((first|refine Q0e ?_|refine Q0f ?_);intro J hJ hJ')|(refine Q0a ?_;intro R hR)|(refine hJ _ ?_;clear hJ hJ' J)|refine Q0h ?_)|((with_reducible refine hJ' _ _ ?_ ?_);(focus(simp;done));clear hJ hJ' J)|((with_reducible apply Q0d);rfl;rfl;all_goals(intro hc;first|(cases hc;done)|(try simp only at hc)))))))
     all_goals exact hJ1 _ (St.le_of (by simp[leT]) (by simp[leH]))
 · have k1:(decide ((i:Int)<(l.length:Int)))=false:=by simp;omega
   rw[List.drop_eq_nil_of_le hge] at hd
   have hd:r = -1:=hd.symm
   (repeat(any_goals(first|((with_reducible refine Q0b ?_ ?_);rfl;intro K hK;simp only[go_sem,k1];((repeat(refine ndI (by first|assumption) ?_));refine hK _ ?_;clear hK K))|(with_reducible first|(refine Q0c ?_;refine hR _ ?_;clear hR R)|((first|refine Q0e ?_);intro J hJ hJ')|(refine Q0a ?_;intro R hR)|(refine hJ _ ?_;clear hJ hJ' J)|refine Q0j ?_|refine Q0q ?_)|((with_reducible refine hJ' _ _ ?_ ?_);(focus(simp;done));clear hJ hJ' J)|((with_reducible apply Q0d);rfl;rfl;all_goals(intro hc;first|(cases hc;done)|(try simp only at hc))))))
   all_goals rw[hd]
   all_goals(refine⟨by simp,⟨_,?_,AV.le_refl _⟩,Q0g (by simp[leH,hget])⟩;simp only[Tryz.results144,resL,ldA,Q0m,go_sem])
theorem Q9z(ex:Bool)(l:List Nat)(x:Nat)(hl:l.length≤1000000):Fn Tryz.prog 101 [bsl ex l,vi .u8 (x:Int)] [] (vb (decide (x∈l))) []:=by
 have h:=index_fn ex l x hl
 have e:=idxB_ge x l 0
 generalize idxB x l 0=r at h e
 rw[←e]
 (refine Q0t Tryz.func101 rfl (by rfl) ?_;simp only[Tryz.ntmps101,List.length_cons,List.length_nil,Nat.reduceAdd,Nat.reduceSub,List.replicate,List.cons_append,List.nil_append])
 (repeat(any_goals(first|((with_reducible refine Q0l ?_ ?_ ?_);rfl;rfl;intro K hK;((apply Q0i (h);rfl;rfl;rfl;rfl;exact Tryz.func144);kernel_rfl;rfl;(focus((simp only[go_sem]);(try rfl);done));(first|rfl));(simp only[go_sem];refine hK _ ?_;clear hK K))|((with_reducible refine Q0b ?_ ?_);rfl;intro K hK;simp only[go_sem];((repeat(refine ndI (by first|assumption) ?_));refine hK _ ?_;clear hK K))|(with_reducible first|(refine Q0c ?_;refine hR _ ?_;clear hR R)|((first|refine Q0e ?_);intro J hJ hJ')|(refine Q0a ?_;intro R hR)|(refine hJ _ ?_;clear hJ hJ' J)|refine Q0j ?_))))
 all_goals(refine⟨by simp,⟨_,?_,AV.le_refl _⟩,Q0g (by simp[leH,hget])⟩;simp only[Tryz.results101,resL,ldA,Q0m,go_sem])
def Q6d(x:Nat):Bool:=decide (x∈[241,244,250,245])
theorem calls_fn(x:Nat):Fn Tryz.prog 160 [vi .u8 (x:Int)] [] (vb (Q6d x)) []:=by
 have h:Fn Tryz.prog 101 [.c (.sl true 1 4 [.v (.int .u8 241),.v (.int .u8 244),.v (.int .u8 250),.v (.int .u8 245)]),vi .u8 (x:Int)] [] (vb (Q6d x)) []:=Q9z true [241,244,250,245] x (by decide)
 generalize Q6d x=b at h ⊢
 (refine Q0t Tryz.func160 rfl (by rfl) ?_;simp only[Tryz.ntmps160,List.length_cons,List.length_nil,Nat.reduceAdd,Nat.reduceSub,List.replicate,List.cons_append,List.nil_append])
 (repeat(any_goals(first|((with_reducible refine Q2n ?_ ?_);rfl;intro K hK;apply Q2h;rfl;rfl;(focus(simp only[go_sem];try rfl));(focus(simp only[go_sem];try rfl));rfl;(first|omega);(first|omega);(first|omega);(simp only[go_sem];rfl);rfl;(focus((simp only[unC,Option.map_some]);(try rfl)));(simp only[go_sem];refine hK _ ?_;clear hK K))|((with_reducible refine Q0l ?_ ?_ ?_);rfl;rfl;intro K hK;((apply Q0i (h);rfl;rfl;rfl;rfl;exact Tryz.func101);kernel_rfl;rfl;(focus((simp only[go_sem]);(try rfl);done));(first|rfl));(simp only[go_sem];refine hK _ ?_;clear hK K))|((with_reducible refine Q0b ?_ ?_);rfl;intro K hK;simp only[go_sem];((repeat(refine ndI (by first|assumption) ?_));refine hK _ ?_;clear hK K))|(with_reducible first|(refine Q0c ?_;refine hR _ ?_;clear hR R)|((first|refine Q0e ?_);intro J hJ hJ')|(refine Q0a ?_;intro R hR)|(refine hJ _ ?_;clear hJ hJ' J)|refine Q0j ?_))))
 all_goals(refine⟨by simp,⟨_,?_,AV.le_refl _⟩,Q0g (by simp[leH,hget])⟩;simp only[Tryz.results160,resL,ldA,Q0m,go_sem])
def Q7n(x:Nat):Bool:=x==50||x==49||x==66||x==67||x==71||x==72||x==254
theorem told_fn(x:Nat):Fn Tryz.prog 161 [vi .u8 (x:Int)] [] (vb (Q7n x)) []:=by
 obtain⟨b1,h1⟩:∃b,((x:Int)==50)=b:=⟨_,rfl⟩
 obtain⟨b2,h2⟩:∃b,((x:Int)==49)=b:=⟨_,rfl⟩
 obtain⟨b3,h3⟩:∃b,((x:Int)==66)=b:=⟨_,rfl⟩
 obtain⟨b4,h4⟩:∃b,((x:Int)==67)=b:=⟨_,rfl⟩
 obtain⟨b5,h5⟩:∃b,((x:Int)==71)=b:=⟨_,rfl⟩
 obtain⟨b6,h6⟩:∃b,((x:Int)==72)=b:=⟨_,rfl⟩
 obtain⟨b7,h7⟩:∃b,((x:Int)==254)=b:=⟨_,rfl⟩
 have e:Q7n x=(b1||b2||b3||b4||b5||b6||b7):=by
  have key:∀n:Nat,((x:Int)==(n:Int))=(x==n):=fun n=>by
   rw[Bool.eq_iff_iff];simp;omega
  rw[←h1,←h2,←h3,←h4,←h5,←h6,←h7]
  unfold Q7n
  rw[show((50:Int))=((50:Nat):Int) from rfl,show((49:Int))=((49:Nat):Int) from rfl,show((66:Int))=((66:Nat):Int) from rfl,show((67:Int))=((67:Nat):Int) from rfl,show((71:Int))=((71:Nat):Int) from rfl,show((72:Int))=((72:Nat):Int) from rfl,show((254:Int))=((254:Nat):Int) from rfl]
  rw[key,key,key,key,key,key,key]
 rw[e]
 clear e
 (refine Q0t Tryz.func161 rfl (by rfl) ?_;simp only[Tryz.ntmps161,List.length_cons,List.length_nil,Nat.reduceAdd,Nat.reduceSub,List.replicate,List.cons_append,List.nil_append])
 (have W:=ndI h1 (ndI h2 (ndI h3 (ndI h4 (ndI h5 (ndI h6 h7)))));(repeat(any_goals(first|((with_reducible refine Q0b ?_ ?_);rfl;intro K hK;simp only[go_sem,W];((repeat(refine ndI (by first|assumption) ?_));refine hK _ ?_;clear hK K))|(with_reducible first|(refine Q0c ?_;refine hR _ ?_;clear hR R)|((first|refine Q0e ?_|refine Q0f ?_);intro J hJ hJ')|(refine Q0a ?_;intro R hR)|(refine hJ _ ?_;clear hJ hJ' J)|refine Q0h ?_|refine Q0j ?_)|((with_reducible refine hJ' _ _ ?_ ?_);(focus(simp;done));clear hJ hJ' J)|((with_reducible apply Q0d);rfl;rfl;all_goals(intro hc;first|(try simp only at hc)))))))
 all_goals(subst_vars;(refine⟨by simp,⟨_,?_,AV.le_refl _⟩,Q0g (by simp[leH,hget])⟩;simp only[Tryz.results161,resL,ldA,Q0m,go_sem]))
 all_goals simp_all
end
section
open Go.RowKit
open Nat (reduceBEq)
attribute [-go_sem] IntKind.bits
set_option maxRecDepth 20000
set_option maxHeartbeats 2000000
structure Ev where
 kind:Int
 dep:Int
 self:Int
 to:Int
 op:Nat
 key:Nat
 val:Nat
 data:List Nat
deriving DecidableEq
abbrev c14(k d s t o a0 a1 a2 a3 v0 v1 v2 v3:Int)(x:AV):List AV:=[vi .i64 k,vi .i64 d,vi .u64 s,vi .u64 t,vi .u8 o,vi .u64 a0,vi .u64 a1,vi .u64 a2,vi .u64 a3,vi .u64 v0,vi .u64 v1,vi .u64 v2,vi .u64 v3,x]
abbrev evA(e:Ev):AV:=.agg (c14 e.kind e.dep e.self e.to (e.op:Int) (l0 e.key) (l1 e.key) (l2 e.key) (l3 e.key) (l0 e.val) (l1 e.val) (l2 e.val) (l3 e.val) (bsl false e.data))
abbrev nilA:AV:=.c (.v (.slice none 0 0))
theorem same_fnE(k d s t o a0 a1 a2 a3 v0 v1 v2 v3 k' d' s' t' o' a0' a1' a2' a3' v0' v1' v2' v3':Int)(ex:Bool)(x y:List Nat)(b1 b2 b3 b4 b5 b6 b7 b8:Bool)(h1:(k==k')=b1)(h2:(d==d')=b2)(h3:(s==s')=b3)(h4:(t==t')=b4)(h5:(o==o')=b5)
 (h6:(a0==a0'&&(a1==a1'&&(a2==a2'&&a3==a3')))=b6) (h7:(v0==v0'&&(v1==v1'&&(v2==v2'&&v3==v3')))=b7) (be:Fn Tryz.prog 141 [bsl ex x,bsl ex y] [] (vb b8) []) :
 Fn Tryz.prog 91 [.agg (c14 k d s t o a0 a1 a2 a3 v0 v1 v2 v3 (bsl ex x)),.agg (c14 k' d' s' t' o' a0' a1' a2' a3' v0' v1' v2' v3' (bsl ex y))] [] (vb (b1&&b2&&b3&&b4&&b5&&b6&&b7&&b8)) []:=by
 (refine Q0t Tryz.func91 rfl (by rfl) ?_;simp only[Tryz.ntmps91,List.length_cons,List.length_nil,Nat.reduceAdd,Nat.reduceSub,List.replicate,List.cons_append,List.nil_append])
 (have W:=ndI h1 (ndI h2 (ndI h3 (ndI h4 (ndI h5 (ndI h6 h7)))));(repeat(any_goals(first|((with_reducible refine Q0b ?_ ?_);rfl;intro K hK;simp only[go_sem,W];((repeat(refine ndI (by first|assumption) ?_));refine hK _ ?_;clear hK K))|(with_reducible first|(refine Q0c ?_;refine hR _ ?_;clear hR R)|((first|refine Q0e ?_);intro J hJ hJ')|(refine Q0a ?_;intro R hR)|(refine hJ _ ?_;clear hJ hJ' J)|refine Q0j ?_)|((with_reducible apply Q0p);rfl;rfl;rfl;all_goals(intro hb;first|(cases hb;done)|((try simp only[Bool.not_true,Bool.not_false] at hb);(first|((with_reducible intro K hK);(first|((apply Q0i (be);rfl;rfl;rfl;rfl;exact Tryz.func141);kernel_rfl;rfl;(focus((simp only[go_sem,W]);(try rfl);done));(first|rfl))|skip);simp only[go_sem,W];((repeat(refine ndI (by first|assumption) ?_));refine hK _ ?_;clear hK K))|((fail_if_success (with_reducible intro _));simp only[go_sem,W])))))))))
 all_goals(subst_vars;(refine⟨by simp,⟨_,?_,AV.le_refl _⟩,Q0g (by simp[leH,hget])⟩;simp only[Tryz.results91,resL,ldA,Q0m,go_sem]))
 all_goals simp_all
section
variable (k d s t o a0 a1 a2 a3 v0 v1 v2 v3:Int)
theorem hash_yes(x:List Nat)(g0 g1 g2 g3:Int)(b:Bool)(hx:x.length=64)(dg:Fn Tryz.prog 159 [bsl false x] [] (w4 g0 g1 g2 g3) [])(hb:(v0==g0&&(v1==g1&&(v2==g2&&v3==g3)))=b) :
 Fn Tryz.prog 135 [.ptr 1000 0] [(1000,c14 k d s t o a0 a1 a2 a3 v0 v1 v2 v3 (bsl false x))] (vb b) [(1000,c14 k d s t o a0 a1 a2 a3 0 0 0 0 nilA)]:=by
 have e1:((x.length:Int)==64)=true:=by rw[hx];rfl
 (refine Q0t Tryz.func135 rfl (by rfl) ?_;simp only[Tryz.ntmps135,List.length_cons,List.length_nil,Nat.reduceAdd,Nat.reduceSub,List.replicate,List.cons_append,List.nil_append])
 (repeat(any_goals(first|((with_reducible refine Q0b ?_ ?_);rfl;intro K hK;simp only[go_sem,e1,hb];((repeat(refine ndI (by first|assumption) ?_));refine hK _ ?_;clear hK K))|(with_reducible first|(refine Q0c ?_;refine hR _ ?_;clear hR R)|((first|refine Q0e ?_);intro J hJ hJ')|(refine Q0a ?_;intro R hR)|(refine hJ _ ?_;clear hJ hJ' J)|refine Q0j ?_)|((with_reducible refine Q0z ?_ ?_);kernel_rfl;(with_reducible refine hR _ ?_);clear hR R)|((first|((first|((with_reducible apply Q3i);rfl;rfl;rfl;rfl;rfl));((apply Q0y (dg);rfl;rfl;rfl;rfl;exact Tryz.func159);kernel_rfl;rfl;(focus((simp only[go_sem,e1,hb]);(try rfl);done));(first|rfl)))|((first|((with_reducible apply Q0x);rfl;rfl)|((with_reducible apply Q3c);rfl;rfl;rfl;rfl;rfl));(simp only[rdE,rdOf,go_sem,e1,hb];rfl);(intro τ hA hQ hN;((try simp only[Q1i,Op.operands,Call.operands,go_sem,e1,hb,go_sem,List.mem_cons,List.not_mem_nil,forall_eq_or_imp,forall_eq,List.append_toArray,Option.toArray] at hA);(try simp only[go_sem,e1,hb,List.mem_cons,List.not_mem_nil,forall_eq_or_imp,forall_eq] at hQ hN);(first|(revert hA;intro hA));(first|(revert hQ;intro hQ));(first|(revert hN;intro hN));simp only[go_sem,e1,hb,go_sem,hA,hQ,hN];(repeat(refine ndI (by first|assumption) ?_));(first|apply Q1b)))));(simp only[St.eff,setO,Q0u,go_sem,e1,hb]))|((with_reducible refine Q0w ?_ ?_ ?_ ?_);kernel_rfl;kernel_rfl;(first|kernel_rfl);intro R hR))))
 all_goals(refine⟨by simp,⟨_,?_,AV.le_refl _⟩,Q0g (by simp[leH,hget])⟩;simp only[Tryz.results135,resL,ldA,Q0m,go_sem])
theorem hash_no(x:List Nat)(hx:x.length≠64) :
 Fn Tryz.prog 135 [.ptr 1000 0] [(1000,c14 k d s t o a0 a1 a2 a3 v0 v1 v2 v3 (bsl false x))] (vb false) [(1000,c14 k d s t o a0 a1 a2 a3 0 0 0 0 nilA)]:=by
 have e1:((x.length:Int)==64)=false:=by simp;omega
 (refine Q0t Tryz.func135 rfl (by rfl) ?_;simp only[Tryz.ntmps135,List.length_cons,List.length_nil,Nat.reduceAdd,Nat.reduceSub,List.replicate,List.cons_append,List.nil_append])
 (repeat(any_goals(first|((with_reducible refine Q0b ?_ ?_);rfl;intro K hK;simp only[go_sem,e1];((repeat(refine ndI (by first|assumption) ?_));refine hK _ ?_;clear hK K))|(with_reducible first|(refine Q0c ?_;refine hR _ ?_;clear hR R)|((first|refine Q0e ?_);intro J hJ hJ')|(refine Q0a ?_;intro R hR)|(refine hJ _ ?_;clear hJ hJ' J)|refine Q0j ?_)|((with_reducible refine Q0z ?_ ?_);kernel_rfl;(with_reducible refine hR _ ?_);clear hR R)|((first|((with_reducible apply Q3q);rfl;rfl;rfl;rfl)|((first|((with_reducible apply Q0x);rfl;rfl));(simp only[rdE,rdOf,go_sem,e1];rfl);(intro τ hA hQ hN;((try simp only[Q1i,Op.operands,Call.operands,go_sem,e1,go_sem,List.mem_cons,List.not_mem_nil,forall_eq_or_imp,forall_eq,List.append_toArray,Option.toArray] at hA);(try simp only[go_sem,e1,List.mem_cons,List.not_mem_nil,forall_eq_or_imp,forall_eq] at hQ hN);(first|(revert hA;intro hA));(first|(revert hQ;intro hQ));(first|(revert hN;intro hN));simp only[go_sem,e1,go_sem,hA,hQ,hN];(repeat(refine ndI (by first|assumption) ?_));(first|apply Q1b)))));(simp only[St.eff,setO,Q0u,go_sem,e1]))|((with_reducible refine Q0w ?_ ?_ ?_ ?_);kernel_rfl;kernel_rfl;(first|kernel_rfl);intro R hR))))
 all_goals(refine⟨by simp,⟨_,?_,AV.le_refl _⟩,Q0g (by simp[leH,hget])⟩;simp only[Tryz.results135,resL,ldA,Q0m,go_sem])
theorem slot_fn(x:AV)(hx:AV.inN [] x=true):Fn Tryz.prog 136 [.ptr 1000 0] [(1000,c14 k d s t o a0 a1 a2 a3 v0 v1 v2 v3 x)] (vb true) [(1000,c14 k d s t o 0 0 0 0 v0 v1 v2 v3 x)]:=by
 (refine Q0t Tryz.func136 rfl (by rfl) ?_;simp only[Tryz.ntmps136,List.length_cons,List.length_nil,Nat.reduceAdd,Nat.reduceSub,List.replicate,List.cons_append,List.nil_append])
 (repeat(any_goals(first|((with_reducible refine Q0b ?_ ?_);rfl;intro K hK;simp only[go_sem];((repeat(refine ndI (by first|assumption) ?_));refine hK _ ?_;clear hK K))|(with_reducible first|(refine Q0c ?_;refine hR _ ?_;clear hR R)|((first|refine Q0e ?_);intro J hJ hJ')|(refine Q0a ?_;intro R hR)|(refine hJ _ ?_;clear hJ hJ' J)|refine Q0j ?_))))
 all_goals(refine⟨by simp,⟨_,?_,AV.le_refl _⟩,Q0g (by simp[leH,hget])⟩;simp only[Tryz.results136,resL,ldA,Q0m,go_sem])
theorem acall_fn(o:Nat)(x:List Nat)(b1 b2:Bool)(h1:Q6d o=b1)(h2:decide ((x.length:Int)≤1)=b2) :
 Fn Tryz.prog 137 [.ptr 1000 0] [(1000,c14 k d s t (o:Int) a0 a1 a2 a3 v0 v1 v2 v3 (bsl false x))] (vb (b1&&b2)) [(1000,c14 k d s 0 0 a0 a1 a2 a3 0 0 0 0 nilA)]:=by
 have c:=calls_fn o
 rw[h1] at c
 (refine Q0t Tryz.func137 rfl (by rfl) ?_;simp only[Tryz.ntmps137,List.length_cons,List.length_nil,Nat.reduceAdd,Nat.reduceSub,List.replicate,List.cons_append,List.nil_append])
 (repeat(any_goals(first|((with_reducible refine Q0l ?_ ?_ ?_);rfl;rfl;intro K hK;((apply Q0i (c);rfl;rfl;rfl;rfl;exact Tryz.func160);kernel_rfl;rfl;(focus((simp only[go_sem,h2]);(try rfl);done));(first|rfl));(simp only[go_sem,h2];refine hK _ ?_;clear hK K))|((with_reducible refine Q0b ?_ ?_);rfl;intro K hK;simp only[go_sem,h2];((repeat(refine ndI (by first|assumption) ?_));refine hK _ ?_;clear hK K))|(with_reducible first|(refine Q0c ?_;refine hR _ ?_;clear hR R)|((first|refine Q0e ?_);intro J hJ hJ')|(refine Q0a ?_;intro R hR)|(refine hJ _ ?_;clear hJ hJ' J)|refine Q0j ?_)|((with_reducible apply Q0p);rfl;rfl;rfl;all_goals(intro hb;first|(cases hb;done)|((try simp only[Bool.not_true,Bool.not_false] at hb);(first|((with_reducible intro K hK);simp only[go_sem,h2];((repeat(refine ndI (by first|assumption) ?_));refine hK _ ?_;clear hK K))|((fail_if_success (with_reducible intro _));simp only[go_sem,h2]))))))))
 all_goals(subst_vars;(refine⟨by simp,⟨_,?_,AV.le_refl _⟩,Q0g (by simp[leH,hget])⟩;simp only[Tryz.results137,resL,ldA,Q0m,go_sem]))
 all_goals simp_all
theorem aop_fn(o:Nat)(x:AV):Fn Tryz.prog 138 [.ptr 1000 0] [(1000,c14 k d s t (o:Int) a0 a1 a2 a3 v0 v1 v2 v3 x)] (vb (Q7n o)) [(1000,c14 k d s t 0 a0 a1 a2 a3 v0 v1 v2 v3 x)]:=by
 have c:=told_fn o
 generalize Q7n o=b at c ⊢
 (refine Q0t Tryz.func138 rfl (by rfl) ?_;simp only[Tryz.ntmps138,List.length_cons,List.length_nil,Nat.reduceAdd,Nat.reduceSub,List.replicate,List.cons_append,List.nil_append])
 (repeat(any_goals(first|((with_reducible refine Q0l ?_ ?_ ?_);rfl;rfl;intro K hK;((apply Q0i (c);rfl;rfl;rfl;rfl;exact Tryz.func161);kernel_rfl;rfl;(focus((simp only[go_sem]);(try rfl);done));(first|rfl));(simp only[go_sem];refine hK _ ?_;clear hK K))|((with_reducible refine Q0b ?_ ?_);rfl;intro K hK;simp only[go_sem];((repeat(refine ndI (by first|assumption) ?_));refine hK _ ?_;clear hK K))|(with_reducible first|(refine Q0c ?_;refine hR _ ?_;clear hR R)|((first|refine Q0e ?_);intro J hJ hJ')|(refine Q0a ?_;intro R hR)|(refine hJ _ ?_;clear hJ hJ' J)|refine Q0j ?_))))
 all_goals(refine⟨by simp,⟨_,?_,AV.le_refl _⟩,Q0g (by simp[leH,hget])⟩;simp only[Tryz.results138,resL,ldA,Q0m,go_sem])
theorem gas_fn(x:AV):Fn Tryz.prog 139 [.ptr 1000 0] [(1000,c14 k d s t o a0 a1 a2 a3 v0 v1 v2 v3 x)] (vb true) [(1000,c14 k d s t 0 a0 a1 a2 a3 v0 v1 v2 v3 x)]:=by
 (refine Q0t Tryz.func139 rfl (by rfl) ?_;simp only[Tryz.ntmps139,List.length_cons,List.length_nil,Nat.reduceAdd,Nat.reduceSub,List.replicate,List.cons_append,List.nil_append])
 (repeat(any_goals(first|((with_reducible refine Q0b ?_ ?_);rfl;intro K hK;simp only[go_sem];((repeat(refine ndI (by first|assumption) ?_));refine hK _ ?_;clear hK K))|(with_reducible first|(refine Q0c ?_;refine hR _ ?_;clear hR R)|((first|refine Q0e ?_);intro J hJ hJ')|(refine Q0a ?_;intro R hR)|(refine hJ _ ?_;clear hJ hJ' J)|refine Q0j ?_))))
 all_goals(refine⟨by simp,⟨_,?_,AV.le_refl _⟩,Q0g (by simp[leH,hget])⟩;simp only[Tryz.results139,resL,ldA,Q0m,go_sem])
end
end
section
open Go.RowKit
open Nat (reduceBEq)
attribute [-go_sem] IntKind.bits
set_option maxRecDepth 20000
set_option maxHeartbeats 2000000
def fsL:List FuncId:=[135,136,136,137,138,139]
abbrev fsA:List AV:=[.fnb 135 [.ptr 22 0],.fnb 136 [.ptr 22 0],.fnb 136 [.ptr 22 0],.fnb 137 [.ptr 22 0],.fnb 138 [.ptr 22 0],.fnb 139 [.ptr 22 0]]
theorem fsA_at{j:Nat}{f:FuncId}(h:fsL[j]? = some f):fsA[j]? = some (.fnb f [.ptr 22 0]):=by
 have e:fsA=fsL.map fun f=>AV.fnb f [.ptr 22 0]:=rfl
 rw[e,List.getElem?_map,h];rfl
theorem right_out(k d s t o a0 a1 a2 a3 v0 v1 v2 v3:Int)(x:AV)(b1 b2 b3:Bool)(h1:decide (d<0)=b1)(h2:decide (d≥6)=b2)(h3:(s==0)=b3)(h:(b1||b2||b3)=true)(hxr:∀r,AV.refs r x=false) :
 Fn Tryz.prog 85 [.agg (c14 k d s t o a0 a1 a2 a3 v0 v1 v2 v3 x)] [] (vb false) []:=by
 (refine Q0t Tryz.func85 rfl (by rfl) ?_;simp only[Tryz.ntmps85,List.length_cons,List.length_nil,Nat.reduceAdd,Nat.reduceSub,List.replicate,List.cons_append,List.nil_append])
 cases b1<;>cases b2<;>cases b3
 all_goals(try(cases h;done))
 all_goals clear h
 all_goals(have W:=ndI h1 (ndI h2 h3);(repeat(any_goals(first|((with_reducible refine Q0b ?_ ?_);rfl;intro K hK;simp only[go_sem,W,hxr];((repeat(refine ndI (by first|assumption) ?_));refine hK _ ?_;clear hK K))|(with_reducible first|(refine Q0c ?_;refine hR _ ?_;clear hR R)|((first|refine Q0e ?_);intro J hJ hJ')|(refine Q0a ?_;intro R hR)|(refine hJ _ ?_;clear hJ hJ' J)|refine Q0j ?_)|((with_reducible refine hJ' _ _ ?_ ?_);(focus(simp;done));clear hJ hJ' J)|((with_reducible apply Q0p);rfl;rfl;rfl;all_goals(intro hb;first|(cases hb;done)|((try simp only[Bool.not_true,Bool.not_false] at hb);(first|((with_reducible intro K hK);simp only[go_sem,W,hxr];((repeat(refine ndI (by first|assumption) ?_));refine hK _ ?_;clear hK K))|((fail_if_success (with_reducible intro _));simp only[go_sem,W,hxr])))))|((with_reducible apply Q0d);rfl;rfl;all_goals(intro hc;first|(cases hc;done)|(try simp only at hc)))))))
 all_goals(refine⟨by simp,⟨_,?_,AV.le_refl _⟩,Q0g (by simp[leH,hget])⟩;simp only[Tryz.results85,resL,ldA,Q0m,go_sem])
theorem Q3k(k d s t o a0 a1 a2 a3 v0 v1 v2 v3:Int)(x:AV)(C':List AV)(b c:Bool)(h1:decide (d<0)=false)(h2:decide (d≥6)=false)(h3:(s==0)=false){j:Nat}{f:FuncId}{fn:Func}(hj:Q5c k [1,2,3,4,5,6] 0=some j)(hy:fsL[j]? = some f)
 (hfn:Tryz.prog.funcs[f]? = some fn) (hname:(fn.name == "runtime.NumGoroutine")=false) (hbody:fn.body.isNone=false) (hx:AV.inN [] x=true) (hxr:∀r,AV.refs r x=false) (hxm:AV.hasMp x=false) (hc':AV.inNL [] C'=true) (hl:C'.length=14) (hr':∀r,AV.refsL r C'=false)
 (hF:Fn Tryz.prog f [.ptr 1000 0] [(1000,c14 k d s t o a0 a1 a2 a3 v0 v1 v2 v3 x)] (vb b) [(1000,C')]) (sm:Fn Tryz.prog 91 [.agg C',.agg (c14 k d s 0 0 0 0 0 0 0 0 0 0 nilA)] [] (vb c) []) :
 Fn Tryz.prog 85 [.agg (c14 k d s t o a0 a1 a2 a3 v0 v1 v2 v3 x)] [] (vb (b&&c)) []:=by
 have fa:=fsA_at hy
 refine Fn.known fun E0=>?_
 (refine Q4r Tryz.func85 rfl (by rfl) ?_;simp only[Tryz.ntmps85,List.length_cons,List.length_nil,Nat.reduceAdd,Nat.reduceSub,List.replicate,List.cons_append,List.nil_append])
 refine AWE.seqI ?_
 intro J hJ hJ'
 refine AWE.of ?_
 (repeat(any_goals(first|((with_reducible refine Q0b ?_ ?_);rfl;intro K hK;simp only[go_sem,hxr];((repeat(refine ndI (by first|assumption) ?_));refine hK _ ?_;clear hK K))|(with_reducible first|(refine Q0c ?_;refine hR _ ?_;clear hR R)|(refine Q0a ?_;intro R hR)|(refine hJ _ ?_;clear hJ hJ' J)))))
 refine AWE.seqI ?_
 intro J hJ hJ'
 refine AWE.of ?_
 (have W:=ndI h1 (ndI h2 h3);(repeat(any_goals(first|((with_reducible refine Q0b ?_ ?_);rfl;intro K hK;simp only[go_sem,W];((repeat(refine ndI (by first|assumption) ?_));refine hK _ ?_;clear hK K))|(with_reducible first|(refine Q0c ?_;refine hR _ ?_;clear hR R)|((first|refine Q0e ?_);intro J hJ hJ')|(refine Q0a ?_;intro R hR)|(refine hJ _ ?_;clear hJ hJ' J)|refine Q0h ?_)|((with_reducible apply Q0p);rfl;rfl;rfl;all_goals(intro hb;first|(cases hb;done)|((try simp only[Bool.not_true,Bool.not_false] at hb);(first|((with_reducible intro K hK);simp only[go_sem,W];((repeat(refine ndI (by first|assumption) ?_));refine hK _ ?_;clear hK K))))))|((with_reducible apply Q0d);rfl;rfl;all_goals(intro hc;first|(cases hc;done)|(try simp only at hc)))))))
 refine AWE.seqI ?_
 intro J hJ hJ'
 refine AWE.of ?_
 (repeat(any_goals(first|((with_reducible refine Q0b ?_ ?_);rfl;intro K hK;simp only[go_sem,hxr];((repeat(refine ndI (by first|assumption) ?_));refine hK _ ?_;clear hK K))|(with_reducible first|(refine Q0c ?_;refine hR _ ?_;clear hR R)|(refine Q0a ?_;intro R hR)|(refine hJ _ ?_;clear hJ hJ' J)))))
 refine AWE.seqI ?_
 intro J hJ hJ'
 refine AWE.to (St.to.of_le (τ:=⟨[.any,.ptr 1 0,vb false,.ptr 22 0,.any,.any,.any,.any,.any,.any,.any,.any,.any,.any,.any,.any,.any,.any,.any,.any,.any,.any,.any,.any,.any,.any,.any,.any,.any,.any,.any,.any,.any,.any,.any,.any,.any,.any,.any,.any,.any,.any,.any,.any,.any,.any,.any,.any,.any,.any,.any,.any,.any,.any,.any,.any,.any,.any,.any,.any,.any,.any,.any],[(1,c14 k d s t o a0 a1 a2 a3 v0 v1 v2 v3 x),(22,c14 k d s t o a0 a1 a2 a3 v0 v1 v2 v3 x)]⟩) (St.le_of (by simp[leT]) (by simp[leH,hget]))) ?_
 dsimp only
 refine AWE.regionL ?_
 refine ALE.one rfl (Q8d rfl fun mb hmb=>?_)
 simp only[go_sem]
 have hH:Q7g [(1,c14 k d s t o a0 a1 a2 a3 v0 v1 v2 v3 x),(22,c14 k d s t o a0 a1 a2 a3 v0 v1 v2 v3 x)]=false:=by simp[Q7g,AV.hasMpA,AV.hasMp,PV.hasMp,hxm]
 refine ALE.oneA rfl ?_
 simp only[go_sem]
 (repeat(refine ndI rfl ?_))
 refine ALE.one rfl (OpA.toW (Q1o rfl rfl ?_))
 simp only[go_sem]
 refine ALE.one rfl (Q2f (kl:=[]) rfl rfl rfl rfl rfl Tryz.underlying167 Tryz.underlying3 rfl rfl rfl rfl hmb hH rfl ?_)
 simp only[AV.amU,AV.hasMp,AV.hasMpA,PV.hasMp,List.map_cons,List.map_nil,List.cons_append,List.nil_append,eq_self,if_true,Bool.false_eq_true,if_false,Bool.or_false]
 refine ALE.oneA rfl ?_
 simp only[go_sem]
 (repeat(refine ndI rfl ?_))
 refine ALE.one rfl (OpA.toW (Q1o rfl rfl ?_))
 simp only[go_sem]
 refine ALE.one rfl (Q2f (kl:=[1]) rfl rfl rfl rfl rfl Tryz.underlying167 Tryz.underlying3 rfl rfl rfl rfl hmb hH rfl ?_)
 simp only[AV.amU,AV.hasMp,AV.hasMpA,PV.hasMp,List.map_cons,List.map_nil,List.cons_append,List.nil_append,eq_self,if_true,Bool.false_eq_true,if_false,Bool.or_false]
 refine ALE.oneA rfl ?_
 simp only[go_sem]
 (repeat(refine ndI rfl ?_))
 refine ALE.one rfl (OpA.toW (Q1o rfl rfl ?_))
 simp only[go_sem]
 refine ALE.one rfl (Q2f (kl:=[1,2]) rfl rfl rfl rfl rfl Tryz.underlying167 Tryz.underlying3 rfl rfl rfl rfl hmb hH rfl ?_)
 simp only[AV.amU,AV.hasMp,AV.hasMpA,PV.hasMp,List.map_cons,List.map_nil,List.cons_append,List.nil_append,eq_self,if_true,Bool.false_eq_true,if_false,Bool.or_false]
 refine ALE.oneA rfl ?_
 simp only[go_sem]
 (repeat(refine ndI rfl ?_))
 refine ALE.one rfl (OpA.toW (Q1o rfl rfl ?_))
 simp only[go_sem]
 refine ALE.one rfl (Q2f (kl:=[1,2,3]) rfl rfl rfl rfl rfl Tryz.underlying167 Tryz.underlying3 rfl rfl rfl rfl hmb hH rfl ?_)
 simp only[AV.amU,AV.hasMp,AV.hasMpA,PV.hasMp,List.map_cons,List.map_nil,List.cons_append,List.nil_append,eq_self,if_true,Bool.false_eq_true,if_false,Bool.or_false]
 refine ALE.oneA rfl ?_
 simp only[go_sem]
 (repeat(refine ndI rfl ?_))
 refine ALE.one rfl (OpA.toW (Q1o rfl rfl ?_))
 simp only[go_sem]
 refine ALE.one rfl (Q2f (kl:=[1,2,3,4]) rfl rfl rfl rfl rfl Tryz.underlying167 Tryz.underlying3 rfl rfl rfl rfl hmb hH rfl ?_)
 simp only[AV.amU,AV.hasMp,AV.hasMpA,PV.hasMp,List.map_cons,List.map_nil,List.cons_append,List.nil_append,eq_self,if_true,Bool.false_eq_true,if_false,Bool.or_false]
 refine ALE.oneA rfl ?_
 simp only[go_sem]
 (repeat(refine ndI rfl ?_))
 refine ALE.one rfl (OpA.toW (Q1o rfl rfl ?_))
 simp only[go_sem]
 refine ALE.one rfl (Q2f (kl:=[1,2,3,4,5]) rfl rfl rfl rfl rfl Tryz.underlying167 Tryz.underlying3 rfl rfl rfl rfl hmb hH rfl ?_)
 simp only[AV.amU,AV.hasMp,AV.hasMpA,PV.hasMp,List.map_cons,List.map_nil,List.cons_append,List.nil_append,eq_self,if_true,Bool.false_eq_true,if_false,Bool.or_false]
 refine ALE.oneA rfl ?_
 simp only[go_sem]
 (repeat(refine ndI rfl ?_))
 refine ALE.oneA rfl ?_
 simp only[go_sem]
 (repeat(refine ndI rfl ?_))
 refine ALE.nil ?_
 refine hJ _ ?_
 clear hJ hJ' J
 refine AWE.seqI ?_
 intro J hJ hJ'
 refine AWE.of ?_
 (repeat(any_goals(first|((with_reducible refine Q0b ?_ ?_);rfl;intro K hK;simp only[go_sem,hxr];((repeat(refine ndI (by first|assumption) ?_));refine hK _ ?_;clear hK K))|(with_reducible first|(refine Q0a ?_;intro R hR)))))
 refine Q2n rfl fun K hK=>?_
 refine X6n (kl:=[1,2,3,4,5,6]) (k:=k) rfl rfl rfl Tryz.underlying167 Tryz.underlying3 rfl rfl hj fa ?_
 simp only[go_sem]
 refine hK _ ?_
 clear hK K
 (repeat(any_goals(first|((with_reducible refine Q0b ?_ ?_);rfl;intro K hK;simp only[go_sem];((repeat(refine ndI (by first|assumption) ?_));refine hK _ ?_;clear hK K))|(with_reducible first|(refine Q0c ?_;refine hR _ ?_;clear hR R)|(refine hJ _ ?_;clear hJ hJ' J)))))
 refine AWE.to (St.to.of_le (τ:=⟨[.any,.ptr 1 0,vb false,.ptr 22 0,.any,.fnb f [.ptr 22 0],vb true,.any,.any,.any,.any,.any,.any,.any,.any,.any,.any,.any,.any,.any,.any,.any,.any,.any,.any,.any,.any,.any,.any,.any,.any,.any,.any,.any,.any,.any,.any,.any,.any,.any,.any,.any,.any,.any,.any,.any,.any,.any,.any,.any,.any,.any,.any,.any,.any,.any,.any,.any,.any,.any,.any,.any,.any],[(1,c14 k d s t o a0 a1 a2 a3 v0 v1 v2 v3 x),(22,c14 k d s t o a0 a1 a2 a3 v0 v1 v2 v3 x)]⟩) (St.le_of (by simp[leT]) (by simp[leH,hget]))) ?_
 dsimp only
 refine AWE.seqI ?_
 intro J hJ hJ'
 refine AWE.of ?_
 (repeat(any_goals(fail)))
 ((with_reducible refine Q0w ?_ ?_ ?_ ?_))
 · kernel_rfl
 · kernel_rfl
 · simp[Q2a,Q5q,St.free,Q1z,AV.refsL,AV.refs,hxr]
 intro R hR
 (first|((first|((first|((with_reducible apply Q0x);rfl;rfl));(simp only[rdE,rdOf,go_sem];rfl);(intro τ hA hQ hN;((try simp only[Q1i,Op.operands,Call.operands,go_sem,List.mem_cons,List.not_mem_nil,forall_eq_or_imp,forall_eq,List.append_toArray,Option.toArray] at hA);(try simp only[go_sem,List.mem_cons,List.not_mem_nil,forall_eq_or_imp,forall_eq] at hQ hN);(first|(revert hA;intro hA));(first|(revert hQ;intro hQ));(first|(revert hN;intro hN));simp only[go_sem,hA,hQ,hN];(repeat(refine ndI (by first|assumption) ?_));(first|apply Q1b)))));(simp only[St.eff,setO,Q0u,go_sem])))
 (first|((first|((first|((with_reducible apply Q0x);rfl;rfl));(simp only[rdE,rdOf,go_sem];rfl);(intro τ hA hQ hN;((try simp only[Q1i,Op.operands,Call.operands,go_sem,List.mem_cons,List.not_mem_nil,forall_eq_or_imp,forall_eq,List.append_toArray,Option.toArray] at hA);(try simp only[go_sem,List.mem_cons,List.not_mem_nil,forall_eq_or_imp,forall_eq] at hQ hN);(first|(revert hA;intro hA));(first|(revert hQ;intro hQ));(first|(revert hN;intro hN));simp only[go_sem,hA,hQ,hN];(repeat(refine ndI (by first|assumption) ?_));(first|apply Q1b)))));(simp only[St.eff,setO,Q0u,go_sem])))
 (first|((first|((first|((with_reducible apply Q3c);rfl;rfl;rfl;rfl;rfl));(simp only[rdE,rdOf,go_sem];rfl);(intro τ hA hQ hN;((try simp only[Q1i,Op.operands,Call.operands,go_sem,List.mem_cons,List.not_mem_nil,forall_eq_or_imp,forall_eq,List.append_toArray,Option.toArray] at hA);(try simp only[go_sem,List.mem_cons,List.not_mem_nil,forall_eq_or_imp,forall_eq] at hQ hN);(first|(revert hA;intro hA));(first|(revert hQ;intro hQ));(first|(revert hN;intro hN));simp only[go_sem,hA,hQ,hN];(repeat(refine ndI (by first|assumption) ?_));(first|apply Q1b)))));(simp only[St.eff,setO,Q0u,go_sem])))
 have hgx:AV.inNL [] (c14 k d s t o a0 a1 a2 a3 v0 v1 v2 v3 x)=true:=by simp[AV.inNL,AV.inN,hx]
 ((with_reducible apply Q3i);rfl;rfl;rfl;rfl;rfl)
 · apply opF_callG hF
   · rfl
   · rfl
   · rfl
   · exact hfn
   · exact hname
   · exact hbody
   · rfl
   · exact hgx
   · exact hc'
   · rfl
 simp only[St.eff,setO,Q0u,go_sem]
 have tk:List.take 14 C'=C':=List.take_of_length_le (by omega)
 have sm2:=sm
 clear hF sm
 cases b
 · iterate 16 ((first|((first|((with_reducible apply Q3q);rfl;rfl;rfl;rfl)|((first|((with_reducible apply Q0x);rfl;rfl));(simp only[rdE,rdOf,go_sem,hl,tk,hr'];rfl);(intro τ hA hQ hN;((try simp only[Q1i,Op.operands,Call.operands,go_sem,hl,tk,hr',go_sem,List.mem_cons,List.not_mem_nil,forall_eq_or_imp,forall_eq,List.append_toArray,Option.toArray] at hA);(try simp only[go_sem,hl,tk,hr',List.mem_cons,List.not_mem_nil,forall_eq_or_imp,forall_eq] at hQ hN);(first|(revert hA;intro hA));(first|(revert hQ;intro hQ));(first|(revert hN;intro hN));simp only[go_sem,hl,tk,hr',go_sem,hA,hQ,hN];(repeat(refine ndI (by first|assumption) ?_));(first|apply Q1b)))));(simp only[St.eff,setO,Q0u,go_sem,hl,tk,hr']))))
   (with_reducible refine Q0z ?_ ?_)
   · apply Q2e
     · (repeat(first|exact Sims.nil|((apply Sims.cons);(focus(first|((apply Ef.sim_row);assumption)|exact Ef.sim_refl _)))))
     · kernel_rfl
   refine hR _ ?_
   refine hJ _ ?_
   refine AWE.of (Q0j ?_)
   (refine⟨by simp,⟨_,?_,AV.le_refl _⟩,Q0g (by simp[leH,hget])⟩;simp only[Tryz.results85,resL,ldA,Q0m,go_sem])
   rfl
 · iterate 13 ((first|((first|((first|((with_reducible apply Q0x);rfl;rfl)|((with_reducible apply Q3c);rfl;rfl;rfl;rfl;rfl));(simp only[rdE,rdOf,go_sem,hl,tk,hr'];rfl);(intro τ hA hQ hN;((try simp only[Q1i,Op.operands,Call.operands,go_sem,hl,tk,hr',go_sem,List.mem_cons,List.not_mem_nil,forall_eq_or_imp,forall_eq,List.append_toArray,Option.toArray] at hA);(try simp only[go_sem,hl,tk,hr',List.mem_cons,List.not_mem_nil,forall_eq_or_imp,forall_eq] at hQ hN);(first|(revert hA;intro hA));(first|(revert hQ;intro hQ));(first|(revert hN;intro hN));simp only[go_sem,hl,tk,hr',go_sem,hA,hQ,hN];(repeat(refine ndI (by first|assumption) ?_));(first|apply Q1b)))));(simp only[St.eff,setO,Q0u,go_sem,hl,tk,hr']))))
   ((with_reducible apply Q3i);rfl;rfl;rfl;rfl;rfl)
   · apply Q0y sm2
     · rfl
     · rfl
     · rfl
     · rfl
     · exact Tryz.func91
     · kernel_rfl
     · rfl
     · simp only[go_sem]
     · simp[AV.inNL,AV.inN,hc']
   simp only[St.eff,setO,Q0u,go_sem]
   iterate 2 ((first|((first|((first|((with_reducible apply Q0x);rfl;rfl));(simp only[rdE,rdOf,go_sem,hl,tk,hr'];rfl);(intro τ hA hQ hN;((try simp only[Q1i,Op.operands,Call.operands,go_sem,hl,tk,hr',go_sem,List.mem_cons,List.not_mem_nil,forall_eq_or_imp,forall_eq,List.append_toArray,Option.toArray] at hA);(try simp only[go_sem,hl,tk,hr',List.mem_cons,List.not_mem_nil,forall_eq_or_imp,forall_eq] at hQ hN);(first|(revert hA;intro hA));(first|(revert hQ;intro hQ));(first|(revert hN;intro hN));simp only[go_sem,hl,tk,hr',go_sem,hA,hQ,hN];(repeat(refine ndI (by first|assumption) ?_));(first|apply Q1b)))));(simp only[St.eff,setO,Q0u,go_sem,hl,tk,hr']))))
   (with_reducible refine Q0z ?_ ?_)
   · apply Q2e
     · (repeat(first|exact Sims.nil|((apply Sims.cons);(focus(first|((apply Ef.sim_row);assumption)|((apply Ef.sim_val);exact fun d=>hr' d)|exact Ef.sim_refl _)))))
     · kernel_rfl
   refine hR _ ?_
   refine hJ _ ?_
   refine AWE.of (Q0j ?_)
   (refine⟨by simp,⟨_,?_,AV.le_refl _⟩,Q0g (by simp[leH,hget])⟩;simp only[Tryz.results85,resL,ldA,Q0m,go_sem])
theorem Z0a(k d s t o a0 a1 a2 a3 v0 v1 v2 v3:Int)(x:AV)(h1:decide (d<0)=false)(h2:decide (d≥6)=false)(h3:(s==0)=false)(hj:Q5c k [1,2,3,4,5,6] 0=none)(hx:AV.inN [] x=true)(hxr:∀r,AV.refs r x=false)(hxm:AV.hasMp x=false) :
 Fn Tryz.prog 85 [.agg (c14 k d s t o a0 a1 a2 a3 v0 v1 v2 v3 x)] [] (vb false) []:=by
 refine Fn.known fun E0=>?_
 (refine Q4r Tryz.func85 rfl (by rfl) ?_;simp only[Tryz.ntmps85,List.length_cons,List.length_nil,Nat.reduceAdd,Nat.reduceSub,List.replicate,List.cons_append,List.nil_append])
 refine AWE.seqI ?_
 intro J hJ hJ'
 refine AWE.of ?_
 (repeat(any_goals(first|((with_reducible refine Q0b ?_ ?_);rfl;intro K hK;simp only[go_sem,hxr];((repeat(refine ndI (by first|assumption) ?_));refine hK _ ?_;clear hK K))|(with_reducible first|(refine Q0c ?_;refine hR _ ?_;clear hR R)|(refine Q0a ?_;intro R hR)|(refine hJ _ ?_;clear hJ hJ' J)))))
 refine AWE.seqI ?_
 intro J hJ hJ'
 refine AWE.of ?_
 (have W:=ndI h1 (ndI h2 h3);(repeat(any_goals(first|((with_reducible refine Q0b ?_ ?_);rfl;intro K hK;simp only[go_sem,W];((repeat(refine ndI (by first|assumption) ?_));refine hK _ ?_;clear hK K))|(with_reducible first|(refine Q0c ?_;refine hR _ ?_;clear hR R)|((first|refine Q0e ?_);intro J hJ hJ')|(refine Q0a ?_;intro R hR)|(refine hJ _ ?_;clear hJ hJ' J)|refine Q0h ?_)|((with_reducible apply Q0p);rfl;rfl;rfl;all_goals(intro hb;first|(cases hb;done)|((try simp only[Bool.not_true,Bool.not_false] at hb);(first|((with_reducible intro K hK);simp only[go_sem,W];((repeat(refine ndI (by first|assumption) ?_));refine hK _ ?_;clear hK K))))))|((with_reducible apply Q0d);rfl;rfl;all_goals(intro hc;first|(cases hc;done)|(try simp only at hc)))))))
 refine AWE.seqI ?_
 intro J hJ hJ'
 refine AWE.of ?_
 (repeat(any_goals(first|((with_reducible refine Q0b ?_ ?_);rfl;intro K hK;simp only[go_sem,hxr];((repeat(refine ndI (by first|assumption) ?_));refine hK _ ?_;clear hK K))|(with_reducible first|(refine Q0c ?_;refine hR _ ?_;clear hR R)|(refine Q0a ?_;intro R hR)|(refine hJ _ ?_;clear hJ hJ' J)))))
 refine AWE.seqI ?_
 intro J hJ hJ'
 refine AWE.to (St.to.of_le (τ:=⟨[.any,.ptr 1 0,vb false,.ptr 22 0,.any,.any,.any,.any,.any,.any,.any,.any,.any,.any,.any,.any,.any,.any,.any,.any,.any,.any,.any,.any,.any,.any,.any,.any,.any,.any,.any,.any,.any,.any,.any,.any,.any,.any,.any,.any,.any,.any,.any,.any,.any,.any,.any,.any,.any,.any,.any,.any,.any,.any,.any,.any,.any,.any,.any,.any,.any,.any,.any],[(1,c14 k d s t o a0 a1 a2 a3 v0 v1 v2 v3 x),(22,c14 k d s t o a0 a1 a2 a3 v0 v1 v2 v3 x)]⟩) (St.le_of (by simp[leT]) (by simp[leH,hget]))) ?_
 dsimp only
 refine AWE.regionL ?_
 refine ALE.one rfl (Q8d rfl fun mb hmb=>?_)
 simp only[go_sem]
 have hH:Q7g [(1,c14 k d s t o a0 a1 a2 a3 v0 v1 v2 v3 x),(22,c14 k d s t o a0 a1 a2 a3 v0 v1 v2 v3 x)]=false:=by simp[Q7g,AV.hasMpA,AV.hasMp,PV.hasMp,hxm]
 refine ALE.oneA rfl ?_
 simp only[go_sem]
 (repeat(refine ndI rfl ?_))
 refine ALE.one rfl (OpA.toW (Q1o rfl rfl ?_))
 simp only[go_sem]
 refine ALE.one rfl (Q2f (kl:=[]) rfl rfl rfl rfl rfl Tryz.underlying167 Tryz.underlying3 rfl rfl rfl rfl hmb hH rfl ?_)
 simp only[AV.amU,AV.hasMp,AV.hasMpA,PV.hasMp,List.map_cons,List.map_nil,List.cons_append,List.nil_append,eq_self,if_true,Bool.false_eq_true,if_false,Bool.or_false]
 refine ALE.oneA rfl ?_
 simp only[go_sem]
 (repeat(refine ndI rfl ?_))
 refine ALE.one rfl (OpA.toW (Q1o rfl rfl ?_))
 simp only[go_sem]
 refine ALE.one rfl (Q2f (kl:=[1]) rfl rfl rfl rfl rfl Tryz.underlying167 Tryz.underlying3 rfl rfl rfl rfl hmb hH rfl ?_)
 simp only[AV.amU,AV.hasMp,AV.hasMpA,PV.hasMp,List.map_cons,List.map_nil,List.cons_append,List.nil_append,eq_self,if_true,Bool.false_eq_true,if_false,Bool.or_false]
 refine ALE.oneA rfl ?_
 simp only[go_sem]
 (repeat(refine ndI rfl ?_))
 refine ALE.one rfl (OpA.toW (Q1o rfl rfl ?_))
 simp only[go_sem]
 refine ALE.one rfl (Q2f (kl:=[1,2]) rfl rfl rfl rfl rfl Tryz.underlying167 Tryz.underlying3 rfl rfl rfl rfl hmb hH rfl ?_)
 simp only[AV.amU,AV.hasMp,AV.hasMpA,PV.hasMp,List.map_cons,List.map_nil,List.cons_append,List.nil_append,eq_self,if_true,Bool.false_eq_true,if_false,Bool.or_false]
 refine ALE.oneA rfl ?_
 simp only[go_sem]
 (repeat(refine ndI rfl ?_))
 refine ALE.one rfl (OpA.toW (Q1o rfl rfl ?_))
 simp only[go_sem]
 refine ALE.one rfl (Q2f (kl:=[1,2,3]) rfl rfl rfl rfl rfl Tryz.underlying167 Tryz.underlying3 rfl rfl rfl rfl hmb hH rfl ?_)
 simp only[AV.amU,AV.hasMp,AV.hasMpA,PV.hasMp,List.map_cons,List.map_nil,List.cons_append,List.nil_append,eq_self,if_true,Bool.false_eq_true,if_false,Bool.or_false]
 refine ALE.oneA rfl ?_
 simp only[go_sem]
 (repeat(refine ndI rfl ?_))
 refine ALE.one rfl (OpA.toW (Q1o rfl rfl ?_))
 simp only[go_sem]
 refine ALE.one rfl (Q2f (kl:=[1,2,3,4]) rfl rfl rfl rfl rfl Tryz.underlying167 Tryz.underlying3 rfl rfl rfl rfl hmb hH rfl ?_)
 simp only[AV.amU,AV.hasMp,AV.hasMpA,PV.hasMp,List.map_cons,List.map_nil,List.cons_append,List.nil_append,eq_self,if_true,Bool.false_eq_true,if_false,Bool.or_false]
 refine ALE.oneA rfl ?_
 simp only[go_sem]
 (repeat(refine ndI rfl ?_))
 refine ALE.one rfl (OpA.toW (Q1o rfl rfl ?_))
 simp only[go_sem]
 refine ALE.one rfl (Q2f (kl:=[1,2,3,4,5]) rfl rfl rfl rfl rfl Tryz.underlying167 Tryz.underlying3 rfl rfl rfl rfl hmb hH rfl ?_)
 simp only[AV.amU,AV.hasMp,AV.hasMpA,PV.hasMp,List.map_cons,List.map_nil,List.cons_append,List.nil_append,eq_self,if_true,Bool.false_eq_true,if_false,Bool.or_false]
 refine ALE.oneA rfl ?_
 simp only[go_sem]
 (repeat(refine ndI rfl ?_))
 refine ALE.oneA rfl ?_
 simp only[go_sem]
 (repeat(refine ndI rfl ?_))
 refine ALE.nil ?_
 refine hJ _ ?_
 clear hJ hJ' J
 refine AWE.seqI ?_
 intro J hJ hJ'
 refine AWE.of ?_
 (repeat(any_goals(first|((with_reducible refine Q0b ?_ ?_);rfl;intro K hK;simp only[go_sem,hxr];((repeat(refine ndI (by first|assumption) ?_));refine hK _ ?_;clear hK K))|(with_reducible first|(refine Q0a ?_;intro R hR)))))
 refine Q2n rfl fun K hK=>?_
 refine X6m (kl:=[1,2,3,4,5,6]) (k:=k) (z:=.nilFunc) rfl rfl rfl Tryz.underlying167 Tryz.underlying3 (by kernel_rfl) rfl rfl rfl hj ?_
 simp only[go_sem]
 refine hK _ ?_
 clear hK K
 (repeat(any_goals(first|((with_reducible refine Q0b ?_ ?_);rfl;intro K hK;simp only[go_sem];((repeat(refine ndI (by first|assumption) ?_));refine hK _ ?_;clear hK K))|(with_reducible first|(refine Q0c ?_;refine hR _ ?_;clear hR R)|(refine hJ _ ?_;clear hJ hJ' J)))))
 refine AWE.to (St.to.of_le (τ:=⟨[.any,.ptr 1 0,vb false,.ptr 22 0,.any,.any,vb false,.any,.any,.any,.any,.any,.any,.any,.any,.any,.any,.any,.any,.any,.any,.any,.any,.any,.any,.any,.any,.any,.any,.any,.any,.any,.any,.any,.any,.any,.any,.any,.any,.any,.any,.any,.any,.any,.any,.any,.any,.any,.any,.any,.any,.any,.any,.any,.any,.any,.any,.any,.any,.any,.any,.any,.any],[]⟩) (St.le_of (by simp[leT]) (by simp[leH]))) ?_
 dsimp only
 refine AWE.seqI ?_
 intro J hJ hJ'
 refine AWE.of ?_
 (repeat(any_goals(fail)))
 ((with_reducible refine Q0w ?_ ?_ ?_ ?_))
 · kernel_rfl
 · kernel_rfl
 · kernel_rfl
 intro R hR
 iterate 20 ((first|((first|((with_reducible apply Q3q);rfl;rfl;rfl;rfl)|((first|((with_reducible apply Q0x);rfl;rfl));(simp only[rdE,rdOf,go_sem];rfl);(intro τ hA hQ hN;((try simp only[Q1i,Op.operands,Call.operands,go_sem,List.mem_cons,List.not_mem_nil,forall_eq_or_imp,forall_eq,List.append_toArray,Option.toArray] at hA);(try simp only[go_sem,List.mem_cons,List.not_mem_nil,forall_eq_or_imp,forall_eq] at hQ hN);(first|(revert hA;intro hA));(first|(revert hQ;intro hQ));(first|(revert hN;intro hN));simp only[go_sem,hA,hQ,hN];(repeat(refine ndI (by first|assumption) ?_));(first|apply Q1b)))));(simp only[St.eff,setO,Q0u,go_sem]))))
 (with_reducible refine Q0z ?_ ?_)
 · kernel_rfl
 refine hR _ ?_
 refine hJ _ ?_
 refine AWE.of (Q0j ?_)
 (refine⟨by simp,⟨_,?_,AV.le_refl _⟩,Q0g (by simp[leH,hget])⟩;simp only[Tryz.results85,resL,ldA,Q0m,go_sem])
end
section
open Go.RowKit
attribute [-go_sem] IntKind.bits
set_option maxRecDepth 20000
set_option maxHeartbeats 2000000
def Q7f(W:List UInt64):Nat:=(W.getD 0 0).toNat+18446744073709551616*((W.getD 1 0).toNat+18446744073709551616*((W.getD 2 0).toNat+18446744073709551616*(W.getD 3 0).toNat))
theorem lanesN_lt(W:List UInt64):Q7f W<WW:=by
 have h0:=(W.getD 0 0).toNat_lt
 have h1:=(W.getD 1 0).toNat_lt
 have h2:=(W.getD 2 0).toNat_lt
 have h3:=(W.getD 3 0).toNat_lt
 unfold Q7f
 show _<115792089237316195423570985008687907853269984665640564039457584007913129639936
 omega
theorem X4u{W:List UInt64}(h:W.length=4):wN (Q7f W)=lnA W:=by
 obtain⟨a,b,c,d,rfl⟩:∃a b c d,W=[a,b,c,d]:=by
  match W,h with
  |[a,b,c,d],_=>exact⟨a,b,c,d,rfl⟩
 obtain⟨e0,e1,e2,e3⟩:=Q4p (n:=Q7f [a,b,c,d]) (s0:=a.toNat) (s1:=b.toNat) (s2:=c.toNat) (s3:=d.toNat) rfl a.toNat_lt b.toNat_lt c.toNat_lt d.toNat_lt
 show w4 (l0 (Q7f [a,b,c,d])) (l1 (Q7f [a,b,c,d])) (l2 (Q7f [a,b,c,d])) (l3 (Q7f [a,b,c,d]))=_
 rw[e0,e1,e2,e3]
 rfl
def dgN(l:List Nat):Nat:=Q7f (digW l)
theorem dgN_lt(l:List Nat):dgN l<WW:=lanesN_lt _
theorem adig_fn(ex:Bool)(l:List Nat)(hl:l.length≤1000)(hb:∀b∈l,b<256):Fn Tryz.prog 159 [bsl ex l] [] (wN (dgN l)) []:=by
 have h:=dig_fn ex l hl hb
 rw[←X4u (X9a l)] at h
 exact h
theorem rdigN_fn(ex:Bool)(l:List Nat)(hl:l.length≤1000)(hb:∀b∈l,b<256):Fn Tryz.prog 112 [bsl ex l] [] (wN (dgN l)) []:=by
 have h:=rdig_fn ex l hl hb
 rw[←X4u (X9a l)] at h
 exact h
def Ev.ok(e:Ev):Prop:=e.key<WW∧e.val<WW∧e.data.length≤1000∧(∀b∈e.data,b<256)∧U e.self∧U e.to
def X3n(e:Ev):Bool:=decide (e.to=0∧e.key=0∧e.val=0∧e.data=[])
def Q2l(e:Ev):Bool:=
 !(decide (e.dep<0)||decide (e.dep≥6)||(e.self==0)) &&
 (if e.kind=1 then decide (e.data.length=64∧e.val=dgN e.data)&&decide (e.to=0∧e.op=0∧e.key=0)
  else if e.kind=2∨e.kind=3 then decide (e.to=0∧e.op=0∧e.val=0∧e.data=[])
  else if e.kind=4 then(Q6d e.op&&decide (e.data.length≤1))&&decide (e.key=0)
  else if e.kind=5 then Q7n e.op&&X3n e
  else if e.kind=6 then X3n e
  else false)
theorem le_c14{k d s t o a0 a1 a2 a3 v0 v1 v2 v3:Int}{x y:AV}(h:x.le y):(AV.agg (c14 k d s t o a0 a1 a2 a3 v0 v1 v2 v3 x)).le (.agg (c14 k d s t o a0 a1 a2 a3 v0 v1 v2 v3 y)):=
 AV.le_agg ⟨AV.le_refl _,AV.le_refl _,AV.le_refl _,AV.le_refl _,AV.le_refl _,AV.le_refl _,AV.le_refl _,AV.le_refl _,AV.le_refl _,AV.le_refl _,AV.le_refl _,AV.le_refl _,AV.le_refl _,h,trivial⟩
theorem Q8u(k d s t o a0 a1 a2 a3 v0 v1 v2 v3:Int)(x:List Nat)(hx:x.length≤1000)(b4 b5 b6 b7:Bool)(h4:(t==0)=b4)(h5:(o==0)=b5)(h6:(a0==0&&(a1==0&&(a2==0&&a3==0)))=b6)(h7:(v0==0&&(v1==0&&(v2==0&&v3==0)))=b7) :
 Fn Tryz.prog 91 [.agg (c14 k d s t o a0 a1 a2 a3 v0 v1 v2 v3 (bsl false x)),.agg (c14 k d s 0 0 0 0 0 0 0 0 0 0 nilA)] [] (vb (b4&&b5&&b6&&b7&&decide (x=[]))) []:=by
 have h:=same_fnE k d s t o a0 a1 a2 a3 v0 v1 v2 v3 k d s 0 0 0 0 0 0 0 0 0 0 false x [] true true true b4 b5 b6 b7 (decide (x=[])) (by simp) (by simp) (by simp) h4 h5 h6 h7 (beq_fn false false x [] (by omega))
 simp only[Bool.true_and] at h
 exact h.args ⟨AV.le_refl _,le_c14 (AV.le_nil false 1),trivial⟩
theorem X8n(k d s t o a0 a1 a2 a3 v0 v1 v2 v3:Int)(b4 b5 b6 b7:Bool)(h4:(t==0)=b4)(h5:(o==0)=b5)(h6:(a0==0&&(a1==0&&(a2==0&&a3==0)))=b6)(h7:(v0==0&&(v1==0&&(v2==0&&v3==0)))=b7) :
 Fn Tryz.prog 91 [.agg (c14 k d s t o a0 a1 a2 a3 v0 v1 v2 v3 nilA),.agg (c14 k d s 0 0 0 0 0 0 0 0 0 0 nilA)] [] (vb (b4&&b5&&b6&&b7)) []:=by
 have h:=Q8u k d s t o a0 a1 a2 a3 v0 v1 v2 v3 [] (by simp) b4 b5 b6 b7 h4 h5 h6 h7
 rw[decide_eq_true rfl,Bool.and_true] at h
 exact h.args ⟨le_c14 (AV.le_nil false 1),AV.le_refl _,trivial⟩
theorem z4{x:Nat}(hx:x<WW):(l0 x==0&&(l1 x==0&&(l2 x==0&&l3 x==0)))=decide (x=0):=X5w (y:=0) hx (by decide)
theorem nz(x:Nat):((x:Int)==0)=decide (x=0):=by rw[Bool.eq_iff_iff];simp
theorem bz(x:Int):(x==0)=decide (x=0):=by rw[Bool.eq_iff_iff];simp
theorem c14_no(k d s t o a0 a1 a2 a3 v0 v1 v2 v3:Int){x:AV}(h:AV.inN [] x=true):AV.inNL [] (c14 k d s t o a0 a1 a2 a3 v0 v1 v2 v3 x)=true:=by simp[AV.inNL,AV.inN,h]
theorem X9g(k d s t o a0 a1 a2 a3 v0 v1 v2 v3:Int){x:AV}(h:∀r,AV.refs r x=false)(r:Nat):AV.refsL r (c14 k d s t o a0 a1 a2 a3 v0 v1 v2 v3 x)=false:=by simp[AV.refsL,AV.refs,h]
theorem bsl_hm(ex:Bool)(l:List Nat):AV.hasMp (bsl ex l)=false:=by
 show PV.hasMpL (l.flatMap bpv)=false
 exact X6v bpv (fun _=>rfl) l
theorem right_fn(e:Ev)(he:e.ok):Fn Tryz.prog 85 [evA e] [] (vb (Q2l e)) []:=by
 obtain⟨hk,hv,hl,hb,hs,ht⟩:=he
 by_cases hg:(decide (e.dep<0)||decide (e.dep≥6)||(e.self==0))=true
 · have h:=right_out e.kind e.dep e.self e.to (e.op:Int) (l0 e.key) (l1 e.key) (l2 e.key) (l3 e.key) (l0 e.val) (l1 e.val) (l2 e.val) (l3 e.val) (bsl false e.data) _ _ _ rfl rfl rfl hg (fun _=>rfl)
   rw[show Q2l e=false by unfold Q2l;rw[hg];rfl]
   exact h
 · have hg':(decide (e.dep<0)||decide (e.dep≥6)||(e.self==0))=false:=by simpa using hg
   have hg2:=hg'
   rw[Bool.or_eq_false_iff,Bool.or_eq_false_iff] at hg2
   obtain⟨⟨g1,g2⟩,g3⟩:=hg2
   have er:∀r,Q2l e=r↔(if e.kind=1 then decide (e.data.length=64∧e.val=dgN e.data)&&decide (e.to=0∧e.op=0∧e.key=0)
  else if e.kind=2∨e.kind=3 then decide (e.to=0∧e.op=0∧e.val=0∧e.data=[])
  else if e.kind=4 then(Q6d e.op&&decide (e.data.length≤1))&&decide (e.key=0)
  else if e.kind=5 then Q7n e.op&&X3n e
  else if e.kind=6 then X3n e
  else false)=r:=fun r=>by unfold Q2l;rw[hg'];simp
   have N:=fun (k d s t o a0 a1 a2 a3 v0 v1 v2 v3:Int)=>c14_no k d s t o a0 a1 a2 a3 v0 v1 v2 v3 (x:=nilA) rfl
   have M:=fun (k d s t o a0 a1 a2 a3 v0 v1 v2 v3:Int)=>c14_no k d s t o a0 a1 a2 a3 v0 v1 v2 v3 (x:=bsl false e.data) rfl
   have RN:=fun (k d s t o a0 a1 a2 a3 v0 v1 v2 v3:Int)=>X9g k d s t o a0 a1 a2 a3 v0 v1 v2 v3 (x:=nilA) fun _=>rfl
   have RM:=fun (k d s t o a0 a1 a2 a3 v0 v1 v2 v3:Int)=>X9g k d s t o a0 a1 a2 a3 v0 v1 v2 v3 (x:=bsl false e.data) fun _=>rfl
   have HM:=bsl_hm false e.data
   by_cases k1:e.kind=1
   · have sm:=X8n e.kind e.dep e.self e.to (e.op:Int) (l0 e.key) (l1 e.key) (l2 e.key) (l3 e.key) 0 0 0 0 _ _ _ _ (bz _) (nz _) (z4 hk) rfl
     have hj:Q5c e.kind [1,2,3,4,5,6] 0=some 0:=by rw[k1];rfl
     have hr:Q2l e=(decide (e.data.length=64∧e.val=dgN e.data)&&(decide (e.to=0)&&decide (e.op=0)&&decide (e.key=0)&&true)):=by
      rw[er,if_pos k1];congr 1;simp[Bool.and_assoc]
     rw[hr]
     by_cases h64:e.data.length=64
     · have hF:=hash_yes e.kind e.dep e.self e.to (e.op:Int) (l0 e.key) (l1 e.key) (l2 e.key) (l3 e.key) (l0 e.val) (l1 e.val) (l2 e.val) (l3 e.val) e.data _ _ _ _ _ h64 (adig_fn false e.data hl hb) rfl
       rw[X5w hv (dgN_lt _)] at hF
       rw[show decide (e.data.length=64∧e.val=dgN e.data)=decide (e.val=dgN e.data) by simp[h64]]
       exact Q3k _ _ _ _ _ _ _ _ _ _ _ _ _ _ _ _ _ g1 g2 g3 hj rfl Tryz.func135 (by kernel_rfl) rfl rfl (fun _=>rfl) HM (N _ _ _ _ _ _ _ _ _ _ _ _ _) rfl (RN _ _ _ _ _ _ _ _ _ _ _ _ _) hF sm
     · have hF:=hash_no e.kind e.dep e.self e.to (e.op:Int) (l0 e.key) (l1 e.key) (l2 e.key) (l3 e.key) (l0 e.val) (l1 e.val) (l2 e.val) (l3 e.val) e.data h64
       rw[show decide (e.data.length=64∧e.val=dgN e.data)=false by simp[h64]]
       exact Q3k _ _ _ _ _ _ _ _ _ _ _ _ _ _ _ _ _ g1 g2 g3 hj rfl Tryz.func135 (by kernel_rfl) rfl rfl (fun _=>rfl) HM (N _ _ _ _ _ _ _ _ _ _ _ _ _) rfl (RN _ _ _ _ _ _ _ _ _ _ _ _ _) hF sm
   by_cases k2:e.kind=2∨e.kind=3
   · have sm:=Q8u e.kind e.dep e.self e.to (e.op:Int) 0 0 0 0 (l0 e.val) (l1 e.val) (l2 e.val) (l3 e.val) e.data hl _ _ _ _ (bz _) (nz _) rfl (z4 hv)
     have hr:Q2l e=(true&&(decide (e.to=0)&&decide (e.op=0)&&true&&decide (e.val=0)&&decide (e.data=[]))):=by
      rw[er,if_neg k1,if_pos k2];simp[Bool.and_assoc]
     rw[hr]
     have hF:=slot_fn e.kind e.dep e.self e.to (e.op:Int) (l0 e.key) (l1 e.key) (l2 e.key) (l3 e.key) (l0 e.val) (l1 e.val) (l2 e.val) (l3 e.val) (bsl false e.data) rfl
     rcases k2 with k2|k2
     · have hj:Q5c e.kind [1,2,3,4,5,6] 0=some 1:=by rw[k2];rfl
       exact Q3k _ _ _ _ _ _ _ _ _ _ _ _ _ _ _ _ _ g1 g2 g3 hj rfl Tryz.func136 (by kernel_rfl) rfl rfl (fun _=>rfl) HM (M _ _ _ _ _ _ _ _ _ _ _ _ _) rfl (RM _ _ _ _ _ _ _ _ _ _ _ _ _) hF sm
     · have hj:Q5c e.kind [1,2,3,4,5,6] 0=some 2:=by rw[k2];rfl
       exact Q3k _ _ _ _ _ _ _ _ _ _ _ _ _ _ _ _ _ g1 g2 g3 hj rfl Tryz.func136 (by kernel_rfl) rfl rfl (fun _=>rfl) HM (M _ _ _ _ _ _ _ _ _ _ _ _ _) rfl (RM _ _ _ _ _ _ _ _ _ _ _ _ _) hF sm
   by_cases k4:e.kind=4
   · have sm:=X8n e.kind e.dep e.self 0 0 (l0 e.key) (l1 e.key) (l2 e.key) (l3 e.key) 0 0 0 0 _ _ _ _ rfl rfl (z4 hk) rfl
     have hj:Q5c e.kind [1,2,3,4,5,6] 0=some 3:=by rw[k4];rfl
     have hr:Q2l e=((Q6d e.op&&decide ((e.data.length:Int)≤1))&&(true&&true&&decide (e.key=0)&&true)):=by
      rw[er,if_neg k1,if_neg k2,if_pos k4]
      rw[show decide ((e.data.length:Int)≤1)=decide (e.data.length≤1) by rw[decide_eq_decide];omega]
      simp
     rw[hr]
     have hF:=acall_fn e.kind e.dep e.self e.to (l0 e.key) (l1 e.key) (l2 e.key) (l3 e.key) (l0 e.val) (l1 e.val) (l2 e.val) (l3 e.val) e.op e.data _ _ rfl rfl
     exact Q3k _ _ _ _ _ _ _ _ _ _ _ _ _ _ _ _ _ g1 g2 g3 hj rfl Tryz.func137 (by kernel_rfl) rfl rfl (fun _=>rfl) HM (N _ _ _ _ _ _ _ _ _ _ _ _ _) rfl (RN _ _ _ _ _ _ _ _ _ _ _ _ _) hF sm
   by_cases k5:e.kind=5
   · have sm:=Q8u e.kind e.dep e.self e.to 0 (l0 e.key) (l1 e.key) (l2 e.key) (l3 e.key) (l0 e.val) (l1 e.val) (l2 e.val) (l3 e.val) e.data hl _ _ _ _ (bz _) rfl (z4 hk) (z4 hv)
     have hj:Q5c e.kind [1,2,3,4,5,6] 0=some 4:=by rw[k5];rfl
     have hr:Q2l e=(Q7n e.op&&(decide (e.to=0)&&true&&decide (e.key=0)&&decide (e.val=0)&&decide (e.data=[]))):=by
      rw[er,if_neg k1,if_neg k2,if_neg k4,if_pos k5];unfold X3n;simp[Bool.and_assoc]
     rw[hr]
     have hF:=aop_fn e.kind e.dep e.self e.to (l0 e.key) (l1 e.key) (l2 e.key) (l3 e.key) (l0 e.val) (l1 e.val) (l2 e.val) (l3 e.val) e.op (bsl false e.data)
     exact Q3k _ _ _ _ _ _ _ _ _ _ _ _ _ _ _ _ _ g1 g2 g3 hj rfl Tryz.func138 (by kernel_rfl) rfl rfl (fun _=>rfl) HM (M _ _ _ _ _ _ _ _ _ _ _ _ _) rfl (RM _ _ _ _ _ _ _ _ _ _ _ _ _) hF sm
   by_cases k6:e.kind=6
   · have sm:=Q8u e.kind e.dep e.self e.to 0 (l0 e.key) (l1 e.key) (l2 e.key) (l3 e.key) (l0 e.val) (l1 e.val) (l2 e.val) (l3 e.val) e.data hl _ _ _ _ (bz _) rfl (z4 hk) (z4 hv)
     have hj:Q5c e.kind [1,2,3,4,5,6] 0=some 5:=by rw[k6];rfl
     have hr:Q2l e=(true&&(decide (e.to=0)&&true&&decide (e.key=0)&&decide (e.val=0)&&decide (e.data=[]))):=by
      rw[er,if_neg k1,if_neg k2,if_neg k4,if_neg k5,if_pos k6];unfold X3n;simp[Bool.and_assoc]
     rw[hr]
     have hF:=gas_fn e.kind e.dep e.self e.to (e.op:Int) (l0 e.key) (l1 e.key) (l2 e.key) (l3 e.key) (l0 e.val) (l1 e.val) (l2 e.val) (l3 e.val) (bsl false e.data)
     exact Q3k _ _ _ _ _ _ _ _ _ _ _ _ _ _ _ _ _ g1 g2 g3 hj rfl Tryz.func139 (by kernel_rfl) rfl rfl (fun _=>rfl) HM (M _ _ _ _ _ _ _ _ _ _ _ _ _) rfl (RM _ _ _ _ _ _ _ _ _ _ _ _ _) hF sm
   · have hj:Q5c e.kind [1,2,3,4,5,6] 0=none:=by
      simp only[Q5c]
      rw[if_neg k1,if_neg (by omega),if_neg (by omega),if_neg k4,if_neg k5,if_neg k6]
     rw[(er false).2 (by rw[if_neg k1,if_neg k2,if_neg k4,if_neg k5,if_neg k6])]
     exact Z0a _ _ _ _ _ _ _ _ _ _ _ _ _ _ g1 g2 g3 hj rfl (fun _=>rfl) HM
end
section
open Go.RowKit
open Nat (reduceBEq)
attribute [-go_sem] IntKind.bits
set_option maxRecDepth 20000
set_option maxHeartbeats 2000000
def idxF{α : Type}(p:α→Bool):List α→Nat→Int
 |[],_=>-1
 |y::l,i=>if p y=true then(i:Int) else idxF p l (i+1)
theorem Q9s{α : Type}(p:α→Bool):∀(l:List α) (i:Nat),decide (idxF p l i≥0)=l.any p
 |[],i=>by simp[idxF]
 |y::l,i=>by
  unfold idxF
  cases h:p y
  · rw[if_neg (by simp),Q9s p l (i+1)]
    simp[h]
  · rw[if_pos rfl]
    simp[h]
def Ev.pv(e:Ev):List PV:=[.v (.int .i64 e.kind),.v (.int .i64 e.dep),.v (.int .u64 e.self),.v (.int .u64 e.to),.v (.int .u8 (e.op:Int)),.v (.int .u64 (l0 e.key)),.v (.int .u64 (l1 e.key)),.v (.int .u64 (l2 e.key)),.v (.int .u64 (l3 e.key)),.v (.int .u64 (l0 e.val)),.v (.int .u64 (l1 e.val)),.v (.int .u64 (l2 e.val)),.v (.int .u64 (l3 e.val)),.sl false 1 e.data.length (e.data.flatMap bpv)]
theorem Q9v(e:Ev):e.pv.length=14:=rfl
abbrev evs(ex:Bool)(l:List Ev):AV:=.c (.sl ex 14 l.length (l.flatMap Ev.pv))
theorem Q8k{l:List Ev}{i:Nat}{e:Ev}(h:l[i]? = some e):((l.flatMap Ev.pv).drop (i*14)).take 14=[.v (.int .i64 e.kind),.v (.int .i64 e.dep),.v (.int .u64 e.self),.v (.int .u64 e.to),.v (.int .u8 (e.op:Int)),.v (.int .u64 (l0 e.key)),.v (.int .u64 (l1 e.key)),.v (.int .u64 (l2 e.key)),.v (.int .u64 (l3 e.key)),.v (.int .u64 (l0 e.val)),.v (.int .u64 (l1 e.val)),.v (.int .u64 (l2 e.val)),.v (.int .u64 (l3 e.val)),.sl false 1 e.data.length (e.data.flatMap bpv)]:=Q4m (f:=Ev.pv) Q9v h
theorem idxE_fn (ex:Bool) (l:List Ev) (p:Ev→Bool) {g:FuncId} {fn:Func} {caps:List AV} (hl:l.length≤1000000) (hgf:Tryz.prog.funcs[g]? = some fn) (hgn:(fn.name == "runtime.NumGoroutine")=false) (hgb:fn.body.isNone=false) (hcap:AV.inNL [] caps=true) (hp:∀x∈l,Fn Tryz.prog g (evA x::caps) [] (vb (p x)) []) :
 Fn Tryz.prog 134 [.c (.sl ex 14 l.length (l.flatMap Ev.pv)),.fn g caps] [] (vi .i64 (idxF p l 0)) []:=by
 obtain⟨r,hr⟩:∃r,idxF p l 0=r:=⟨_,rfl⟩
 rw[hr]
 (refine Q0t Tryz.func134 rfl (by rfl) ?_;simp only[Tryz.ntmps134,List.length_cons,List.length_nil,Nat.reduceAdd,Nat.reduceSub,List.replicate,List.cons_append,List.nil_append])
 (repeat(any_goals(first|((with_reducible refine Q0b ?_ ?_);rfl;intro K hK;simp only[go_sem];((repeat(refine ndI (by first|assumption) ?_));refine hK _ ?_;clear hK K))|(with_reducible first|(refine Q0c ?_;refine hR _ ?_;clear hR R)|((first|refine Q0e ?_|refine Q0f ?_);intro J hJ hJ')|(refine Q0a ?_;intro R hR)|(refine hJ _ ?_;clear hJ hJ' J)))))
 refine Q1p (α:={i:Nat // i≤l.length∧idxF p (l.drop i) i=r}) (fun q=>⟨[.c (.sl ex 14 l.length (l.flatMap Ev.pv)),.fn g caps,.any,.any,.any,.any,.any,vi .i64 l.length,vi .i64 (q.1:Int),.any,.any,.any,.any,.any,.any,.any,.any,.any,.any],[]⟩) (fun q=>l.length-q.1) ⟨0,Nat.zero_le _,hr⟩ (St.le_of (by simp[leT]) (by simp[leH])) ?_
 rintro ⟨i,hi,hd⟩ J hJ hJ'
 (try dsimp only at hJ ⊢)
 rcases Nat.lt_or_ge i l.length with hlt|hge
 · obtain⟨y,hy⟩:∃y,l[i]? = some y:=⟨_,List.getElem?_eq_getElem hlt⟩
   have k1:(decide ((i:Int)<(l.length:Int)))=true:=by simp;omega
   have k2:=Q8k hy
   have k7:(i:Int)+1=((i+1:Nat):Int):=by omega
   have hdr:l.drop i=y::l.drop (i+1):=by
    rw[List.drop_eq_getElem_cons hlt]
    rw[List.getElem?_eq_getElem hlt] at hy
    rw[Option.some.inj hy]
   have hp1:=hp y (List.mem_of_getElem? hy)
   rw[hdr] at hd
   unfold idxF at hd
   cases hxy:p y
   · rw[hxy] at hp1 hd
     rw[if_neg (by simp)] at hd
     have hJ1:=fun σ'=>hJ σ' ⟨i+1,hlt,hd⟩ (by dsimp only;omega)
     dsimp only at hJ1
     (have W:=ndI k1 (ndI k2 (ndI k7 @wrI));(repeat(any_goals(first|((with_reducible refine Q0l ?_ ?_ ?_);rfl;rfl;intro K hK;(apply Q0i (hp1);rfl;rfl;rfl;rfl;exact hgf;exact hgn;exact hgb;(focus((simp(disch:=omega) only[go_sem,W,Nat.mul_one]);(try rfl);done));(first|simp[AV.inNL,AV.inN,hcap]));(simp(disch:=omega) only[go_sem,W,Nat.mul_one];refine hK _ ?_;clear hK K))|((with_reducible refine Q0b ?_ ?_);rfl;intro K hK;simp(disch:=omega) only[go_sem,W,Nat.mul_one];((repeat(refine ndI (by first|assumption|omega|rfl) ?_));refine hK _ ?_;clear hK K))|(with_reducible first|(refine Q0c ?_;refine hR _ ?_;clear hR R)|((first|refine Q0e ?_|refine Q0f ?_);intro J hJ hJ')|(refine Q0a ?_;intro R hR)|(refine hJ _ ?_;clear hJ hJ' J)|refine Q0h ?_)|((with_reducible refine hJ' _ _ ?_ ?_);(focus(simp;done));clear hJ hJ' J)|((with_reducible apply Q0d);rfl;rfl;all_goals(intro hc;first|(cases hc;done)|(try simp only at hc)))))))
     all_goals exact hJ1 _ (St.le_of (by simp[leT]) (by simp[leH]))
   · rw[hxy] at hp1 hd
     rw[if_pos rfl] at hd
     (have W:=ndI k1 (ndI k2 (ndI k7 @wrI));(repeat(any_goals(first|((with_reducible refine Q0l ?_ ?_ ?_);rfl;rfl;intro K hK;(apply Q0i (hp1);rfl;rfl;rfl;rfl;exact hgf;exact hgn;exact hgb;(focus((simp(disch:=omega) only[go_sem,W,Nat.mul_one]);(try rfl);done));(first|simp[AV.inNL,AV.inN,hcap]));(simp(disch:=omega) only[go_sem,W,Nat.mul_one];refine hK _ ?_;clear hK K))|((with_reducible refine Q0b ?_ ?_);rfl;intro K hK;simp(disch:=omega) only[go_sem,W,Nat.mul_one];((repeat(refine ndI (by first|assumption|omega|rfl) ?_));refine hK _ ?_;clear hK K))|(with_reducible first|(refine Q0c ?_;refine hR _ ?_;clear hR R)|((first|refine Q0e ?_|refine Q0f ?_);intro J hJ hJ')|(refine Q0a ?_;intro R hR)|(refine hJ _ ?_;clear hJ hJ' J)|refine Q0h ?_|refine Q0j ?_)|((with_reducible refine hJ' _ _ ?_ ?_);(focus(simp;done));clear hJ hJ' J)|((with_reducible apply Q0d);rfl;rfl;all_goals(intro hc;first|(cases hc;done)|(try simp only at hc)))))))
     all_goals rw[←hd]
     all_goals(refine⟨by simp,⟨_,?_,AV.le_refl _⟩,Q0g (by simp[leH,hget])⟩;simp only[Tryz.results134,resL,ldA,Q0m,go_sem])
 · have k1:(decide ((i:Int)<(l.length:Int)))=false:=by simp;omega
   rw[List.drop_eq_nil_of_le hge] at hd
   have hd:r = -1:=hd.symm
   (repeat(any_goals(first|((with_reducible refine Q0b ?_ ?_);rfl;intro K hK;simp only[go_sem,k1];((repeat(refine ndI (by first|assumption) ?_));refine hK _ ?_;clear hK K))|(with_reducible first|(refine Q0c ?_;refine hR _ ?_;clear hR R)|((first|refine Q0e ?_);intro J hJ hJ')|(refine Q0a ?_;intro R hR)|(refine hJ _ ?_;clear hJ hJ' J)|refine Q0j ?_|refine Q0q ?_)|((with_reducible refine hJ' _ _ ?_ ?_);(focus(simp;done));clear hJ hJ' J)|((with_reducible apply Q0d);rfl;rfl;all_goals(intro hc;first|(cases hc;done)|(try simp only at hc))))))
   all_goals rw[hd]
   all_goals(refine⟨by simp,⟨_,?_,AV.le_refl _⟩,Q0g (by simp[leH,hget])⟩;simp only[Tryz.results134,resL,ldA,Q0m,go_sem])
theorem hasE_fn (ex:Bool) (l:List Ev) (p:Ev→Bool) {g:FuncId} {fn:Func} {caps:List AV} (hl:l.length≤1000000) (hgf:Tryz.prog.funcs[g]? = some fn) (hgn:(fn.name == "runtime.NumGoroutine")=false) (hgb:fn.body.isNone=false) (hcap:AV.inNL [] caps=true) (hp:∀x∈l,Fn Tryz.prog g (evA x::caps) [] (vb (p x)) []) :
 Fn Tryz.prog 83 [.c (.sl ex 14 l.length (l.flatMap Ev.pv)),.fn g caps] [] (vb (l.any p)) []:=by
 have h:=idxE_fn ex l p hl hgf hgn hgb hcap hp
 have e:=Q9s p l 0
 generalize idxF p l 0=r at h e
 rw[←e]
 (refine Q0t Tryz.func83 rfl (by rfl) ?_;simp only[Tryz.ntmps83,List.length_cons,List.length_nil,Nat.reduceAdd,Nat.reduceSub,List.replicate,List.cons_append,List.nil_append])
 (repeat(any_goals(first|((with_reducible refine Q0l ?_ ?_ ?_);rfl;rfl;intro K hK;((apply Q0i (h);rfl;rfl;rfl;rfl;exact Tryz.func134);kernel_rfl;rfl;(focus((simp only[go_sem]);(try rfl);done));(first|simp[AV.inNL,AV.inN,hcap]));(simp only[go_sem];refine hK _ ?_;clear hK K))|((with_reducible refine Q0b ?_ ?_);rfl;intro K hK;simp only[go_sem];((repeat(refine ndI (by first|assumption) ?_));refine hK _ ?_;clear hK K))|(with_reducible first|(refine Q0c ?_;refine hR _ ?_;clear hR R)|((first|refine Q0e ?_);intro J hJ hJ')|(refine Q0a ?_;intro R hR)|(refine hJ _ ?_;clear hJ hJ' J)|refine Q0j ?_))))
 all_goals(refine⟨by simp,⟨_,?_,AV.le_refl _⟩,Q0g (by simp[leH,hget])⟩;simp only[Tryz.results83,resL,ldA,Q0m,go_sem])
theorem chk1_fn(e:Ev)(he:e.ok):Fn Tryz.prog 84 [evA e] [] (vb (!Q2l e)) []:=by
 have h:=right_fn e he
 generalize Q2l e=b at h ⊢
 (refine Q0t Tryz.func84 rfl (by rfl) ?_;simp only[Tryz.ntmps84,List.length_cons,List.length_nil,Nat.reduceAdd,Nat.reduceSub,List.replicate,List.cons_append,List.nil_append])
 (repeat(any_goals(first|((with_reducible refine Q0l ?_ ?_ ?_);rfl;rfl;intro K hK;((apply Q0i (h);rfl;rfl;rfl;rfl;exact Tryz.func85);kernel_rfl;rfl;(focus((simp only[go_sem]);(try rfl);done));(first|rfl));(simp only[go_sem];refine hK _ ?_;clear hK K))|((with_reducible refine Q0b ?_ ?_);rfl;intro K hK;simp only[go_sem];((repeat(refine ndI (by first|assumption) ?_));refine hK _ ?_;clear hK K))|(with_reducible first|(refine Q0c ?_;refine hR _ ?_;clear hR R)|((first|refine Q0e ?_);intro J hJ hJ')|(refine Q0a ?_;intro R hR)|(refine hJ _ ?_;clear hJ hJ' J)|refine Q0j ?_))))
 all_goals(refine⟨by simp,⟨_,?_,AV.le_refl _⟩,Q0g (by simp[leH,hget])⟩;simp only[Tryz.results84,resL,ldA,Q0m,go_sem])
def trB(l:List Ev):Bool:=decide (l.length≤2000)&&l.all Q2l
theorem Q5g(ex:Bool)(l:List Ev)(hl:l.length≤1000000)(ho:∀e∈l,e.ok):Fn Tryz.prog 51 [evs ex l] [] (vi .i64 (if trB l then 0 else 270)) []:=by
 have h:=hasE_fn ex l (fun e=>!Q2l e) (caps:=[]) hl Tryz.func84 (by kernel_rfl) rfl rfl fun e he=>chk1_fn e (ho e he)
 have e2:l.any (fun e=>!Q2l e) = !l.all Q2l:=by
  rw[Bool.eq_iff_iff];simp
 rw[e2] at h
 obtain⟨b1,h1⟩:∃b,decide ((l.length:Int)>2000)=b:=⟨_,rfl⟩
 have e3:trB l=(!b1&&l.all Q2l):=by
  unfold trB
  rw[←h1]
  congr 1
  rw[Bool.eq_iff_iff];simp;omega
 rw[e3]
 generalize l.all Q2l=b2 at h ⊢
 (refine Q0t Tryz.func51 rfl (by rfl) ?_;simp only[Tryz.ntmps51,List.length_cons,List.length_nil,Nat.reduceAdd,Nat.reduceSub,List.replicate,List.cons_append,List.nil_append])
 (repeat(any_goals(first|((with_reducible refine Q0b ?_ ?_);rfl;intro K hK;simp only[go_sem,h1];((repeat(refine ndI (by first|assumption) ?_));refine hK _ ?_;clear hK K))|(with_reducible first|(refine Q0c ?_;refine hR _ ?_;clear hR R)|((first|refine Q0e ?_);intro J hJ hJ')|(refine Q0a ?_;intro R hR)|(refine hJ _ ?_;clear hJ hJ' J)|refine Q0h ?_|refine Q0j ?_)|((with_reducible refine hJ' _ _ ?_ ?_);(focus(simp;done));clear hJ hJ' J)|((with_reducible apply Q0p);rfl;rfl;rfl;all_goals(intro hb;first|(cases hb;done)|((try simp only[Bool.not_true,Bool.not_false] at hb);(first|((with_reducible intro K hK);(first|((apply Q0i (h);rfl;rfl;rfl;rfl;exact Tryz.func83);kernel_rfl;rfl;(focus((simp only[go_sem,h1]);(try rfl);done));(first|rfl))|skip);simp only[go_sem,h1];((repeat(refine ndI (by first|assumption) ?_));refine hK _ ?_;clear hK K))|((fail_if_success (with_reducible intro _));simp only[go_sem,h1])))))|((with_reducible apply Q0d);rfl;rfl;all_goals(intro hc;first|(cases hc;done)|(try simp only at hc))))))
 all_goals(subst_vars;(refine⟨by simp,⟨_,?_,AV.le_refl _⟩,Q0g (by simp[leH,hget])⟩;simp only[Tryz.results51,resL,ldA,Q0m,go_sem]))
 all_goals simp_all
end
section
open Go.RowKit
def bsr(lt:Nat→Bool):Nat→Nat→Nat→Nat
 |0,i,_=>i
 |f+1,i,j=>if i<j then(if lt ((i+j)/2) then bsr lt f ((i+j)/2+1) j else bsr lt f i ((i+j)/2)) else i
theorem Q6a(lt:Nat→Bool):∀(f g i j:Nat),j-i≤f→j-i≤g→bsr lt f i j=bsr lt g i j
 |0,0,_,_,_,_=>rfl
 |0,g+1,i,j,h,_=>by unfold bsr;rw[if_neg (by omega)]
 |f+1,0,i,j,_,h=>by
  conv=>lhs;unfold bsr
  rw[if_neg (by omega)];rfl
 |f+1,g+1,i,j,h1,h2=>by
  unfold bsr
  by_cases h:i<j
  · rw[if_pos h,if_pos h,Q6a lt f g _ j (by omega) (by omega),Q6a lt f g i _ (by omega) (by omega)]
  · rw[if_neg h,if_neg h]
theorem bsr_up{lt:Nat→Bool}{i j r:Nat}(h:i<j)(hl:lt ((i+j)/2)=true)(hr:bsr lt (j-i) i j=r):bsr lt (j-((i+j)/2+1)) ((i+j)/2+1) j=r:=by
 rw[Q6a lt (j-i) (j-i-1+1) i j (by omega) (by omega)] at hr
 unfold bsr at hr
 rw[if_pos h,if_pos hl] at hr
 rw[←hr];exact Q6a lt _ _ _ _ (by omega) (by omega)
theorem bsr_dn{lt:Nat→Bool}{i j r:Nat}(h:i<j)(hl:lt ((i+j)/2)=false)(hr:bsr lt (j-i) i j=r):bsr lt ((i+j)/2-i) i ((i+j)/2)=r:=by
 rw[Q6a lt (j-i) (j-i-1+1) i j (by omega) (by omega)] at hr
 unfold bsr at hr
 rw[if_pos h,hl] at hr
 rw[←hr];exact Q6a lt _ _ _ _ (by omega) (by omega)
theorem X9h(lt:Nat→Bool):∀(f i j:Nat),i≤j→bsr lt f i j≤j
 |0,i,j,h=>h
 |f+1,i,j,h=>by
  unfold bsr
  split
  · split
    · exact X9h lt f _ j (by omega)
    · exact Nat.le_trans (X9h lt f i _ (by omega)) (by omega)
  · exact h
theorem X9i:IntKind.u64.bits=64:=rfl
theorem half{i j:Nat}:((i:Int)+(j:Int)).fdiv (2 ^ (min 1 64))=(((i+j)/2:Nat):Int):=by
 show((i:Int)+(j:Int)).fdiv 2=_
 rw[Int.fdiv_eq_ediv_of_nonneg _ (by omega)];omega
theorem X3j{lt:Nat→Bool}{n:Nat}(mono:∀i j,i≤j→j<n→lt j=true→lt i=true):∀(f i j:Nat),j-i≤f→i≤j→j≤n→(∀k,k<i→lt k=true)→(∀k,j≤k→k<n→lt k=false)→(∀k,k<bsr lt f i j→lt k=true)∧∀k,bsr lt f i j≤k→k<n→lt k=false
 |0,i,j,h0,hij,hjn,h1,h2=>by
  obtain rfl:i=j:=by omega
  exact⟨h1,h2⟩
 |f+1,i,j,h0,hij,hjn,h1,h2=>by
  unfold bsr
  by_cases h:i<j
  · rw[if_pos h]
    cases hm:lt ((i+j)/2) with
    |true=>
     simp only[if_true]
     exact X3j mono f _ j (by omega) (by omega) hjn (fun k hk=>mono k ((i+j)/2) (by omega) (by omega) hm) h2
    |false=>
     simp only[Bool.false_eq_true,if_false]
     refine X3j mono f i _ (by omega) (by omega) (by omega) h1 fun k hk hkn=>?_
     cases hk2:lt k with
     |false=>rfl
     |true=>rw[mono _ k hk hkn hk2] at hm;cases hm
  · rw[if_neg h]
    obtain rfl:i=j:=by omega
    exact⟨h1,h2⟩
section
variable {α : Type} (key:α→Int)
def Rises(L:List α):Prop:=L.Pairwise fun x y=>key x<key y
def fnd(k:Int):List α→Option α
 |[]=>none
 |y::L=>if key y=k then some y else fnd k L
def lay(k:Int)(o:Option α):List α→List α
 |[]=>o.toList
 |y::L=>if key y<k then y::lay k o L else if key y=k then o.toList++L else o.toList++y::L
variable {key}
theorem X6z{k:Int}:∀{L:List α} {x:α},fnd key k L=some x→key x=k∧x∈L
 |y::L,x,h=>by
  unfold fnd at h
  split at h
  · rename_i e;cases h;exact⟨e,by simp⟩
  · have:=X6z h;exact⟨this.1,by simp[this.2]⟩
theorem X8v{k:Int}:∀{L:List α},(∀x∈L,key x≠k)→fnd key k L=none
 |[],_=>rfl
 |y::L,h=>by
  unfold fnd
  rw[if_neg (h y (by simp))]
  exact X8v fun x hx=>h x (by simp[hx])
theorem fnd_mem{L:List α}(hr:Rises key L){x:α}(hx:x∈L):fnd key (key x) L=some x:=by
 induction L with
 |nil=>cases hx
 |cons y L ih=>
  obtain⟨l1,l2⟩:=List.pairwise_cons.1 hr
  unfold fnd
  rcases List.mem_cons.1 hx with rfl|hx
  · rw[if_pos rfl]
  · rw[if_neg (by have:=l1 x hx;omega)];exact ih l2 hx
theorem mem_iff{L:List α}(hr:Rises key L){x:α}:x∈L↔fnd key (key x) L=some x:=⟨fnd_mem hr,fun h=>(X6z h).2⟩
structure Parts (key:α→Int) (L:List α) (k:Int) (p:Nat):Prop where
 le:p≤L.length
 lo:∀(i:Nat) (h:i<L.length),i<p→key L[i]<k
 hi:∀(i:Nat) (h:i<L.length),p≤i→k≤key L[i]
theorem Parts.tail{y:α}{L:List α}{k:Int}{p:Nat}(h:Parts key (y::L) k (p+1)):Parts key L k p:=
 ⟨by have:=h.le;simpa using this,fun i hi hp=>by have:=h.lo (i+1) (by simpa using hi) (by omega);simpa using this,fun i hi hp=>by have:=h.hi (i+1) (by simpa using hi) (by omega);simpa using this⟩
theorem X4k{k:Int}:∀{L:List α} {p:Nat},Rises key L→Parts key L k p→fnd key k L=(L[p]?).filter fun x=>decide (key x=k)
 |[],p,_,_=>by simp[fnd,Option.filter]
 |y::L,0,hr,h=>by
  obtain⟨l1,l2⟩:=List.pairwise_cons.1 hr
  have:=h.hi 0 (by simp) (Nat.le_refl _)
  simp only[List.getElem_cons_zero] at this
  unfold fnd
  simp only[List.getElem?_cons_zero,Option.filter_some,decide_eq_true_eq]
  by_cases e:key y=k
  · rw[if_pos e,if_pos e]
  · rw[if_neg e,if_neg e];exact X8v fun x hx=>by have:=l1 x hx;omega
 |y::L,p+1,hr,h=>by
  obtain⟨l1,l2⟩:=List.pairwise_cons.1 hr
  have:=h.lo 0 (by simp) (by omega)
  simp only[List.getElem_cons_zero] at this
  unfold fnd
  rw[if_neg (by omega),X4k l2 h.tail,List.getElem?_cons_succ]
theorem bsr_parts{L:List α}{k:Int}{lt:Nat→Bool}(hr:Rises key L)(hlt:∀(i:Nat) (h:i<L.length),lt i=decide (key L[i]<k)):Parts key L k (bsr lt L.length 0 L.length):=by
 have hp:=List.pairwise_iff_getElem.1 hr
 have sp:=X3j (lt:=lt) (n:=L.length) (fun j i hjk hk h=>by
  rw[hlt i hk,decide_eq_true_eq] at h
  rw[hlt j (by omega),decide_eq_true_eq]
  rcases Nat.lt_or_ge j i with h'|h'
  · have:=hp j i (by omega) hk h';omega
  · obtain rfl:j=i:=by omega
    exact h) L.length 0 L.length (by omega) (Nat.zero_le _) (Nat.le_refl _) (fun k hk=>by omega) (fun k h1 h2=>by omega)
 refine⟨X9h _ _ _ _ (Nat.zero_le _),fun i h hi=>?_,fun i h hi=>?_⟩
 · have:=sp.1 i hi;rwa [hlt i h,decide_eq_true_eq] at this
 · have:=sp.2 i hi h;rw[hlt i h,decide_eq_false_iff_not] at this;omega
end
end
section
open Go.RowKit
open Nat (reduceBEq)
set_option maxRecDepth 20000
set_option maxHeartbeats 2000000
theorem isNaN_fn(a:Int):Fn Tryz.prog 132 [vi .u64 a] [] (vb false) []:=by
 (refine Q0t Tryz.func132 rfl (by rfl) ?_;simp only[Tryz.ntmps132,List.length_cons,List.length_nil,Nat.reduceAdd,Nat.reduceSub,List.replicate,List.cons_append,List.nil_append])
 (repeat(any_goals(first|((with_reducible refine Q0b ?_ ?_);rfl;intro K hK;simp only[go_sem];((repeat(refine ndI (by first|assumption) ?_));refine hK _ ?_;clear hK K))|(with_reducible first|(refine Q0c ?_;refine hR _ ?_;clear hR R)|((first|refine Q0e ?_);intro J hJ hJ')|(refine Q0a ?_;intro R hR)|(refine hJ _ ?_;clear hJ hJ' J)|refine Q0j ?_))))
 all_goals(refine⟨by simp,⟨_,?_,AV.le_refl _⟩,Q0g (by simp[leH,hget])⟩;simp only[Tryz.results132,resL,ldA,Q0m,go_sem])
 all_goals simp
structure Sp where
 a:Int
 k:Nat
structure Pg where
 s:Sp
 v:Nat
def Sp.pv(s:Sp):List PV:=[.v (.int .u64 s.a),.v (.int .u64 (l0 s.k)),.v (.int .u64 (l1 s.k)),.v (.int .u64 (l2 s.k)),.v (.int .u64 (l3 s.k))]
def Pg.pv(p:Pg):List PV:=[.v (.int .u64 p.s.a),.v (.int .u64 (l0 p.s.k)),.v (.int .u64 (l1 p.s.k)),.v (.int .u64 (l2 p.s.k)),.v (.int .u64 (l3 p.s.k)),.v (.int .u64 (l0 p.v)),.v (.int .u64 (l1 p.v)),.v (.int .u64 (l2 p.v)),.v (.int .u64 (l3 p.v))]
theorem Q8c(s:Sp):s.pv.length=5:=rfl
abbrev spA(s:Sp):AV:=.agg [vi .u64 s.a,vi .u64 (l0 s.k),vi .u64 (l1 s.k),vi .u64 (l2 s.k),vi .u64 (l3 s.k)]
abbrev spl5(ex:Bool)(l:List Sp):AV:=.c (.sl ex 5 l.length (l.flatMap Sp.pv))
theorem spl5_at{l:List Sp}{i:Nat}{y:Sp}(h:l[i]? = some y):((l.flatMap Sp.pv).drop (i*5)).take 5=[.v (.int .u64 y.a),.v (.int .u64 (l0 y.k)),.v (.int .u64 (l1 y.k)),.v (.int .u64 (l2 y.k)),.v (.int .u64 (l3 y.k))]:=Q4m (f:=Sp.pv) Q8c h
def Sp.ok(s:Sp):Prop:=U s.a∧s.k<WW
def Pg.ok(p:Pg):Prop:=p.s.ok∧p.v<WW
def Sp.key(s:Sp):Int:=s.a*(WW:Int)+(s.k:Int)
abbrev Pg.key(p:Pg):Int:=p.s.key
end
section
open Go.RowKit
open Nat (reduceBEq)
attribute [-go_sem] IntKind.bits
set_option maxRecDepth 20000
set_option maxHeartbeats 2000000
def kpv(n:Int):List PV:=[.v (.int .i64 n)]
theorem kpv_len(n:Int):(kpv n).length=1:=rfl
abbrev ksl(ex:Bool)(l:List Int):AV:=.c (.sl ex 1 l.length (l.flatMap kpv))
theorem ksl_at{l:List Int}{i:Nat}{y:Int}(h:l[i]? = some y):((l.flatMap kpv).drop i).take 1=[.v (.int .i64 y)]:=by
 have:=Q4m (f:=kpv) kpv_len h
 rwa [Nat.mul_one] at this
theorem indexK_fn(ex:Bool)(l:List Int)(x:Int)(hl:l.length≤1000000):Fn Tryz.prog 170 [ksl ex l,vi .i64 x] [] (vi .i64 (idxF (fun y=>decide (x=y)) l 0)) []:=by
 obtain⟨r,hr⟩:∃r,idxF (fun y=>decide (x=y)) l 0=r:=⟨_,rfl⟩
 rw[hr]
 (refine Q0t Tryz.func170 rfl (by rfl) ?_;simp only[Tryz.ntmps170,List.length_cons,List.length_nil,Nat.reduceAdd,Nat.reduceSub,List.replicate,List.cons_append,List.nil_append])
 (repeat(any_goals(first|((with_reducible refine Q0b ?_ ?_);rfl;intro K hK;simp only[go_sem];((repeat(refine ndI (by first|assumption) ?_));refine hK _ ?_;clear hK K))|(with_reducible first|(refine Q0c ?_;refine hR _ ?_;clear hR R)|((first|refine Q0e ?_|refine Q0f ?_);intro J hJ hJ')|(refine Q0a ?_;intro R hR)|(refine hJ _ ?_;clear hJ hJ' J)))))
 refine Q1p (α:={i:Nat // i≤l.length∧idxF (fun y=>decide (x=y)) (l.drop i) i=r}) (fun p=>⟨[ksl ex l,vi .i64 x,.any,.any,.any,.any,.any,vi .i64 l.length,vi .i64 (p.1:Int),.any,.any,.any,.any,.any,.any,.any,.any,.any,.any],[]⟩) (fun p=>l.length-p.1) ⟨0,Nat.zero_le _,hr⟩ (St.le_of (by simp[leT]) (by simp[leH])) ?_
 rintro ⟨i,hi,hd⟩ J hJ hJ'
 (try dsimp only at hJ ⊢)
 rcases Nat.lt_or_ge i l.length with hlt|hge
 · obtain⟨y,hy⟩:∃y,l[i]? = some y:=⟨_,List.getElem?_eq_getElem hlt⟩
   have k1:(decide ((i:Int)<(l.length:Int)))=true:=by simp;omega
   have k2:=ksl_at hy
   have k7:(i:Int)+1=((i+1:Nat):Int):=by omega
   have hdr:l.drop i=y::l.drop (i+1):=by
    rw[List.drop_eq_getElem_cons hlt]
    rw[List.getElem?_eq_getElem hlt] at hy
    rw[Option.some.inj hy]
   rw[hdr] at hd
   unfold idxF at hd
   by_cases hxy:x=y
   · have k4:(x==y)=true:=by simp[hxy]
     rw[if_pos (by simp[hxy])] at hd
     (have W:=ndI k1 (ndI k2 (ndI k4 (ndI k7 @wrI)));(repeat(any_goals(first|((with_reducible refine Q0b ?_ ?_);rfl;intro K hK;simp(disch:=omega) only[go_sem,W,Nat.mul_one];((repeat(refine ndI (by first|assumption|omega|rfl) ?_));refine hK _ ?_;clear hK K))|(with_reducible first|(refine Q0c ?_;refine hR _ ?_;clear hR R)|((first|refine Q0e ?_|refine Q0f ?_);intro J hJ hJ')|(refine Q0a ?_;intro R hR)|(refine hJ _ ?_;clear hJ hJ' J)|refine Q0h ?_|refine Q0j ?_)|((with_reducible refine hJ' _ _ ?_ ?_);(focus(simp;done));clear hJ hJ' J)|((with_reducible apply Q0d);rfl;rfl;all_goals(intro hc;first|(cases hc;done)|(try simp only at hc)))))))
     all_goals rw[←hd]
     all_goals(refine⟨by simp,⟨_,?_,AV.le_refl _⟩,Q0g (by simp[leH,hget])⟩;simp only[Tryz.results170,resL,ldA,Q0m,go_sem])
   · have k4:(x==y)=false:=by simp[hxy]
     rw[if_neg (by simp[hxy])] at hd
     have hJ1:=fun σ'=>hJ σ' ⟨i+1,hlt,hd⟩ (by dsimp only;omega)
     dsimp only at hJ1
     (have W:=ndI k1 (ndI k2 (ndI k4 (ndI k7 @wrI)));(repeat(any_goals(first|((with_reducible refine Q0b ?_ ?_);rfl;intro K hK;simp(disch:=omega) only[go_sem,W,Nat.mul_one];((repeat(refine ndI (by first|assumption|omega|rfl) ?_));refine hK _ ?_;clear hK K))|(with_reducible first|(refine Q0c ?_;refine hR _ ?_;clear hR R)|((first|refine Q0e ?_|refine Q0f ?_);intro J hJ hJ')|(refine Q0a ?_;intro R hR)|(refine hJ _ ?_;clear hJ hJ' J)|refine Q0h ?_)|((with_reducible refine hJ' _ _ ?_ ?_);(focus(simp;done));clear hJ hJ' J)|((with_reducible apply Q0d);rfl;rfl;all_goals(intro hc;first|(cases hc;done)|(try simp only at hc)))))))
     all_goals exact hJ1 _ (St.le_of (by simp[leT]) (by simp[leH]))
 · have k1:(decide ((i:Int)<(l.length:Int)))=false:=by simp;omega
   rw[List.drop_eq_nil_of_le hge] at hd
   have hd:r = -1:=hd.symm
   (repeat(any_goals(first|((with_reducible refine Q0b ?_ ?_);rfl;intro K hK;simp only[go_sem,k1];((repeat(refine ndI (by first|assumption) ?_));refine hK _ ?_;clear hK K))|(with_reducible first|(refine Q0c ?_;refine hR _ ?_;clear hR R)|((first|refine Q0e ?_);intro J hJ hJ')|(refine Q0a ?_;intro R hR)|(refine hJ _ ?_;clear hJ hJ' J)|refine Q0j ?_|refine Q0q ?_)|((with_reducible refine hJ' _ _ ?_ ?_);(focus(simp;done));clear hJ hJ' J)|((with_reducible apply Q0d);rfl;rfl;all_goals(intro hc;first|(cases hc;done)|(try simp only at hc))))))
   all_goals rw[hd]
   all_goals(refine⟨by simp,⟨_,?_,AV.le_refl _⟩,Q0g (by simp[leH,hget])⟩;simp only[Tryz.results170,resL,ldA,Q0m,go_sem])
theorem Q8j(ex:Bool)(l:List Int)(x:Int)(hl:l.length≤1000000):Fn Tryz.prog 143 [ksl ex l,vi .i64 x] [] (vb (decide (x∈l))) []:=by
 have h:=indexK_fn ex l x hl
 have e:=Q9s (fun y=>decide (x=y)) l 0
 rw[show(l.any fun y=>decide (x=y))=decide (x∈l) by rw[Bool.eq_iff_iff];simp] at e
 generalize idxF (fun y=>decide (x=y)) l 0=r at h e
 rw[←e]
 (refine Q0t Tryz.func143 rfl (by rfl) ?_;simp only[Tryz.ntmps143,List.length_cons,List.length_nil,Nat.reduceAdd,Nat.reduceSub,List.replicate,List.cons_append,List.nil_append])
 (repeat(any_goals(first|((with_reducible refine Q0l ?_ ?_ ?_);rfl;rfl;intro K hK;((apply Q0i (h);rfl;rfl;rfl;rfl;exact Tryz.func170);kernel_rfl;rfl;(focus((simp only[go_sem]);(try rfl);done));(first|rfl));(simp only[go_sem];refine hK _ ?_;clear hK K))|((with_reducible refine Q0b ?_ ?_);rfl;intro K hK;simp only[go_sem];((repeat(refine ndI (by first|assumption) ?_));refine hK _ ?_;clear hK K))|(with_reducible first|(refine Q0c ?_;refine hR _ ?_;clear hR R)|((first|refine Q0e ?_);intro J hJ hJ')|(refine Q0a ?_;intro R hR)|(refine hJ _ ?_;clear hJ hJ' J)|refine Q0j ?_))))
 all_goals(refine⟨by simp,⟨_,?_,AV.le_refl _⟩,Q0g (by simp[leH,hget])⟩;simp only[Tryz.results143,resL,ldA,Q0m,go_sem])
theorem that_fn(ex ex':Bool)(l:List Ev)(ks:List Int):Fn Tryz.prog 95 [evs ex l,ksl ex' ks] [] (.fn 142 [.ptr 2 0,.ptr 3 0]) [(2,[evs ex l]),(3,[ksl ex' ks])]:=by
 (refine Q0t Tryz.func95 rfl (by rfl) ?_;simp only[Tryz.ntmps95,List.length_cons,List.length_nil,Nat.reduceAdd,Nat.reduceSub,List.replicate,List.cons_append,List.nil_append])
 (repeat(any_goals(first|((with_reducible refine Q0b ?_ ?_);rfl;intro K hK;simp only[go_sem];((repeat(refine ndI (by first|assumption) ?_));refine hK _ ?_;clear hK K))|(with_reducible first|(refine Q0c ?_;refine hR _ ?_;clear hR R)|((first|refine Q0e ?_);intro J hJ hJ')|(refine Q0a ?_;intro R hR)|(refine hJ _ ?_;clear hJ hJ' J)|refine Q0j ?_))))
 all_goals exact⟨by simp,⟨_,rfl,AV.le_of (by simp[Q0m])⟩,Q0g (by simp[leH,hget])⟩
def Ev.sp(e:Ev):Sp:=⟨e.self,e.key⟩
abbrev raS(l:List Sp):List AV:=(l.flatMap Sp.pv).map .c
theorem X6j(l:List Sp):(raS l).length=l.length*5:=by rw[List.length_map,Q0s Q8c]
def selS(ks:List Int)(l:List Ev):List Sp:=(l.filter fun e=>decide (e.kind∈ks)).map Ev.sp
theorem selS_snoc(ks:List Int){l:List Ev}{i:Nat}{y:Ev}(h:l[i]? = some y):selS ks (l.take (i+1))=if decide (y.kind∈ks)=true then selS ks (l.take i)++[y.sp] else selS ks (l.take i):=by
 unfold selS
 rw[List.take_add_one,h,List.filter_append,List.map_append]
 by_cases c:decide (y.kind∈ks)=true
 · rw[if_pos c]
   simp only[Option.toList_some,List.filter_cons,c,if_true,List.filter_nil,List.map_cons,List.map_nil]
 · rw[if_neg c]
   have c':decide (y.kind∈ks)=false:=by simpa using c
   simp only[Option.toList_some,List.filter_cons,c',List.filter_nil,List.map_nil,List.append_nil,Bool.false_eq_true,if_false]
theorem X7r(ks:List Int)(l:List Ev):(selS ks l).length≤l.length:=by
 unfold selS;rw[List.length_map];exact List.length_filter_le _ _
abbrev tsH0(out:List Sp):List (Nat×List AV):=[(1005,[.row 1600 37 5 out.length]),(1600,raS out)]
abbrev tsH1(out:List Sp)(y:Ev):List (Nat×List AV):=[(1005,[.row 18 37 5 (out.length+1)]),(18,raS (out++[y.sp]))]
abbrev stT(ex ex':Bool)(l:List Ev)(ks:List Int)(lp r:Nat)(out:List Sp)(i:Nat):St:=⟨[yv lp,.ptr 1101 0,.ptr 1102 0,.any,.any,.any,.any,.any,.any,evs ex l,vi .i64 l.length,vi .i64 i,.any,.any,.any,.any,.any,.any,.any,.any,.any,.any,.any,.any,.any,.any],[(1005,[.row r 37 5 out.length]),(r,raS out),(1101,[evs ex l]),(1102,[ksl ex' ks])]⟩
theorem stT_rn(ex ex':Bool)(l:List Ev)(ks:List Int)(lp:Nat)(out:List Sp)(i:Nat):(stT ex ex' l ks lp 18 out i).to (stT ex ex' l ks lp 600 out i):=by
 have h:=St.to.rn (σ:=stT ex ex' l ks lp 18 out i) (fun r=>if r=18 then 600 else r) (fun r=>if r=600 then 18 else r) [18,1005,1101,1102] (by simp[AV.inNL,AV.inN]) (by simp) (by simp[inH,AV.inNL,AV.inN,Q0v]) (by simp) (by simp)
 simpa [AV.renL,AV.ren,renH] using h
theorem that1S_fn(ex ex':Bool)(l:List Ev)(hl:l.length≤1000)(ho:∀e∈l,e.ok)(hr:trB l=true)(ks:List Int)(hk:ks.length≤10){t:Tmp}{asg bod:Code}{T0:List AV}(hT0:AV.inNL [1005] T0=true)(lp:Nat)
 (hY:∀(out:List Sp) (y:Ev),y∈l→out.length≤1000→YC Tryz.prog t asg bod T0 lp (evA y) (tsH0 out) (tsH1 out y)) :
 FnW (LoopAt t asg bod T0 [1005,1101,1102] lp) Tryz.prog 142 [yv lp,.ptr 1101 0,.ptr 1102 0] [(1005,[nilA]),(1101,[evs ex l]),(1102,[ksl ex' ks])] (.tup []) [(1005,[.row 600 37 5 (selS ks l).length]),(600,raS (selS ks l))]:=by
 have ck:=Q5g ex l (by omega) ho
 rw[hr] at ck
 (refine Q4r Tryz.func142 rfl (by rfl) ?_;simp only[Tryz.ntmps142,List.length_cons,List.length_nil,Nat.reduceAdd,Nat.reduceSub,List.replicate,List.cons_append,List.nil_append])
 refine AWE.seq (AWE.of ?_)
 (repeat(any_goals(first|((with_reducible refine Q0l ?_ ?_ ?_);rfl;rfl;intro K hK;((apply Q0i (ck);rfl;rfl;rfl;rfl;exact Tryz.func51);kernel_rfl;rfl;(focus((simp only[go_sem,bne_self_eq_false,ite_true,if_true]);(try rfl);done));(first|rfl));(simp only[go_sem,bne_self_eq_false,ite_true,if_true];refine hK _ ?_;clear hK K))|((with_reducible refine Q0b ?_ ?_);rfl;intro K hK;simp only[go_sem,bne_self_eq_false,ite_true,if_true];((repeat(refine ndI (by first|assumption) ?_));refine hK _ ?_;clear hK K))|(with_reducible first|(refine Q0c ?_;refine hR _ ?_;clear hR R)|((first|refine Q0e ?_);intro J hJ hJ')|(refine Q0a ?_;intro R hR)|(refine hJ _ ?_;clear hJ hJ' J)|refine Q0h ?_)|((with_reducible apply Q0d);rfl;rfl;all_goals(intro hc;first|(cases hc;done)|(try simp only at hc))))))
 show AWE _ _ _ _ _
 refine AWE.seq (AWE.of ?_)
 (repeat(any_goals(first|((with_reducible refine Q0b ?_ ?_);rfl;intro K hK;simp only[go_sem];((repeat(refine ndI (by first|assumption) ?_));refine hK _ ?_;clear hK K))|(with_reducible first|(refine Q0c ?_;refine hR _ ?_;clear hR R)|(refine Q0a ?_;intro R hR)))))
 show AWE _ _ _ _ _
 refine AWE.block ?_
 refine AWE.loop (α:={i:Nat // i≤l.length}) (fun p=>stT ex ex' l ks lp 600 (selS ks (l.take p.1)) p.1) (fun p=>l.length-p.1) ⟨0,Nat.zero_le _⟩ ?_ ?_
 · refine St.to.trans (St.to.nilcell 1005 600 37 5 0 (cs:=[nilA]) (by simp[hget]) rfl (by simp[St.free,Q1z,AV.refsL,AV.refs]) (by decide) (by decide)) (St.to.of_le (St.le_of (by simp[leT,selS]) (by simp[leH,hget,hput,selS])))
 rintro ⟨i,hi⟩
 dsimp only[stT]
 rcases Nat.lt_or_ge i l.length with hlt|hge
 · obtain⟨y,hy⟩:∃y,l[i]? = some y:=⟨l[i],List.getElem?_eq_getElem hlt⟩
   have k1:(decide ((i:Int)<(l.length:Int)))=true:=by simpa using hlt
   have k2:=Q8k hy
   have k7:(i:Int)+1=((i+1:Nat):Int):=by omega
   have k5:=X7r ks (l.take i)
   have k6:(l.take i).length≤1000:=by simp;omega
   have hm:=List.mem_of_getElem? hy
   have m1:=selS_snoc ks hy
   have fin:∀τ : St,τ.to (stT ex ex' l ks lp 600 (selS ks (l.take (i+1))) (i+1))→∃q:{i:Nat // i≤l.length},l.length-q.1<l.length-i∧τ.to (stT ex ex' l ks lp 600 (selS ks (l.take q.1)) q.1):=fun τ h=>⟨⟨i+1,hlt⟩,by simp only;omega,h⟩
   have cn:=Q8j ex' ks y.kind (by omega)
   generalize selS ks (l.take (i+1))=out' at fin m1
   generalize selS ks (l.take i)=out at k5 m1 ⊢
   have k9:∀r,AV.refsL r (raS out)=false:=fun r=>Q0o r _
   refine AWE.seq (AWE.of ?_)
   (repeat(any_goals(first|((with_reducible refine Q0b ?_ ?_);rfl;intro K hK;simp only[go_sem,k1];((repeat(refine ndI (by first|assumption) ?_));refine hK _ ?_;clear hK K))|(with_reducible first|(refine Q0c ?_;refine hR _ ?_;clear hR R)|(refine Q0a ?_;intro R hR)))))
   refine AWE.seq (AWE.of ?_)
   (repeat(any_goals(first|(with_reducible first|refine Q0h ?_)|((with_reducible apply Q0d);rfl;rfl;all_goals(intro hc;first|(cases hc;done)|(try simp only at hc))))))
   refine AWE.seq (AWE.block (AWE.seq (AWE.of ?_)))
   (repeat(any_goals(first|((with_reducible refine Q0b ?_ ?_);rfl;intro K hK;simp(disch:=omega) only[go_sem,k1,k2,k7,k9,wrI];((repeat(refine ndI (by first|assumption|omega|rfl) ?_));refine hK _ ?_;clear hK K))|(with_reducible first|(refine Q0c ?_;refine hR _ ?_;clear hR R)|(refine Q0a ?_;intro R hR)))))
   cases hya:decide (y.kind∈ks) with
   |false=>
    rw[hya] at cn m1
    rw[if_neg (by simp)] at m1
    refine AWE.seq (AWE.of ?_)
    (repeat(any_goals(first|((with_reducible refine Q0l ?_ ?_ ?_);rfl;rfl;intro K hK;((apply Q0i (cn);rfl;rfl;rfl;rfl;exact Tryz.func143);kernel_rfl;rfl;(focus((simp(disch:=omega) only[go_sem,k1,k2,k7,k9,wrI]);(try rfl);done));(first|rfl));(simp(disch:=omega) only[go_sem,k1,k2,k7,k9,wrI];refine hK _ ?_;clear hK K))|((with_reducible refine Q0b ?_ ?_);rfl;intro K hK;simp(disch:=omega) only[go_sem,k1,k2,k7,k9,wrI];((repeat(refine ndI (by first|assumption|rfl) ?_));refine hK _ ?_;clear hK K))|(with_reducible first|(refine Q0c ?_;refine hR _ ?_;clear hR R)|(refine Q0a ?_;intro R hR))|((with_reducible apply Q0p);rfl;rfl;rfl;all_goals(intro hb;first|(cases hb;done)|((try simp only[Bool.not_true,Bool.not_false] at hb);(first|((fail_if_success (with_reducible intro _));simp(disch:=omega) only[go_sem,k1,k2,k7,k9,wrI]))))))))
    show AWE _ _ _ _ _
    refine AWE.of ?_
    (repeat(any_goals(first|(with_reducible first|refine Q0h ?_)|((with_reducible apply Q0d);rfl;rfl;all_goals(intro hc;first|(cases hc;done)|(try simp only at hc))))))
    show AWE _ _ _ _ _
    refine AWE.of ?_
    (repeat(any_goals(first|((with_reducible refine Q0b ?_ ?_);rfl;intro K hK;simp(disch:=omega) only[go_sem,k7,wrI];((repeat(refine ndI (by first|assumption|rfl) ?_));refine hK _ ?_;clear hK K))|(with_reducible first|(refine Q0c ?_;refine hR _ ?_;clear hR R)|(refine Q0a ?_;intro R hR)))))
    subst m1
    exact fin _ (St.to.of_le (St.le_of (by simp[leT]) (by simp[leH,hget])))
   |true=>
    rw[hya] at cn m1
    rw[if_pos rfl] at m1
    subst m1
    refine AWE.seq (AWE.region_at 7 rfl rfl ?_)
    intro R hR
    simp only[List.take,List.drop]
    (repeat(any_goals(first|((with_reducible refine Q0l ?_ ?_ ?_);rfl;rfl;intro K hK;((apply Q0i (cn);rfl;rfl;rfl;rfl;exact Tryz.func143);kernel_rfl;rfl;(focus((simp(disch:=omega) only[go_sem,k1,k2,k7,k9,wrI]);(try rfl);done));(first|rfl));(simp(disch:=omega) only[go_sem,k1,k2,k7,k9,wrI];refine hK _ ?_;clear hK K))|((with_reducible refine Q0b ?_ ?_);rfl;intro K hK;simp(disch:=omega) only[go_sem,k1,k2,k7,k9,wrI];((repeat(refine ndI (by first|assumption|rfl) ?_));refine hK _ ?_;clear hK K))|(with_reducible first|(refine Q0c ?_;refine hR _ ?_;clear hR R))|((with_reducible apply Q0p);rfl;rfl;rfl;all_goals(intro hb;first|(cases hb;done)|((try simp only[Bool.not_true,Bool.not_false] at hb);(first|((with_reducible intro K hK);simp(disch:=omega) only[go_sem,k1,k2,k7,k9,wrI];((repeat(refine ndI (by first|assumption|rfl) ?_));refine hK _ ?_;clear hK K)))))))))
    refine⟨.inr ⟨4,true,19,rfl,rfl,rfl⟩,Q5o (hY out y hm (by omega)) (fun r=>if r=1600 then 600 else r) rfl rfl rfl rfl (.inr ?_) (by rfl) ?_ ?_ ?_ ?_ [1005] hT0 ?_ ?_⟩
    · simp[AV.ren,AV.renL,St.ev]
    · simp[hget,AV.renL,AV.ren]
    · intro r hr q hq h
      simp only[List.map_cons,List.map_nil,List.cons_append,List.nil_append,List.mem_cons,List.not_mem_nil,or_false] at hr hq
      rcases hr with rfl|rfl|rfl|rfl<;>rcases hq with rfl|rfl|rfl|rfl<;>simp at h ⊢
    · simp[Q1r,St.free,Q1z,AV.refs,AV.refsL,k9]
    · simp[inH,AV.inNL,AV.inN]
    · simp[hget]
    intro R hR
    simp only[List.drop,Q0u,Q1m,renH,AV.ren,AV.renL,Q0r,hput,hdel,hget,St.put,List.set]
    (repeat(any_goals(first|((with_reducible refine Q0b ?_ ?_);rfl;intro K hK;simp(disch:=omega) only[go_sem,k1,k2,k7,k9,hya,wrI];((repeat(refine ndI (by first|assumption|rfl) ?_));refine hK _ ?_;clear hK K))|(with_reducible first|(refine Q0c ?_;refine hR _ ?_;clear hR R))|((with_reducible apply Q0p);rfl;rfl;rfl;all_goals(intro hb;first|(cases hb;done)|((try simp only[Bool.not_true,Bool.not_false] at hb);(first|((with_reducible intro K hK);simp(disch:=omega) only[go_sem,k1,k2,k7,k9,hya,wrI];((repeat(refine ndI (by first|assumption|rfl) ?_));refine hK _ ?_;clear hK K)))))))))
    show AWE _ _ _ _ _
    refine AWE.of ?_
    (repeat(any_goals(first|(with_reducible first|refine Q0h ?_)|((with_reducible apply Q0d);rfl;rfl;all_goals(intro hc;first|(cases hc;done)|(try simp only at hc))))))
    show AWE _ _ _ _ _
    refine AWE.of ?_
    (repeat(any_goals(first|((with_reducible refine Q0b ?_ ?_);rfl;intro K hK;simp(disch:=omega) only[go_sem,k7,wrI];((repeat(refine ndI (by first|assumption|rfl) ?_));refine hK _ ?_;clear hK K))|(with_reducible first|(refine Q0c ?_;refine hR _ ?_;clear hR R)|(refine Q0a ?_;intro R hR)))))
    exact fin _ (St.to.trans (St.to.of_le (τ:=stT ex ex' l ks lp 18 (out++[y.sp]) (i+1)) (St.le_of (by simp[leT]) (by simp[leH,hget,raS]))) (stT_rn ex ex' l ks lp _ _))
 · have k1:(decide ((i:Int)<(l.length:Int)))=false:=by simpa using hge
   have e:l.take i=l:=List.take_of_length_le hge
   rw[e]
   refine AWE.seq (AWE.of ?_)
   (repeat(any_goals(first|((with_reducible refine Q0b ?_ ?_);rfl;intro K hK;simp only[go_sem,k1];((repeat(refine ndI (by first|assumption) ?_));refine hK _ ?_;clear hK K))|(with_reducible first|(refine Q0c ?_;refine hR _ ?_;clear hR R)|(refine Q0a ?_;intro R hR)))))
   refine AWE.seq (AWE.of ?_)
   (repeat(any_goals(first|(with_reducible first|refine Q0q ?_)|((with_reducible apply Q0d);rfl;rfl;all_goals(intro hc;first|(cases hc;done)|(try simp only at hc))))))
   exact⟨by simp,⟨_,rfl,AV.le_of (by simp[Q0m])⟩,Q0g (by simp[leH,hget])⟩
end
section
open Go.RowKit
open Nat (reduceBEq)
set_option maxRecDepth 20000
set_option maxHeartbeats 2000000
instance decSp:DecidableEq Sp:=fun p q=>decidable_of_iff (p.a=q.a∧p.k=q.k) ⟨fun h=>by cases p;cases q;simp_all,fun h=>by rw[h];exact⟨rfl,rfl⟩⟩
def rcS(l:List Sp):List AV:=raS l
theorem rcS_at{l:List Sp}{i:Nat}{y:Sp}(h:l[i]? = some y):((rcS l).drop (i*5)).take 5=[vi .u64 y.a,vi .u64 (l0 y.k),vi .u64 (l1 y.k),vi .u64 (l2 y.k),vi .u64 (l3 y.k)]:=by
 unfold rcS raS
 rw[←List.map_drop,←List.map_take,spl5_at h]
 rfl
end
section
open Go
set_option maxRecDepth 20000
set_option maxHeartbeats 4000000
def mx(w:World):Move→Prop
 |.goroutine m _=>w.drawn≤m.world.drawn
 |.machine (.next m) _=>w.drawn≤m.world.drawn
 |.machine (.ended _ _) _=>True
end
section
open Go.RowKit
set_option maxRecDepth 20000
set_option maxHeartbeats 2000000
abbrev SpO:={s:Sp // s.ok}
instance:Inhabited SpO:=⟨⟨⟨0,0⟩,⟨by decide,by decide⟩,by decide⟩⟩
end
section
open Go.RowKit
open Nat (reduceBEq)
attribute [-go_sem] IntKind.bits
set_option maxRecDepth 20000
set_option maxHeartbeats 2000000
theorem selS_ok{l:List Ev}(ho:∀e∈l,e.ok)(ks:List Int):∀x∈selS ks l,x.ok:=fun x hx=>by
 obtain⟨e,he,rfl⟩:=List.mem_map.1 hx
 have h:=ho e (List.mem_filter.1 he).1
 exact⟨h.2.2.2.2.1,h.1⟩
def Q6t(ks:List Int)(l:List Ev):List Sp:=if trB l=true then selS ks l else[]
theorem that1T_fn(ex ex':Bool)(l:List Ev)(hl:l.length≤1000)(ho:∀e∈l,e.ok)(ks:List Int)(hk:ks.length≤10){t:Tmp}{asg bod:Code}{T0:List AV}(hT0:AV.inNL [1005] T0=true)(lp:Nat)
 (hY:∀(out:List Sp) (y:Ev),y∈l→out.length≤1000→YC Tryz.prog t asg bod T0 lp (evA y) (tsH0 out) (tsH1 out y)) :
 FnW (LoopAt t asg bod T0 [1005,1101,1102] lp) Tryz.prog 142 [yv lp,.ptr 1101 0,.ptr 1102 0] [(1005,[nilA]),(1101,[evs ex l]),(1102,[ksl ex' ks])] (.tup []) [(1005,[.row 600 37 5 (Q6t ks l).length]),(600,raS (Q6t ks l))]:=by
 by_cases hr:trB l=true
 · have h:=that1S_fn ex ex' l hl ho hr ks hk hT0 lp hY
   have e:Q6t ks l=selS ks l:=if_pos hr
   rw[e]
   exact h
 · have e:Q6t ks l=[]:=if_neg hr
   rw[e]
   have ck:=Q5g ex l (by omega) ho
   rw[if_neg hr] at ck
   (refine Q4r Tryz.func142 rfl (by rfl) ?_;simp only[Tryz.ntmps142,List.length_cons,List.length_nil,Nat.reduceAdd,Nat.reduceSub,List.replicate,List.cons_append,List.nil_append])
   refine AWE.to (St.to.nilcell 1005 600 37 5 0 (cs:=[nilA]) (by simp[hget]) rfl (by simp[St.free,Q1z,AV.refsL,AV.refs]) (by decide) (by decide)) ?_
   refine AWE.of ?_
   simp only[hput,hget,List.set]
   (repeat(any_goals(first|((with_reducible refine Q0l ?_ ?_ ?_);rfl;rfl;intro K hK;((apply Q0i (ck);rfl;rfl;rfl;rfl;exact Tryz.func51);kernel_rfl;rfl;(focus((simp only[go_sem,bne_self_eq_false,ite_true,if_true]);(try rfl);done));(first|rfl));(simp only[go_sem,bne_self_eq_false,ite_true,if_true];refine hK _ ?_;clear hK K))|((with_reducible refine Q0b ?_ ?_);rfl;intro K hK;simp only[go_sem,bne_self_eq_false,ite_true,if_true];((repeat(refine ndI (by first|assumption) ?_));refine hK _ ?_;clear hK K))|(with_reducible first|(refine Q0c ?_;refine hR _ ?_;clear hR R)|((first|refine Q0e ?_);intro J hJ hJ')|(refine Q0a ?_;intro R hR)|(refine hJ _ ?_;clear hJ hJ' J)|refine Q0j ?_)|((with_reducible refine hJ' _ _ ?_ ?_);(focus(simp;done));clear hJ hJ' J)|((with_reducible apply Q0d);rfl;rfl;all_goals(intro hc;first|(cases hc;done)|(try simp only at hc))))))
   all_goals exact⟨by simp,⟨_,rfl,AV.le_of (by simp[Q0m])⟩,Q0g (by simp[leH,hget])⟩
theorem toldS_ok{l:List Ev}(ho:∀e∈l,e.ok)(ks:List Int):∀x∈Q6t ks l,x.ok:=by
 unfold Q6t
 split
 · exact selS_ok ho ks
 · exact fun x hx=>by cases hx
theorem X3r(ks:List Int)(l:List Ev):(Q6t ks l).length≤l.length:=by
 unfold Q6t
 split
 · exact X7r ks l
 · exact Nat.zero_le _
theorem X3s(ex ex':Bool)(l:List Ev)(hl:l.length≤1000)(ho:∀e∈l,e.ok)(ks:List Int)(hk:ks.length≤10)(s r:List Sp)
 (so:Fn Tryz.prog 47 [.row 1000 37 5 (Q6t ks l).length,.fn 48 []] [(1000,raS (Q6t ks l))] (.tup []) [(1000,raS s)])
 (co:Fn Tryz.prog 49 [.row 1000 37 5 (Q6t ks l).length] [(1000,raS s)] (.row 1000 37 5 r.length) [(1000,raS r)]):Fn Tryz.prog 64 [evs ex l,ksl ex' ks] [] (spl5 false r) []:=by
 have th:=that_fn ex ex' l ks
 have tl:=X3r ks l
 have hrow:Fn Tryz.prog 64 [evs ex l,ksl ex' ks] [] (.row 600 37 5 r.length) [(600,raS r)]:=by
  (refine Q0t Tryz.func64 rfl (by rfl) ?_;simp only[Tryz.ntmps64,List.length_cons,List.length_nil,Nat.reduceAdd,Nat.reduceSub,List.replicate,List.cons_append,List.nil_append])
  (repeat(any_goals(first|((with_reducible refine Q0l ?_ ?_ ?_);rfl;rfl;intro K hK;(apply Q1c (th) (fun r=>r+99);rfl;rfl;rfl;rfl;exact Tryz.func95;kernel_rfl;rfl;rfl;(intro r hr q hq h;simp only[List.map_cons,List.map_nil,List.cons_append,List.nil_append,List.mem_cons,List.not_mem_nil,or_false] at hr hq;(try dsimp only at h);first|omega);(simp only[Q1d,Q1x,AV.ren,AV.renL,Q0r,List.mem_cons,List.not_mem_nil,forall_eq_or_imp,forall_eq,Q1r,List.contains_cons,List.contains_nil,AV.refsL,AV.refs,Q0o,AV.inN,AV.inNL,inH,Q0v,go_sem]));(simp only[Q0u,Q1m,renH,AV.ren,AV.renL,Q0r,go_sem];refine hK _ ?_;clear hK K))|((with_reducible refine Q0b ?_ ?_);rfl;intro K hK;simp only[go_sem];((repeat(refine ndI (by first|assumption) ?_));refine hK _ ?_;clear hK K))|(with_reducible first|(refine Q0c ?_;refine hR _ ?_;clear hR R)|((first|refine Q0e ?_|refine Q0f ?_);intro J hJ hJ')|(refine Q0a ?_;intro R hR)|(refine hJ _ ?_;clear hJ hJ' J)))))
  show AW _ _ _ _
  refine AW.range (T0:=[.any,.any,.any,.any,.any,.ptr 1005 0,.any,.any,.any,.any,.any,.any,.any,.any,.any,.any,.any,.any,.any,.any,.any,.any,.any]) (cargs:=[.ptr 1101 0,.ptr 1102 0]) (H0:=[(1005,[nilA]),(1101,[evs ex l]),(1102,[ksl ex' ks])]) (H1:=[(1005,[.row 600 37 5 (Q6t ks l).length]),(600,raS (Q6t ks l))]) (res:=.tup []) (fun r=>if 1000≤r then r-1000 else r) (fun lp=>that1T_fn ex ex' l hl ho ks hk rfl lp fun out y hm ho=>yc_of rfl rfl ?_) rfl rfl Tryz.func142 (by kernel_rfl) rfl rfl ?_ ?_ ?_ ?_ ?_ rfl ?_ ?_
  · have k4:=X6j out
    have k9:∀r,AV.refsL r (raS out)=false:=fun r=>Q0o r _
    simp only[List.set]
    (repeat(any_goals(first|((with_reducible refine Q0b ?_ ?_);rfl;intro K hK;simp(disch:=omega) only[go_sem,k4,k9];((repeat(refine ndI (by first|assumption|rfl) ?_));refine hK _ ?_;clear hK K))|(with_reducible first|(refine Q0c ?_;refine hR _ ?_;clear hR R)|(refine Q0a ?_;intro R hR)))))
    refine⟨rfl,?_⟩
    (have W:=ndI k4 (ndI k9 @Q0o);(repeat(any_goals(first|((with_reducible refine Q0b ?_ ?_);rfl;intro K hK;simp(disch:=omega) only[go_sem,W,Q2m,AV.refsL,AV.refs,List.length_append,List.length_cons,List.length_nil,Bool.or_false];((repeat(refine ndI (by first|assumption|omega|rfl) ?_));refine hK _ ?_;clear hK K))|(with_reducible first|(refine Q0c ?_;refine hR _ ?_;clear hR R)|((first|refine Q0f ?_);intro J hJ hJ')|(refine Q0a ?_;intro R hR))|((with_reducible refine hJ' _ _ ?_ ?_);(focus(simp;done));clear hJ hJ' J)))))
    exact⟨rfl,Q0g (by simp[leH,hget,raS,Sp.pv,Ev.sp])⟩
  · simp[Q1d,Q1x,AV.ren]
  · simp[Q1d,Q1x,AV.ren]
  · simp[hget,AV.renL,AV.ren]
  · intro r hr q hq h
    simp only[List.map_cons,List.map_nil,List.cons_append,List.nil_append,List.mem_cons,List.not_mem_nil,or_false] at hr hq
    rcases hr with rfl|rfl|rfl|rfl|rfl<;>rcases hq with rfl|rfl|rfl|rfl|rfl<;>simp at h ⊢
  · simp[Q1r,St.free,Q1z,AV.refs,AV.refsL]
  · simp[inH,AV.inNL,AV.inN]
  · simp only[Q0u,Q1m,renH,AV.ren,AV.renL,Q0r,hput,hdel,hget,Nat.reduceLeDiff,Nat.reduceSub,Nat.reduceEqDiff,↓reduceIte]
    (repeat(any_goals(first|((with_reducible refine Q0l ?_ ?_ ?_);rfl;rfl;intro K hK;(first|(apply Q1c (so) (fun r=>600);rfl;rfl;rfl;rfl;exact Tryz.func47;kernel_rfl;rfl;rfl;(intro r hr q hq h;simp only[List.map_cons,List.map_nil,List.cons_append,List.nil_append,List.mem_cons,List.not_mem_nil,or_false] at hr hq;(try dsimp only at h);first|omega);(simp only[Q1d,Q1x,AV.ren,AV.renL,Q0r,List.mem_cons,List.not_mem_nil,forall_eq_or_imp,forall_eq,Q1r,List.contains_cons,List.contains_nil,AV.refsL,AV.refs,Q0o,AV.inN,AV.inNL,inH,Q0v,go_sem]))|(apply Q1c (co) (fun r=>600);rfl;rfl;rfl;rfl;exact Tryz.func49;kernel_rfl;rfl;rfl;(intro r hr q hq h;simp only[List.map_cons,List.map_nil,List.cons_append,List.nil_append,List.mem_cons,List.not_mem_nil,or_false] at hr hq;(try dsimp only at h);first|omega);(simp only[Q1d,Q1x,AV.ren,AV.renL,Q0r,List.mem_cons,List.not_mem_nil,forall_eq_or_imp,forall_eq,Q1r,List.contains_cons,List.contains_nil,AV.refsL,AV.refs,Q0o,AV.inN,AV.inNL,inH,Q0v,go_sem])));(simp only[Q0u,Q1m,renH,AV.ren,AV.renL,Q0r,go_sem];refine hK _ ?_;clear hK K))|((with_reducible refine Q0b ?_ ?_);rfl;intro K hK;simp only[go_sem];((repeat(refine ndI (by first|assumption) ?_));refine hK _ ?_;clear hK K))|(with_reducible first|(refine Q0c ?_;refine hR _ ?_;clear hR R)|((first|refine Q0e ?_);intro J hJ hJ')|(refine Q0a ?_;intro R hR)|(refine hJ _ ?_;clear hJ hJ' J)|refine Q0j ?_)|((with_reducible refine hJ' _ _ ?_ ?_);(focus(simp;done));clear hJ hJ' J))))
    all_goals exact⟨by simp,⟨_,rfl,AV.le_refl _⟩,Q0g (by simp[leH,hget])⟩
 have h1:=hrow.frzG
 simpa [AV.frz,AV.frzL,Q0s Q8c] using h1
theorem Q9d(ex:Bool)(l:List Ev)(r:List Sp)(h:Fn Tryz.prog 64 [evs ex l,ksl true [2,3]] [] (spl5 false r) []):Fn Tryz.prog 28 [evs ex l] [] (spl5 false r) []:=by
 (refine Q0t Tryz.func28 rfl (by rfl) ?_;simp only[Tryz.ntmps28,List.length_cons,List.length_nil,Nat.reduceAdd,Nat.reduceSub,List.replicate,List.cons_append,List.nil_append])
 (repeat(any_goals(first|((with_reducible refine Q2n ?_ ?_);rfl;intro K hK;apply Q2h;rfl;rfl;(focus(simp only[go_sem];try rfl));(focus(simp only[go_sem];try rfl));rfl;(first|omega);(first|omega);(first|omega);(simp only[go_sem];rfl);rfl;(focus((simp only[unC,Option.map_some]);(try rfl)));(simp only[go_sem];refine hK _ ?_;clear hK K))|((with_reducible refine Q0l ?_ ?_ ?_);rfl;rfl;intro K hK;((apply Q0i (h);rfl;rfl;rfl;rfl;exact Tryz.func64);kernel_rfl;rfl;(focus((simp only[go_sem]);(try rfl);done));(first|rfl));(simp only[go_sem];refine hK _ ?_;clear hK K))|((with_reducible refine Q0b ?_ ?_);rfl;intro K hK;simp only[go_sem];((repeat(refine ndI (by first|assumption) ?_));refine hK _ ?_;clear hK K))|(with_reducible first|(refine Q0c ?_;refine hR _ ?_;clear hR R)|((first|refine Q0e ?_);intro J hJ hJ')|(refine Q0a ?_;intro R hR)|(refine hJ _ ?_;clear hJ hJ' J)|refine Q0j ?_))))
 all_goals(refine⟨by simp,⟨_,?_,AV.le_refl _⟩,Q0g (by simp[leH,hget])⟩;simp only[Tryz.results28,resL,ldA,Q0m,go_sem])
end
section
open Go.RowKit
open Nat (reduceBEq)
attribute [-go_sem] IntKind.bits
set_option maxRecDepth 20000
set_option maxHeartbeats 600000
abbrev raG{β : Type}(pv:β→List PV)(l:List β):List AV:=(l.flatMap pv).map .c
def selG{β : Type}(st:Ev→Option β)(ks:List Int)(l:List Ev):List β:=(l.filter fun e=>decide (e.kind∈ks)).filterMap st
theorem X3v{β : Type}(st:Ev→Option β)(ks:List Int){l:List Ev}{i:Nat}{y:Ev}(h:l[i]? = some y):selG st ks (l.take (i+1))=if decide (y.kind∈ks)=true then(match st y with|some v=>selG st ks (l.take i)++[v]|none=>selG st ks (l.take i)) else selG st ks (l.take i):=by
 unfold selG
 rw[List.take_add_one,h,List.filter_append,List.filterMap_append]
 by_cases c:decide (y.kind∈ks)=true
 · rw[if_pos c]
   simp only[Option.toList_some,List.filter_cons,c,if_true,List.filter_nil]
   cases hs:st y<;>simp[hs]
 · rw[if_neg c]
   have c':decide (y.kind∈ks)=false:=by simpa using c
   simp only[Option.toList_some,List.filter_cons,c',List.filter_nil,List.filterMap_nil,List.append_nil,Bool.false_eq_true,if_false]
theorem X7s{β : Type}(st:Ev→Option β)(ks:List Int)(l:List Ev):(selG st ks l).length≤l.length:=by
 unfold selG;exact Nat.le_trans (List.length_filterMap_le _ _) (List.length_filter_le _ _)
abbrev tgH0{β : Type}(ty sz:Nat)(pv:β→List PV)(out:List β):List (Nat×List AV):=[(1005,[.row 1600 ty sz out.length]),(1600,raG pv out)]
abbrev tgH1{β : Type}(ty sz:Nat)(pv:β→List PV)(out:List β)(v:β):List (Nat×List AV):=[(1005,[.row 26 ty sz (out.length+1)]),(26,raG pv (out++[v]))]
abbrev stG{β : Type}(ty sz:Nat)(pv:β→List PV)(ex ex':Bool)(l:List Ev)(ks:List Int)(lp r:Nat)(out:List β)(i:Nat):St:=⟨[yv lp,.ptr 1101 0,.ptr 1102 0,.any,.any,.any,.any,.any,.any,evs ex l,vi .i64 l.length,vi .i64 i,.any,.any,.any,.any,.any,.any,.any,.any,.any,.any,.any,.any,.any,.any],[(1005,[.row r ty sz out.length]),(r,raG pv out),(1101,[evs ex l]),(1102,[ksl ex' ks])]⟩
theorem stG_rn{β : Type}(ty sz:Nat)(pv:β→List PV)(ex ex':Bool)(l:List Ev)(ks:List Int)(lp:Nat)(out:List β)(i:Nat):(stG ty sz pv ex ex' l ks lp 26 out i).to (stG ty sz pv ex ex' l ks lp 600 out i):=by
 have h:=St.to.rn (σ:=stG ty sz pv ex ex' l ks lp 26 out i) (fun r=>if r=26 then 600 else r) (fun r=>if r=600 then 26 else r) [26,1005,1101,1102] (by simp[AV.inNL,AV.inN]) (by simp) (by simp[inH,AV.inNL,AV.inN,Q0v]) (by simp) (by simp)
 simpa [AV.renL,AV.ren,renH] using h
theorem that1G_fn{β : Type}(ty sz:Nat)(pv:β→List PV)(st:Ev→Option β)(ex ex':Bool)(l:List Ev)(hl:l.length≤1000)(ho:∀e∈l,e.ok)(hr:trB l=true)(ks:List Int)(hk:ks.length≤10){t:Tmp}{asg bod:Code}{T0:List AV}(hT0:AV.inNL [1005] T0=true)(lp:Nat)
 (hY:∀(out:List β) (y:Ev) (v:β),y∈l→y.kind∈ks→out.length≤1000→st y=some v→YC Tryz.prog t asg bod T0 lp (evA y) (tgH0 ty sz pv out) (tgH1 ty sz pv out v))
 (hN:∀(out:List β) (y:Ev),y∈l→y.kind∈ks→out.length≤1000→st y=none→YC Tryz.prog t asg bod T0 lp (evA y) (tgH0 ty sz pv out) (tgH0 ty sz pv out)) :
 FnW (LoopAt t asg bod T0 [1005,1101,1102] lp) Tryz.prog 142 [yv lp,.ptr 1101 0,.ptr 1102 0] [(1005,[nilA]),(1101,[evs ex l]),(1102,[ksl ex' ks])] (.tup []) [(1005,[.row 600 ty sz (selG st ks l).length]),(600,raG pv (selG st ks l))]:=by
 have ck:=Q5g ex l (by omega) ho
 rw[hr] at ck
 (refine Q4r Tryz.func142 rfl (by rfl) ?_;simp only[Tryz.ntmps142,List.length_cons,List.length_nil,Nat.reduceAdd,Nat.reduceSub,List.replicate,List.cons_append,List.nil_append])
 refine AWE.seq (AWE.of ?_)
 (repeat(any_goals(first|((with_reducible refine Q0l ?_ ?_ ?_);rfl;rfl;intro K hK;((apply Q0i (ck);rfl;rfl;rfl;rfl;exact Tryz.func51);kernel_rfl;rfl;(focus((simp only[go_sem,bne_self_eq_false,ite_true,if_true]);(try rfl);done));(first|rfl));(simp only[go_sem,bne_self_eq_false,ite_true,if_true];refine hK _ ?_;clear hK K))|((with_reducible refine Q0b ?_ ?_);rfl;intro K hK;simp only[go_sem,bne_self_eq_false,ite_true,if_true];((repeat(refine ndI (by first|assumption) ?_));refine hK _ ?_;clear hK K))|(with_reducible first|(refine Q0c ?_;refine hR _ ?_;clear hR R)|((first|refine Q0e ?_);intro J hJ hJ')|(refine Q0a ?_;intro R hR)|(refine hJ _ ?_;clear hJ hJ' J)|refine Q0h ?_)|((with_reducible apply Q0d);rfl;rfl;all_goals(intro hc;first|(cases hc;done)|(try simp only at hc))))))
 show AWE _ _ _ _ _
 refine AWE.seq (AWE.of ?_)
 (repeat(any_goals(first|((with_reducible refine Q0b ?_ ?_);rfl;intro K hK;simp only[go_sem];((repeat(refine ndI (by first|assumption) ?_));refine hK _ ?_;clear hK K))|(with_reducible first|(refine Q0c ?_;refine hR _ ?_;clear hR R)|(refine Q0a ?_;intro R hR)))))
 show AWE _ _ _ _ _
 refine AWE.block ?_
 refine AWE.loop (α:={i:Nat // i≤l.length}) (fun p=>stG ty sz pv ex ex' l ks lp 600 (selG st ks (l.take p.1)) p.1) (fun p=>l.length-p.1) ⟨0,Nat.zero_le _⟩ ?_ ?_
 · refine St.to.trans (St.to.nilcell 1005 600 ty sz 0 (cs:=[nilA]) (by simp[hget]) rfl (by simp[St.free,Q1z,AV.refsL,AV.refs]) (by decide) (by decide)) (St.to.of_le (St.le_of (by simp[leT,selG]) (by simp[leH,hget,hput,selG,raG])))
 rintro ⟨i,hi⟩
 dsimp only[stG]
 rcases Nat.lt_or_ge i l.length with hlt|hge
 · obtain⟨y,hy⟩:∃y,l[i]? = some y:=⟨l[i],List.getElem?_eq_getElem hlt⟩
   have k1:(decide ((i:Int)<(l.length:Int)))=true:=by simpa using hlt
   have k2:=Q8k hy
   have k7:(i:Int)+1=((i+1:Nat):Int):=by omega
   have k5:=X7s st ks (l.take i)
   have k6:(l.take i).length≤1000:=by simp;omega
   have hm:=List.mem_of_getElem? hy
   have m1:=X3v st ks hy
   have fin:∀τ : St,τ.to (stG ty sz pv ex ex' l ks lp 600 (selG st ks (l.take (i+1))) (i+1))→∃q:{i:Nat // i≤l.length},l.length-q.1<l.length-i∧τ.to (stG ty sz pv ex ex' l ks lp 600 (selG st ks (l.take q.1)) q.1):=fun τ h=>⟨⟨i+1,hlt⟩,by simp only;omega,h⟩
   have cn:=Q8j ex' ks y.kind (by omega)
   generalize selG st ks (l.take (i+1))=out' at fin m1
   generalize selG st ks (l.take i)=out at k5 m1 ⊢
   have k9:∀r,AV.refsL r (raG pv out)=false:=fun r=>Q0o r _
   refine AWE.seq (AWE.of ?_)
   (repeat(any_goals(first|((with_reducible refine Q0b ?_ ?_);rfl;intro K hK;simp only[go_sem,k1];((repeat(refine ndI (by first|assumption) ?_));refine hK _ ?_;clear hK K))|(with_reducible first|(refine Q0c ?_;refine hR _ ?_;clear hR R)|(refine Q0a ?_;intro R hR)))))
   refine AWE.seq (AWE.of ?_)
   (repeat(any_goals(first|(with_reducible first|refine Q0h ?_)|((with_reducible apply Q0d);rfl;rfl;all_goals(intro hc;first|(cases hc;done)|(try simp only at hc))))))
   refine AWE.seq (AWE.block (AWE.seq (AWE.of ?_)))
   (repeat(any_goals(first|((with_reducible refine Q0b ?_ ?_);rfl;intro K hK;simp(disch:=omega) only[go_sem,k1,k2,k7,k9,wrI];((repeat(refine ndI (by first|assumption|omega|rfl) ?_));refine hK _ ?_;clear hK K))|(with_reducible first|(refine Q0c ?_;refine hR _ ?_;clear hR R)|(refine Q0a ?_;intro R hR)))))
   cases hya:decide (y.kind∈ks) with
   |false=>
    rw[hya] at cn m1
    rw[if_neg (by simp)] at m1
    refine AWE.seq (AWE.of ?_)
    (repeat(any_goals(first|((with_reducible refine Q0l ?_ ?_ ?_);rfl;rfl;intro K hK;((apply Q0i (cn);rfl;rfl;rfl;rfl;exact Tryz.func143);kernel_rfl;rfl;(focus((simp(disch:=omega) only[go_sem,k1,k2,k7,k9,wrI]);(try rfl);done));(first|rfl));(simp(disch:=omega) only[go_sem,k1,k2,k7,k9,wrI];refine hK _ ?_;clear hK K))|((with_reducible refine Q0b ?_ ?_);rfl;intro K hK;simp(disch:=omega) only[go_sem,k1,k2,k7,k9,wrI];((repeat(refine ndI (by first|assumption|rfl) ?_));refine hK _ ?_;clear hK K))|(with_reducible first|(refine Q0c ?_;refine hR _ ?_;clear hR R)|(refine Q0a ?_;intro R hR))|((with_reducible apply Q0p);rfl;rfl;rfl;all_goals(intro hb;first|(cases hb;done)|((try simp only[Bool.not_true,Bool.not_false] at hb);(first|((fail_if_success (with_reducible intro _));simp(disch:=omega) only[go_sem,k1,k2,k7,k9,wrI]))))))))
    show AWE _ _ _ _ _
    refine AWE.of ?_
    (repeat(any_goals(first|(with_reducible first|refine Q0h ?_)|((with_reducible apply Q0d);rfl;rfl;all_goals(intro hc;first|(cases hc;done)|(try simp only at hc))))))
    show AWE _ _ _ _ _
    refine AWE.of ?_
    (repeat(any_goals(first|((with_reducible refine Q0b ?_ ?_);rfl;intro K hK;simp(disch:=omega) only[go_sem,k7,wrI];((repeat(refine ndI (by first|assumption|rfl) ?_));refine hK _ ?_;clear hK K))|(with_reducible first|(refine Q0c ?_;refine hR _ ?_;clear hR R)|(refine Q0a ?_;intro R hR)))))
    subst m1
    exact fin _ (St.to.of_le (St.le_of (by simp[leT]) (by simp[leH,hget])))
   |true=>
    rw[hya] at cn m1
    rw[if_pos rfl] at m1
    cases hst:st y with
    |some v=>
     rw[hst] at m1
     dsimp only at m1
     subst m1
     refine AWE.seq (AWE.region_at 7 rfl rfl ?_)
     intro R hR
     simp only[List.take,List.drop]
     (repeat(any_goals(first|((with_reducible refine Q0l ?_ ?_ ?_);rfl;rfl;intro K hK;((apply Q0i (cn);rfl;rfl;rfl;rfl;exact Tryz.func143);kernel_rfl;rfl;(focus((simp(disch:=omega) only[go_sem,k1,k2,k7,k9,wrI]);(try rfl);done));(first|rfl));(simp(disch:=omega) only[go_sem,k1,k2,k7,k9,wrI];refine hK _ ?_;clear hK K))|((with_reducible refine Q0b ?_ ?_);rfl;intro K hK;simp(disch:=omega) only[go_sem,k1,k2,k7,k9,wrI];((repeat(refine ndI (by first|assumption|rfl) ?_));refine hK _ ?_;clear hK K))|(with_reducible first|(refine Q0c ?_;refine hR _ ?_;clear hR R))|((with_reducible apply Q0p);rfl;rfl;rfl;all_goals(intro hb;first|(cases hb;done)|((try simp only[Bool.not_true,Bool.not_false] at hb);(first|((with_reducible intro K hK);simp(disch:=omega) only[go_sem,k1,k2,k7,k9,wrI];((repeat(refine ndI (by first|assumption|rfl) ?_));refine hK _ ?_;clear hK K)))))))))
     refine⟨.inr ⟨4,true,19,rfl,rfl,rfl⟩,Q5o (hY out y v hm (of_decide_eq_true hya) (by omega) hst) (fun r=>if r=1600 then 600 else r) rfl rfl rfl rfl (.inr ?_) (by rfl) ?_ ?_ ?_ ?_ [1005] hT0 ?_ ?_⟩
     · simp[AV.ren,AV.renL,St.ev]
     · simp[hget,AV.renL,AV.ren]
     · intro r hr q hq h
       simp only[List.map_cons,List.map_nil,List.cons_append,List.nil_append,List.mem_cons,List.not_mem_nil,or_false] at hr hq
       rcases hr with rfl|rfl|rfl|rfl<;>rcases hq with rfl|rfl|rfl|rfl<;>simp at h ⊢
     · simp[Q1r,St.free,Q1z,AV.refs,AV.refsL,k9]
     · simp[inH,AV.inNL,AV.inN]
     · simp[hget]
     intro R hR
     simp only[List.drop,Q0u,Q1m,renH,AV.ren,AV.renL,Q0r,hput,hdel,hget,St.put,List.set]
     (repeat(any_goals(first|((with_reducible refine Q0b ?_ ?_);rfl;intro K hK;simp(disch:=omega) only[go_sem,k1,k2,k7,k9,hya,wrI];((repeat(refine ndI (by first|assumption|rfl) ?_));refine hK _ ?_;clear hK K))|(with_reducible first|(refine Q0c ?_;refine hR _ ?_;clear hR R))|((with_reducible apply Q0p);rfl;rfl;rfl;all_goals(intro hb;first|(cases hb;done)|((try simp only[Bool.not_true,Bool.not_false] at hb);(first|((with_reducible intro K hK);simp(disch:=omega) only[go_sem,k1,k2,k7,k9,hya,wrI];((repeat(refine ndI (by first|assumption|rfl) ?_));refine hK _ ?_;clear hK K)))))))))
     show AWE _ _ _ _ _
     refine AWE.of ?_
     (repeat(any_goals(first|(with_reducible first|refine Q0h ?_)|((with_reducible apply Q0d);rfl;rfl;all_goals(intro hc;first|(cases hc;done)|(try simp only at hc))))))
     show AWE _ _ _ _ _
     refine AWE.of ?_
     (repeat(any_goals(first|((with_reducible refine Q0b ?_ ?_);rfl;intro K hK;simp(disch:=omega) only[go_sem,k7,wrI];((repeat(refine ndI (by first|assumption|rfl) ?_));refine hK _ ?_;clear hK K))|(with_reducible first|(refine Q0c ?_;refine hR _ ?_;clear hR R)|(refine Q0a ?_;intro R hR)))))
     exact fin _ (St.to.trans (St.to.of_le (τ:=stG ty sz pv ex ex' l ks lp 26 (out++[v]) (i+1)) (St.le_of (by simp[leT]) (by simp[leH,hget,raG]))) (stG_rn ty sz pv ex ex' l ks lp _ _))
    |none=>
     rw[hst] at m1
     dsimp only at m1
     subst m1
     refine AWE.seq (AWE.region_at 7 rfl rfl ?_)
     intro R hR
     simp only[List.take,List.drop]
     (repeat(any_goals(first|((with_reducible refine Q0l ?_ ?_ ?_);rfl;rfl;intro K hK;((apply Q0i (cn);rfl;rfl;rfl;rfl;exact Tryz.func143);kernel_rfl;rfl;(focus((simp(disch:=omega) only[go_sem,k1,k2,k7,k9,wrI]);(try rfl);done));(first|rfl));(simp(disch:=omega) only[go_sem,k1,k2,k7,k9,wrI];refine hK _ ?_;clear hK K))|((with_reducible refine Q0b ?_ ?_);rfl;intro K hK;simp(disch:=omega) only[go_sem,k1,k2,k7,k9,wrI];((repeat(refine ndI (by first|assumption|rfl) ?_));refine hK _ ?_;clear hK K))|(with_reducible first|(refine Q0c ?_;refine hR _ ?_;clear hR R))|((with_reducible apply Q0p);rfl;rfl;rfl;all_goals(intro hb;first|(cases hb;done)|((try simp only[Bool.not_true,Bool.not_false] at hb);(first|((with_reducible intro K hK);simp(disch:=omega) only[go_sem,k1,k2,k7,k9,wrI];((repeat(refine ndI (by first|assumption|rfl) ?_));refine hK _ ?_;clear hK K)))))))))
     refine⟨.inr ⟨4,true,19,rfl,rfl,rfl⟩,Q5o (hN out' y hm (of_decide_eq_true hya) (by omega) hst) (fun r=>if r=1600 then 600 else r) rfl rfl rfl rfl (.inr ?_) (by rfl) ?_ ?_ ?_ ?_ [1005] hT0 ?_ ?_⟩
     · simp[AV.ren,AV.renL,St.ev]
     · simp[hget,AV.renL,AV.ren]
     · intro r hr q hq h
       simp only[List.map_cons,List.map_nil,List.cons_append,List.nil_append,List.mem_cons,List.not_mem_nil,or_false] at hr hq
       rcases hr with rfl|rfl|rfl|rfl<;>rcases hq with rfl|rfl|rfl|rfl<;>simp at h ⊢
     · simp[Q1r,St.free,Q1z,AV.refs,AV.refsL,k9]
     · simp[inH,AV.inNL,AV.inN]
     · simp[hget]
     intro R hR
     simp only[List.drop,Q0u,Q1m,renH,AV.ren,AV.renL,Q0r,hput,hdel,hget,St.put,List.set]
     (repeat(any_goals(first|((with_reducible refine Q0b ?_ ?_);rfl;intro K hK;simp(disch:=omega) only[go_sem,k1,k2,k7,k9,hya,wrI];((repeat(refine ndI (by first|assumption|rfl) ?_));refine hK _ ?_;clear hK K))|(with_reducible first|(refine Q0c ?_;refine hR _ ?_;clear hR R))|((with_reducible apply Q0p);rfl;rfl;rfl;all_goals(intro hb;first|(cases hb;done)|((try simp only[Bool.not_true,Bool.not_false] at hb);(first|((with_reducible intro K hK);simp(disch:=omega) only[go_sem,k1,k2,k7,k9,hya,wrI];((repeat(refine ndI (by first|assumption|rfl) ?_));refine hK _ ?_;clear hK K)))))))))
     show AWE _ _ _ _ _
     refine AWE.of ?_
     (repeat(any_goals(first|(with_reducible first|refine Q0h ?_)|((with_reducible apply Q0d);rfl;rfl;all_goals(intro hc;first|(cases hc;done)|(try simp only at hc))))))
     show AWE _ _ _ _ _
     refine AWE.of ?_
     (repeat(any_goals(first|((with_reducible refine Q0b ?_ ?_);rfl;intro K hK;simp(disch:=omega) only[go_sem,k7,wrI];((repeat(refine ndI (by first|assumption|rfl) ?_));refine hK _ ?_;clear hK K))|(with_reducible first|(refine Q0c ?_;refine hR _ ?_;clear hR R)|(refine Q0a ?_;intro R hR)))))
     exact fin _ (St.to.of_le (St.le_of (by simp[leT]) (by simp[leH,hget])))
 · have k1:(decide ((i:Int)<(l.length:Int)))=false:=by simpa using hge
   have e:l.take i=l:=List.take_of_length_le hge
   rw[e]
   refine AWE.seq (AWE.of ?_)
   (repeat(any_goals(first|((with_reducible refine Q0b ?_ ?_);rfl;intro K hK;simp only[go_sem,k1];((repeat(refine ndI (by first|assumption) ?_));refine hK _ ?_;clear hK K))|(with_reducible first|(refine Q0c ?_;refine hR _ ?_;clear hR R)|(refine Q0a ?_;intro R hR)))))
   refine AWE.seq (AWE.of ?_)
   (repeat(any_goals(first|(with_reducible first|refine Q0q ?_)|((with_reducible apply Q0d);rfl;rfl;all_goals(intro hc;first|(cases hc;done)|(try simp only at hc))))))
   exact⟨by simp,⟨_,rfl,AV.le_of (by simp[Q0m])⟩,Q0g (by simp[leH,hget])⟩
def lpv(n:Nat):List PV:=[.v (.int .u64 (l0 n)),.v (.int .u64 (l1 n)),.v (.int .u64 (l2 n)),.v (.int .u64 (l3 n))]
theorem Q7t(n:Nat):(lpv n).length=4:=rfl
abbrev wsl(ex:Bool)(l:List Nat):AV:=.c (.sl ex 4 l.length (l.flatMap lpv))
theorem wsl_at{l:List Nat}{i:Nat}{y:Nat}(h:l[i]? = some y):((l.flatMap lpv).drop (i*4)).take 4=[.v (.int .u64 (l0 y)),.v (.int .u64 (l1 y)),.v (.int .u64 (l2 y)),.v (.int .u64 (l3 y))]:=Q4m (f:=lpv) Q7t h
def ownL(a:Int):List Nat:=wdL [UInt64.ofNat a.toNat,0,0,0]
theorem own_lnA{a:Int}(ha:U a):w4 a 0 0 0=lnA [UInt64.ofNat a.toNat,0,0,0]:=by
 have e:((UInt64.ofNat a.toNat).toNat:Int)=a:=by
  have h:a.toNat<2 ^ 64:=by have:=ha.2;omega
  rw[UInt64.toNat_ofNat_of_lt' (by simpa [UInt64.size] using h)]
  exact Int.toNat_of_nonneg ha.1
 simp only[lnA,rcV,List.map_cons,List.map_nil,lvA,e]
 rfl
theorem X8i(a:Int):(ownL a).length=32:=X5v _
def ownB(W:List Nat)(e:Ev):Bool:=decide (e.data.take 32=W)
def X0p(W:List Nat)(e:Ev):Option Nat:=if ownB W e=true then some e.val else none
def Q2g(W:List Nat)(l:List Ev):List Nat:=selG (X0p W) [1] l
theorem X2r{l:List Ev}(hr:trB l=true){y:Ev}(hy:y∈l)(hk:y.kind=1):y.data.length=64:=by
 unfold trB at hr
 have h1:=List.all_eq_true.1 (Bool.and_eq_true_iff.1 hr).2 y hy
 unfold Q2l at h1
 rw[if_pos hk] at h1
 have h2:=(Bool.and_eq_true_iff.1 (Bool.and_eq_true_iff.1 h1).2).1
 exact(of_decide_eq_true h2).1
theorem arg32{D:List Nat}(h:D.length=64):bsl false (D.take 32) = .c (.sl false 1 32 ((D.flatMap bpv).take 32)):=by
 have e:(D.take 32).length=32:=by rw[List.length_take,h];rfl
 have f:(D.flatMap bpv).take (32*1)=(D.take 32).flatMap bpv:=Q4l Q2x _ _
 rw[bsl,e,←f]
theorem basesW_fn(ex:Bool)(l:List Ev)(hl:l.length≤1000)(ho:∀e∈l,e.ok)(hr:trB l=true)(a:Int)(W:List Nat)(ol:W.length=32)(wb:Fn Tryz.prog 153 [w4 a 0 0 0] [] (bsl false W) []):Fn Tryz.prog 121 [evs ex l,vi .u64 a] [] (wsl false (Q2g W l)) []:=by
 have th:Fn Tryz.prog 95 [evs ex l,.c (.sl true 1 1 [.v (.int .i64 1)])] [] (.fn 142 [.ptr 2 0,.ptr 3 0]) [(2,[evs ex l]),(3,[.c (.sl true 1 1 [.v (.int .i64 1)])])]:=that_fn ex true l [1]
 have aw:=X9k a
 have hrow:Fn Tryz.prog 121 [evs ex l,vi .u64 a] [] (.row 600 35 4 (Q2g W l).length) [(600,raG lpv (Q2g W l))]:=by
  (refine Q0t Tryz.func121 rfl (by rfl) ?_;simp only[Tryz.ntmps121,List.length_cons,List.length_nil,Nat.reduceAdd,Nat.reduceSub,List.replicate,List.cons_append,List.nil_append])
  (repeat(any_goals(first|((with_reducible refine Q2n ?_ ?_);rfl;intro K hK;apply Q2h;rfl;rfl;(focus(simp only[go_sem];try rfl));(focus(simp only[go_sem];try rfl));rfl;(first|omega);(first|omega);(first|omega);(simp only[go_sem];rfl);rfl;(focus((simp only[unC,Option.map_some]);(try rfl)));(simp only[go_sem];refine hK _ ?_;clear hK K))|((with_reducible refine Q0l ?_ ?_ ?_);rfl;rfl;intro K hK;(first|((first|(apply Q0i (aw);rfl;rfl;rfl;rfl;exact Tryz.func119)|(apply Q0i (wb);rfl;rfl;rfl;rfl;exact Tryz.func153));kernel_rfl;rfl;(focus((simp only[go_sem]);(try rfl);done));(first|rfl))|(apply Q1c (th) (fun r=>r+99);rfl;rfl;rfl;rfl;exact Tryz.func95;kernel_rfl;rfl;rfl;(intro r hr q hq h;simp only[List.map_cons,List.map_nil,List.cons_append,List.nil_append,List.mem_cons,List.not_mem_nil,or_false] at hr hq;(try dsimp only at h);first|omega);(simp only[Q1d,Q1x,AV.ren,AV.renL,Q0r,List.mem_cons,List.not_mem_nil,forall_eq_or_imp,forall_eq,Q1r,List.contains_cons,List.contains_nil,AV.refsL,AV.refs,Q0o,AV.inN,AV.inNL,inH,Q0v,go_sem])));(simp only[Q0u,Q1m,renH,AV.ren,AV.renL,Q0r,go_sem];refine hK _ ?_;clear hK K))|((with_reducible refine Q0b ?_ ?_);rfl;intro K hK;simp only[go_sem];((repeat(refine ndI (by first|assumption) ?_));refine hK _ ?_;clear hK K))|(with_reducible first|(refine Q0c ?_;refine hR _ ?_;clear hR R)|((first|refine Q0e ?_|refine Q0f ?_);intro J hJ hJ')|(refine Q0a ?_;intro R hR)|(refine hJ _ ?_;clear hJ hJ' J)))))
  show AW _ _ _ _
  refine AW.frz 5 (pcs:=[.sl false 1 (W).length ((W).flatMap bpv)]) rfl ?_
  simp only[St.frz,AV.frz,AV.frzL,frzH,hdel]
  refine AW.range (T0:=[.any,.any,.any,.any,.any,.ep [.sl false 1 (W).length ((W).flatMap bpv)],.ptr 1005 0,.any,.any,.any,.any,.any,.any,.any,.any,.any,.any,.any,.any,.any,.any,.any,.any,.any,.any,.any,.any,.any]) (cargs:=[.ptr 1101 0,.ptr 1102 0]) (H0:=[(1005,[nilA]),(1101,[evs ex l]),(1102,[ksl true [1]])]) (H1:=[(1005,[.row 600 35 4 (Q2g W l).length]),(600,raG lpv (Q2g W l))]) (res:=.tup []) (fun r=>if r=1005 then 6 else if 1000≤r then r-1000 else r) (fun lp=>that1G_fn 35 4 lpv (X0p W) ex true l hl ho hr [1] (by decide) rfl lp ?_ ?_) rfl rfl Tryz.func142 (by kernel_rfl) rfl rfl ?_ ?_ ?_ ?_ ?_ rfl ?_ ?_
  · intro out y v hm hk ho' hv
    have hk1:y.kind=1:=by simpa using hk
    have dl:=X2r hr hm hk1
    have hb:ownB W y=true:=by
     unfold X0p at hv
     split at hv
     · assumption
     · cases hv
    have hv':y.val=v:=by
     unfold X0p at hv
     rw[if_pos hb] at hv
     exact Option.some.inj hv
    subst hv'
    have be:=beq_fn false false (y.data.take 32) (W) (by simp;omega)
    change Fn _ _ _ _ (vb (ownB W y)) _ at be
    rw[hb,arg32 dl,show bsl false W = .c (.sl false 1 32 (W.flatMap bpv)) by rw[bsl,ol]] at be
    have k4:(raG lpv out).length=out.length*4:=by rw[List.length_map,Q0s Q7t]
    have k9:∀r,AV.refsL r (raG lpv out)=false:=fun r=>Q0o r _
    refine yc_ofR rfl ?_
    simp only[List.set]
    (repeat(any_goals(first|((with_reducible refine Q0b ?_ ?_);rfl;intro K hK;simp only[go_sem];((repeat(refine ndI (by first|assumption) ?_));refine hK _ ?_;clear hK K))|(with_reducible first|(refine Q0c ?_;refine hR _ ?_;clear hR R)|(refine Q0a ?_;intro R hR)))))
    refine⟨rfl,fun ro=>AWR.block (AWR.seq ?_)⟩
    with_reducible apply AWR.draw
    · rfl
    · kernel_rfl
    · kernel_rfl
    · simp[Q2a,Q5q,St.free,Q1z,AV.refsL,AV.refs]
    intro R hR
    clear hb hv hr
    (repeat(any_goals(first|((with_reducible refine Q0z ?_ ?_);kernel_rfl;(with_reducible refine hR _ ?_);clear hR R)|((first|((with_reducible apply Q1h);rfl;rfl;((apply Q0y (be);rfl;rfl;rfl;rfl;exact Tryz.func141);kernel_rfl;rfl;(focus((simp(disch:=omega) only[go_sem,k4,k9,ol,dl,Bool.false_and]);(try rfl);done));(first|rfl)))|((with_reducible apply Q0x);rfl;rfl;(simp(disch:=omega) only[rdE,rdOf,go_sem,k4,k9,ol,dl,Bool.false_and];rfl);(intro τ hA hQ hN;((try simp only[Q1i,Op.operands,Call.operands,go_sem,k4,k9,ol,dl,Bool.false_and,go_sem,List.mem_cons,List.not_mem_nil,forall_eq_or_imp,forall_eq,List.append_toArray,Option.toArray] at hA);(try simp only[go_sem,k4,k9,ol,dl,Bool.false_and,List.mem_cons,List.not_mem_nil,forall_eq_or_imp,forall_eq] at hQ hN);(first|(revert hA;intro hA));(first|(revert hQ;intro hQ));(first|(revert hN;intro hN));simp(disch:=omega) only[go_sem,k4,k9,ol,dl,Bool.false_and,go_sem,hA,hQ,hN];(repeat(refine ndI (by first|assumption|omega|rfl) ?_));(first|apply Q1b)))));(simp(disch:=omega) only[St.eff,setO,Q0u,go_sem,k4,k9,ol,dl,Bool.false_and])))))
    show AWR _ _ _ _ _
    refine AWR.of rfl ?_
    (have W:=ndI k4 (ndI k9 @Q0o);(repeat(any_goals(first|((with_reducible refine Q0b ?_ ?_);rfl;intro K hK;simp(disch:=omega) only[go_sem,W,Q2m,AV.refsL,AV.refs,List.length_append,List.length_cons,List.length_nil,Bool.or_false];((repeat(refine ndI (by first|assumption|omega|rfl) ?_));refine hK _ ?_;clear hK K))|(with_reducible first|(refine Q0c ?_;refine hR _ ?_;clear hR R)|(refine Q0a ?_;intro R hR))|((with_reducible apply Q0d);rfl;rfl;all_goals(intro hc;first|(cases hc;done)|(try simp only at hc)))))))
    all_goals exact⟨rfl,Q0g (by simp[leH,hget,lpv,raG])⟩
  · intro out y hm hk ho' hv
    have hk1:y.kind=1:=by simpa using hk
    have dl:=X2r hr hm hk1
    have hb:ownB W y=false:=by
     unfold X0p at hv
     split at hv
     · cases hv
     · rename_i h
       simpa using h
    have be:=beq_fn false false (y.data.take 32) W (by simp;omega)
    change Fn _ _ _ _ (vb (ownB W y)) _ at be
    rw[hb,arg32 dl,show bsl false W = .c (.sl false 1 32 (W.flatMap bpv)) by rw[bsl,ol]] at be
    have k4:(raG lpv out).length=out.length*4:=by rw[List.length_map,Q0s Q7t]
    have k9:∀r,AV.refsL r (raG lpv out)=false:=fun r=>Q0o r _
    refine yc_ofR rfl ?_
    simp only[List.set]
    (repeat(any_goals(first|((with_reducible refine Q0b ?_ ?_);rfl;intro K hK;simp only[go_sem];((repeat(refine ndI (by first|assumption) ?_));refine hK _ ?_;clear hK K))|(with_reducible first|(refine Q0c ?_;refine hR _ ?_;clear hR R)|(refine Q0a ?_;intro R hR)))))
    refine⟨rfl,fun ro=>AWR.block (AWR.seq ?_)⟩
    with_reducible apply AWR.draw
    · rfl
    · kernel_rfl
    · kernel_rfl
    · simp[Q2a,Q5q,St.free,Q1z,AV.refsL,AV.refs]
    intro R hR
    clear hb hv hr
    (repeat(any_goals(first|((with_reducible refine Q0z ?_ ?_);kernel_rfl;(with_reducible refine hR _ ?_);clear hR R)|((first|((with_reducible apply Q1h);rfl;rfl;((apply Q0y (be);rfl;rfl;rfl;rfl;exact Tryz.func141);kernel_rfl;rfl;(focus((simp(disch:=omega) only[go_sem,k4,k9,ol,dl,Bool.false_and]);(try rfl);done));(first|rfl)))|((with_reducible apply Q0x);rfl;rfl;(simp(disch:=omega) only[rdE,rdOf,go_sem,k4,k9,ol,dl,Bool.false_and];rfl);(intro τ hA hQ hN;((try simp only[Q1i,Op.operands,Call.operands,go_sem,k4,k9,ol,dl,Bool.false_and,go_sem,List.mem_cons,List.not_mem_nil,forall_eq_or_imp,forall_eq,List.append_toArray,Option.toArray] at hA);(try simp only[go_sem,k4,k9,ol,dl,Bool.false_and,List.mem_cons,List.not_mem_nil,forall_eq_or_imp,forall_eq] at hQ hN);(first|(revert hA;intro hA));(first|(revert hQ;intro hQ));(first|(revert hN;intro hN));simp(disch:=omega) only[go_sem,k4,k9,ol,dl,Bool.false_and,go_sem,hA,hQ,hN];(repeat(refine ndI (by first|assumption|omega|rfl) ?_));(first|apply Q1b)))));(simp(disch:=omega) only[St.eff,setO,Q0u,go_sem,k4,k9,ol,dl,Bool.false_and])))))
    show AWR _ _ _ _ _
    refine AWR.of rfl ?_
    (repeat(any_goals(first|(with_reducible first|refine Q0h ?_)|((with_reducible apply Q0d);rfl;rfl;all_goals(intro hc;first|(cases hc;done)|(try simp only at hc))))))
    all_goals exact⟨rfl,Q0g (by simp[leH,hget,lpv])⟩
  · simp[Q1d,Q1x,AV.ren]
  · simp[Q1d,Q1x,AV.ren]
  · simp[hget,AV.renL,AV.ren,kpv]
  · intro r hr q hq h
    simp only[List.map_cons,List.map_nil,List.cons_append,List.nil_append,List.mem_cons,List.not_mem_nil,or_false] at hr hq
    rcases hr with rfl|rfl|rfl|rfl|rfl<;>rcases hq with rfl|rfl|rfl|rfl|rfl<;>simp at h ⊢
  · simp[Q1r,St.free,Q1z,AV.refs,AV.refsL]
  · simp[inH,AV.inNL,AV.inN]
  · simp only[Q0u,Q1m,renH,AV.ren,AV.renL,Q0r,hput,hdel,hget,Nat.reduceLeDiff,Nat.reduceSub,Nat.reduceEqDiff,↓reduceIte]
    (repeat(any_goals(first|((with_reducible refine Q0b ?_ ?_);rfl;intro K hK;simp only[go_sem];((repeat(refine ndI (by first|assumption) ?_));refine hK _ ?_;clear hK K))|(with_reducible first|(refine Q0c ?_;refine hR _ ?_;clear hR R)|((first|refine Q0e ?_);intro J hJ hJ')|(refine Q0a ?_;intro R hR)|(refine hJ _ ?_;clear hJ hJ' J)|refine Q0j ?_)|((with_reducible refine hJ' _ _ ?_ ?_);(focus(simp;done));clear hJ hJ' J))))
    all_goals exact⟨by simp,⟨_,rfl,AV.le_refl _⟩,Q0g (by simp[leH,hget])⟩
 have h1:=hrow.frzG
 simpa [AV.frz,AV.frzL,Q0s Q7t] using h1
theorem bases_fn(ex:Bool)(l:List Ev)(hl:l.length≤1000)(ho:∀e∈l,e.ok)(hr:trB l=true)(a:Int)(ha:U a):Fn Tryz.prog 121 [evs ex l,vi .u64 a] [] (wsl false (Q2g (ownL a) l)) []:=by
 have wb:=wbytes_fn [UInt64.ofNat a.toNat,0,0,0] rfl
 rw[←own_lnA ha] at wb
 exact basesW_fn ex l hl ho hr a (ownL a) (X8i a) wb
end
end Go.Proofs.YtgdjkkapgghdbaaGreatDoor
