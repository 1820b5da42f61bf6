/-
  Which events may be. Reckoned.
-/
import Derived.Test.YtgdjkkapgghdbaaGreatDoorYm
import Derived.Test.YtgdjkkapgghdbaaGreatDoorAvM
import Derived.Shelf.SlSortCmp.NoneTotal
import Derived.Test.YtgdjkkapgghdbaaGreatDoorAvO
namespace Go.Proofs.YtgdjkkapgghdbaaGreatDoor
set_option linter.unusedSimpArgs false
set_option linter.unusedVariables false
section
open Go.RowKit
open Nat (reduceBEq)
set_option maxRecDepth 20000
set_option maxHeartbeats 2000000
attribute [local simp] Q2h Q0u Q1l
theorem chunk1_fn(p:List Nat)(n:Nat)(hp:p.length=136*n)(hn:n≤10)(L:Nat→List UInt64){t:Tmp}{asg bod:Code}{T0:List AV}(hT0:AV.inNL [1003] T0=true)(lp:Nat)
 (hY:∀i,i<n→YC Tryz.prog t asg bod T0 lp (.c (.sl true 1 136 (((p.drop (136*i)).take 136).flatMap bpv))) [(1003,rcV (L i))] [(1003,rcV (L (i+1)))]) :
 FnW (LoopAt t asg bod T0 [1003,1102,1103] lp) Tryz.prog 192 [yv lp,.ptr 1102 0,.ptr 1103 0] [(1003,rcV (L 0)),(1102,[bsl false p]),(1103,[vi .i64 136])] (.tup []) [(1003,rcV (L n))]:=by
 (refine Q4o Tryz.func192 rfl (by rfl) ?_;simp only[Tryz.ntmps192,List.length_cons,List.length_nil,Nat.reduceAdd,Nat.reduceSub,List.replicate,List.cons_append,List.nil_append])
 refine AWE.seq (AWE.of ?_)
 (repeat(any_goals(first|((with_reducible refine Q0b ?_ ?_);rfl;intro K hK;simp only[go_sem];((repeat(refine ndI (by first|assumption) ?_));refine hK _ ?_;clear hK K))|(with_reducible first|(refine Q0c ?_;refine hR _ ?_;clear hR R)|(refine Q0a ?_;intro R hR)))))
 show AWE _ _ _ _ _
 refine AWE.block ?_
 refine AWE.loop (α:={i:Nat // i≤n}) (fun i=>⟨[yv lp,.ptr 1102 0,.ptr 1103 0,.any,vi .i64 ((136*i.1:Nat):Int),.any,.any,.any,.any,.any,.any,.any,.any,.any,.any,.any,.any,.any,.any,.any,.any,.any,.any,.any,.any,.any,.any,.any,.any,.any,.any],[(1003,rcV (L i.1)),(1102,[bsl false p]),(1103,[vi .i64 136])]⟩) (fun i=>n-i.1) ⟨0,Nat.zero_le _⟩ (St.to.of_le (St.le_of (by simp[leT]) (by simp[leH,hget]))) ?_
 rintro ⟨i,hi⟩
 dsimp only
 have pl:(p.flatMap bpv).length=p.length:=by rw[Q0o Q4b,Nat.mul_one]
 rcases Nat.lt_or_ge i n with hlt|hge
 · have k1:decide (((136*i:Nat):Int)<(p.length:Int))=true:=by simp;omega
   have k2:(if ((p.length-136*i:Nat):Int)<136 then((p.length-136*i:Nat):Int) else 136)=136:=if_neg (by omega)
   have k3:((136*i:Nat):Int)+136=((136*i+136:Nat):Int):=by omega
   have k4:136*i+136-136*i=136:=by omega
   have hYi:=hY i hlt
   have dd:((p.flatMap bpv).drop (136*i)).take 136=((p.drop (136*i)).take 136).flatMap bpv:=by
    rw[bpv_drop,Q4t,Q4t,List.map_take]
   have dl:((p.drop (136*i)).take 136).length=136:=by rw[List.length_take,List.length_drop];omega
   refine AWE.seq (AWE.seq (AWE.of ?_))
   (repeat(any_goals(first|((with_reducible refine Q0b ?_ ?_);rfl;intro K hK;simp(disch:=omega) only[go_sem,k1];((repeat(refine ndI (by first|assumption|rfl) ?_));refine hK _ ?_;clear hK K))|(with_reducible first|(refine Q0c ?_;refine hR _ ?_;clear hR R)|(refine Q0a ?_;intro R hR)))))
   refine AWE.of ?_
   (repeat(any_goals(first|(with_reducible first|refine Q0i ?_)|((with_reducible apply Q0e);rfl;rfl;all_goals(intro hc;first|(cases hc;done)|(try simp only at hc))))))
   show AWE _ _ _ _ _
   refine AWE.seq (AWE.block (AWE.seq (AWE.of ?_)))
   (have W:=ndI k1 (ndI k2 @wrI);(repeat(any_goals(first|((with_reducible refine Q0z ?_ ?_);(apply Q2e);(focus(repeat(first|exact Sims.nil|((apply Sims.cons);(focus(first|exact Ef.sim_refl _))))));kernel_rfl;(with_reducible refine hR _ ?_);clear hR R)|((first|((with_reducible apply Q0x);rfl;rfl;(simp(disch:=omega) only[rdE,rdOf,go_sem,W,Nat.mul_one,Int.toNat_natCast];rfl);(intro τ hA hQ hN;((try simp only[Q1o,Op.operands,Call.operands,go_sem,W,Nat.mul_one,Int.toNat_natCast,go_sem,List.mem_cons,List.not_mem_nil,forall_eq_or_imp,forall_eq,List.append_toArray,Option.toArray] at hA);(try simp only[go_sem,W,Nat.mul_one,Int.toNat_natCast,List.mem_cons,List.not_mem_nil,forall_eq_or_imp,forall_eq] at hQ hN);(first|(revert hA;intro hA));(first|(revert hQ;intro hQ));(first|(revert hN;intro hN));simp(disch:=omega) only[go_sem,W,Nat.mul_one,Int.toNat_natCast,go_sem,hA,hQ,hN];(repeat(refine ndI (by first|assumption|omega|rfl) ?_));(first|apply Q1f)))));(simp(disch:=omega) only[St.eff,setO,Q0r,go_sem,W,Nat.mul_one,Int.toNat_natCast]))|((with_reducible refine Q0y ?_ ?_ ?_ ?_);kernel_rfl;kernel_rfl;(simp[Q2c,Q6y,St.free,Q1z,AV.refsL,AV.refs,Q0u]);intro R hR)))))
   show AWE _ _ _ _ _
   refine AWE.seq (AWE.region_at 10 rfl rfl ?_)
   intro R hR
   simp only[List.take,List.drop]
   (have W:=ndI k1 (ndI k3 (ndI k4 @wrI));(repeat(any_goals(first|((with_reducible refine Q0b ?_ ?_);rfl;intro K hK;simp(disch:=omega) only[go_sem,W,dd,pl,Nat.mul_one,Int.toNat_natCast];((repeat(refine ndI (by first|assumption|omega|rfl) ?_));refine hK _ ?_;clear hK K))|(with_reducible first|(refine Q0c ?_;refine hR _ ?_;clear hR R))))))
   refine⟨.inl rfl,Q5q hYi (fun r=>r) rfl rfl rfl rfl (.inr ?_) (by rfl) ?_ ?_ ?_ ?_ [1003] hT0 ?_ ?_⟩
   · simp[AV.ren,AV.renL,St.ev]
   · simp[hget,AV.renL,AV.ren,Q1l]
   · intro r hr q hq h
     exact h
   · simp[Q1g,St.free,Q1z,AV.refs,AV.refsL]
   · simp[inH,AV.inNL,AV.inN,Q2h]
   · simp[hget]
   intro R hR
   simp only[List.drop,Q0r,Q1h,renH,AV.ren,AV.renL,Q1l,hput,hdel,hget,St.put,List.set,Nat.reduceEqDiff,↓reduceIte]
   (have W:=ndI k1 (ndI k3 @wrI);(repeat(any_goals(first|((with_reducible refine Q0b ?_ ?_);rfl;intro K hK;simp(disch:=omega) only[go_sem,W];((repeat(refine ndI (by first|assumption|rfl) ?_));refine hK _ ?_;clear hK K))|(with_reducible first|(refine Q0c ?_;refine hR _ ?_;clear hR R))))))
   show AWE _ _ _ _ _
   refine AWE.of ?_
   (repeat(any_goals(first|(with_reducible first|refine Q0i ?_)|((with_reducible apply Q0e);rfl;rfl;all_goals(intro hc;first|(cases hc;done)|(try simp only at hc))))))
   show AWE _ _ _ _ _
   refine AWE.of ?_
   (repeat(any_goals(first|((with_reducible refine Q0b ?_ ?_);rfl;intro K hK;simp(disch:=omega) only[go_sem,k3,wrI];((repeat(refine ndI (by first|assumption|rfl) ?_));refine hK _ ?_;clear hK K))|(with_reducible first|(refine Q0c ?_;refine hR _ ?_;clear hR R)|(refine Q0a ?_;intro R hR)))))
   exact⟨⟨i+1,hlt⟩,by simp only;omega,St.to.of_le (St.le_of (by simp[leT,Nat.mul_add]) (by simp[leH,hget]))⟩
 · have k1:decide (((136*i:Nat):Int)<(p.length:Int))=false:=by simp;omega
   obtain rfl:i=n:=by omega
   refine AWE.seq (AWE.seq (AWE.of ?_))
   (repeat(any_goals(first|((with_reducible refine Q0b ?_ ?_);rfl;intro K hK;simp(disch:=omega) only[go_sem,k1];((repeat(refine ndI (by first|assumption|rfl) ?_));refine hK _ ?_;clear hK K))|(with_reducible first|(refine Q0c ?_;refine hR _ ?_;clear hR R)|(refine Q0a ?_;intro R hR)))))
   refine AWE.of ?_
   (repeat(any_goals(first|(with_reducible first|refine Q0t ?_)|((with_reducible apply Q0e);rfl;rfl;all_goals(intro hc;first|(cases hc;done)|(try simp only at hc))))))
   exact⟨by simp,⟨_,rfl,AV.le_of (by simp[Q0q])⟩,Q0h (by simp[leH,hget])⟩
end
section
open Go.RowKit
open Nat (reduceBEq)
set_option maxRecDepth 20000
set_option maxHeartbeats 2000000
attribute [local simp] Q2h Q0u Q1l
theorem sum_fnE(ex:Bool)(l p:List Nat)(n:Nat)(hl:l.length≤1000)(hn:n≤10)(hp:p.length=136*n)(hb:∀b∈p,b<256)(L:Nat→List UInt64)(L0:L 0=zer 25)(lL:∀k,(L k).length=25)
 (M:List UInt64) (hM:L n=M) (I:Nat→List Nat) (I0:I 0=List.replicate 32 0) (Il:∀k,(I k).length=32) (Is:∀k,I (k+1)=(I k).set k ((M.getD (k/8) 0).toNat/256 ^ (k%8)%256))
 (pad:Fn Tryz.prog 186 [bsl ex l] [] (bsl false p) [])
 (pm:∀k,Fn Tryz.prog 187 [lnA (xorC (L k) (p.drop (136*k)) 136)] [] (lnA (L (k+1))) []) :
 Fn Tryz.prog 179 [bsl ex l] [] (.agg (rcB (I 32))) []:=by
 have ck:=chunk_row p
 (refine Q0v Tryz.func179 rfl (by rfl) ?_;simp only[Tryz.ntmps179,List.length_cons,List.length_nil,Nat.reduceAdd,Nat.reduceSub,List.replicate,List.cons_append,List.nil_append])
 (repeat(any_goals(first|((with_reducible refine Q0n ?_ ?_ ?_);rfl;rfl;intro K hK;(first|((apply Q0j (pad);rfl;rfl;rfl;rfl;exact Tryz.func186);kernel_rfl;rfl;(focus((simp only[go_sem]);(try rfl);done));(first|rfl))|(apply Q0s (ck) (fun r=>r+100);rfl;rfl;rfl;rfl;exact Tryz.func185;kernel_rfl;rfl;rfl;(intro r hr q hq h;simp only[List.map_cons,List.map_nil,List.cons_append,List.nil_append,List.mem_cons,List.not_mem_nil,or_false] at hr hq;(try dsimp only at h);first|omega);(simp only[Q0w,Q1k,AV.ren,AV.renL,Q0m,List.mem_cons,List.not_mem_nil,forall_eq_or_imp,forall_eq,Q1g,List.contains_cons,List.contains_nil,AV.refsL,AV.refs,Q0l,AV.inN,AV.inNL,inH,Q0p,go_sem])));(simp only[Q0r,Q1h,renH,AV.ren,AV.renL,Q0m,go_sem];refine hK _ ?_;clear hK K))|((with_reducible refine Q0b ?_ ?_);rfl;intro K hK;simp only[go_sem];((repeat(refine ndI (by first|assumption) ?_));refine hK _ ?_;clear hK K))|(with_reducible first|(refine Q0c ?_;refine hR _ ?_;clear hR R)|((first|refine Q0d ?_|refine Q0g ?_);intro J hJ hJ')|(refine Q0a ?_;intro R hR)|(refine hJ _ ?_;clear hJ hJ' J)))))
 show AW _ _ _ _
 refine AW.to (St.to.of_le (τ:=⟨[bsl ex l,.any,.ptr 2 0,.ptr 3 0,.any,.any,.any,.any,.any,.any,.fn 192 [.ptr 102 0,.ptr 103 0],.any,.any,.any,.any,.any,.any,.any,.any,.any,.any,.any,.any,.any,.any,.any,.any,.any,.any,.any,.any,.any,.any,.any,.any,.any,.any,.any,.any,.any,.any,.any,.any,.any,.any,.any,.any,.any,.any,.any],[(2,rcB (List.replicate 32 0)),(3,rcV (L 0)),(102,[bsl false p]),(103,[vi .i64 136])]⟩) (St.le_of (by simp[leT]) (by rw[L0,Q9y,←Q9z];simp[leH,hget]))) ?_
 refine AW.range (T0:=[.any,.any,.any,.ptr 1003 0,.any,.any,.any,.any,.any,.any,.any,.any,.any,.any,.any,.any,.any,.any,.any,.any,.any,.any,.any,.any,.any,.any,.any,.any,.any,.any,.any,.any,.any,.any,.any,.any,.any,.any,.any,.any,.any,.any,.any,.any,.any,.any,.any,.any,.any,.any]) (cargs:=[.ptr 1102 0,.ptr 1103 0]) (H0:=[(1003,rcV (L 0)),(1102,[bsl false p]),(1103,[vi .i64 136])]) (H1:=[(1003,rcV (L n))]) (res:=.tup []) (fun r=>r-1000) (fun lp=>chunk1_fn p n hp hn L rfl lp fun i hi=>yc_ofR rfl ?_) rfl rfl Tryz.func192 (by kernel_rfl) rfl rfl ?_ ?_ ?_ ?_ ?_ rfl ?_ ?_
 · have pmi:=pm i
   obtain⟨q,hq⟩:∃q,p.drop (136*i)=q:=⟨_,rfl⟩
   have hbq:∀b∈q,b<256:=fun b h=>hb b (List.mem_of_mem_drop (hq▸h))
   have lq:136≤q.length:=by rw[←hq,List.length_drop];omega
   rw[hq] at pmi ⊢
   have lx:=fun k=>(Q7h (L i) q k).trans (lL i)
   have xs:=xorC_s (L i) q
   have x0:xorC (L i) q 0=L i:=rfl
   generalize xorC (L i) q=X at lx xs x0 pmi
   simp only[List.set]
   (repeat(any_goals(first|((with_reducible refine Q0b ?_ ?_);rfl;intro K hK;simp only[go_sem];((repeat(refine ndI (by first|assumption) ?_));refine hK _ ?_;clear hK K))|(with_reducible first|(refine Q0c ?_;refine hR _ ?_;clear hR R)|(refine Q0a ?_;intro R hR)))))
   have l136:((q.take 136).flatMap bpv).length=136:=by rw[Q0o Q4b,List.length_take];omega
   refine⟨rfl,fun ro=>AWR.block (AWR.seq (AWR.seq (AWR.of rfl ?_)))⟩
   (repeat(any_goals(first|((with_reducible refine Q0b ?_ ?_);rfl;intro K hK;simp(disch:=omega) only[go_sem,l136];((repeat(refine ndI (by first|assumption|rfl) ?_));refine hK _ ?_;clear hK K))|(with_reducible first|(refine Q0c ?_;refine hR _ ?_;clear hR R)|(refine Q0a ?_;intro R hR)))))
   show AWR _ _ _ _ _
   refine AWR.block (AWR.loop 136 (fun k=>⟨[.any,.any,.any,.ptr 1003 0,.any,.any,.any,.any,.any,.any,.any,.any,(.c (.sl true 1 136 ((q.take 136).flatMap bpv))),vi .i64 136,vi .i64 (k:Int),.any,.any,.any,.any,.any,.any,.any,.any,.any,.any,.any,.any,.any,.any,.any,.any,.any,.any,.any,.any,.any,.any,.any,.any,.any,.any,.any,.any,.any,.any,.any,.any,.any,.any,.any],[(1003,rcV (X k))]⟩) (St.to.of_le (St.le_of (by simp[leT]) (by rw[x0];simp[leH,hget]))) ?_)
   intro k hk
   rcases Nat.lt_or_ge k 136 with hlk|hgk
   · have hd:decide ((k:Int)<136)=true:=by simp;omega
     have at1:(q.take 136)[k]? = some (q.getD k 0):=by rw[List.getElem?_take,if_pos hlk,List.getD_eq_getElem?_getD,List.getElem?_eq_getElem (by omega)];rfl
     have at2:=bsl_at at1
     rw[Nat.mul_one] at at2
     have hbk:=X3m hbq k
     have xk:=xs k
     obtain⟨b,hbv⟩:∃b,q.getD k 0=b:=⟨_,rfl⟩
     obtain⟨v,hv⟩:∃v,(X k).getD (k/8) 0=v:=⟨_,rfl⟩
     rw[hbv] at at2 hbk xk
     have k1:=Q3a (l:=X k) (i:=k/8) (by rw[lx];omega)
     rw[hv] at xk k1
     have w1:IntKind.u64.wrap ((b:Int)*2 ^ min (8*(k%8)) 64)=((UInt64.ofNat (b*2 ^ (8*(k%8)))).toNat:Int):=by
      rw[Nat.min_eq_left (by omega),show((b:Int)*2 ^ (8*(k%8)))=((b*2 ^ (8*(k%8)):Nat):Int) by push_cast;rfl,u64w,UInt64.toNat_ofNat']
     obtain⟨g,hg⟩:∃g,UInt64.ofNat (b*2 ^ (8*(k%8)))=g:=⟨_,rfl⟩
     rw[hg] at w1 xk
     have u1:=Q8d v g
     have k4:=Q8g (X k) (k/8) (v ^^^ g) (by rw[lx];omega)
     rw[←xk] at k4
     have k6:(rcV (X k)).length=25:=by rw[Q1x,lx]
     have w2:IntKind.u64.wrap (b:Int)=(b:Int):=by rw[u64w,Nat.mod_eq_of_lt (by omega)]
     have j1:Int.tdiv (k:Int) 8=((k/8:Nat):Int):=by rw[Int.tdiv_eq_ediv_of_nonneg (by omega)];omega
     have j2:Int.tmod (k:Int) 8=((k%8:Nat):Int):=by rw[Int.tmod_eq_emod_of_nonneg (by omega)];omega
     have j3:(8:Int)*((k%8:Nat):Int)=((8*(k%8):Nat):Int):=by omega
     have j4:(k:Int)+1=((k+1:Nat):Int):=by omega
     clear xk hg hv hbv xs x0
     refine AWR.seq (AWR.of rfl ?_)
     (repeat(any_goals(first|((with_reducible refine Q0b ?_ ?_);rfl;intro K hK;simp(disch:=omega) only[go_sem,hd];((repeat(refine ndI (by first|assumption|rfl) ?_));refine hK _ ?_;clear hK K))|(with_reducible first|(refine Q0c ?_;refine hR _ ?_;clear hR R)|(refine Q0a ?_;intro R hR)))))
     show AWR _ _ _ _ _
     refine AWR.seq (AWR.of rfl ?_)
     (repeat(any_goals(first|(with_reducible first|refine Q0i ?_)|((with_reducible apply Q0e);rfl;rfl;all_goals(intro hc;first|(cases hc;done)|(try simp only at hc))))))
     show AWR _ _ _ _ _
     refine AWR.seq (AWR.block (AWR.seq (AWR.of rfl ?_)))
     (repeat(any_goals(first|((with_reducible refine Q0b ?_ ?_);rfl;intro K hK;simp(disch:=omega) only[go_sem,at2,l136,Nat.mul_one,Int.toNat_natCast];((repeat(refine ndI (by first|assumption|omega|rfl) ?_));refine hK _ ?_;clear hK K))|(with_reducible first|(refine Q0c ?_;refine hR _ ?_;clear hR R)|(refine Q0a ?_;intro R hR)))))
     show AWR _ _ _ _ _
     refine AWR.draw rfl (by kernel_rfl) (by kernel_rfl) (by simp[Q2c,Q6y,St.free,Q1z,AV.refsL,AV.refs,Q0u]) ?_
     intro R hR
     (have W:=ndI j1 (ndI j2 (ndI j3 (ndI w1 (ndI w2 (ndI k1 (ndI k4 (ndI k6 (ndI u1 @wrI))))))));(repeat(any_goals(first|((with_reducible refine Q0z ?_ ?_);(apply Q2e);(focus(repeat(first|exact Sims.nil|((apply Sims.cons);(focus(first|exact Ef.sim_refl _))))));kernel_rfl;(with_reducible refine hR _ ?_);clear hR R)|((first|((first|((with_reducible apply Q0x);rfl;rfl));(simp(disch:=omega) only[rdE,rdOf,go_sem,W,Nat.mul_one,Int.toNat_natCast,Nat.zero_add];rfl);(intro τ hA hQ hN;((try simp only[Q1o,Op.operands,Call.operands,go_sem,W,Nat.mul_one,Int.toNat_natCast,Nat.zero_add,go_sem,List.mem_cons,List.not_mem_nil,forall_eq_or_imp,forall_eq,List.append_toArray,Option.toArray] at hA);(try simp only[go_sem,W,Nat.mul_one,Int.toNat_natCast,Nat.zero_add,List.mem_cons,List.not_mem_nil,forall_eq_or_imp,forall_eq] at hQ hN);(first|(revert hA;intro hA));(first|(revert hQ;intro hQ));(first|(revert hN;intro hN));simp(disch:=omega) only[go_sem,W,Nat.mul_one,Int.toNat_natCast,Nat.zero_add,go_sem,hA,hQ,hN];(repeat(refine ndI (by first|assumption|omega|rfl) ?_));(first|apply Q1f|apply Q6m)))));(simp(disch:=omega) only[St.eff,setO,Q0r,go_sem,W,Nat.mul_one,Int.toNat_natCast,Nat.zero_add]))))))
     show AWR _ _ _ _ _
     refine AWR.of rfl ?_
     (repeat(any_goals(first|((with_reducible refine Q0b ?_ ?_);rfl;intro K hK;simp(disch:=omega) only[go_sem,j4,wrI];((repeat(refine ndI (by first|assumption|rfl) ?_));refine hK _ ?_;clear hK K))|(with_reducible first|(refine Q0c ?_;refine hR _ ?_;clear hR R)|(refine Q0a ?_;intro R hR)))))
     exact⟨by omega,St.to.of_le (St.le_of (by simp[leT]) (by simp[leH,hget]))⟩
   · obtain rfl:k=136:=by omega
     have hd:decide (((136:Nat):Int)<136)=false:=rfl
     have b1:List.take 25 (rcV (X 136))=rcV (X 136):=Q3s _ (lx _)
     have b2:(rcV (X 136)).length=25:=by rw[Q1x,lx]
     have b3:List.drop 25 (rcV (X 136))=[]:=List.drop_eq_nil_of_le (by omega)
     have b4:List.take 25 (rcV (L (i+1)))=rcV (L (i+1)):=Q3s _ (lL _)
     have b5:(rcV (L (i+1))).length=25:=by rw[Q1x,lL]
     refine AWR.seq (AWR.of rfl ?_)
     (repeat(any_goals(first|((with_reducible refine Q0b ?_ ?_);rfl;intro K hK;simp(disch:=omega) only[go_sem,hd];((repeat(refine ndI (by first|assumption|rfl) ?_));refine hK _ ?_;clear hK K))|(with_reducible first|(refine Q0c ?_;refine hR _ ?_;clear hR R)|(refine Q0a ?_;intro R hR)))))
     show AWR _ _ _ _ _
     refine AWR.seq (AWR.of rfl ?_)
     (repeat(any_goals(first|(with_reducible first|refine Q0t ?_)|((with_reducible apply Q0e);rfl;rfl;all_goals(intro hc;first|(cases hc;done)|(try simp only at hc))))))
     show AWR _ _ _ _ _
     refine AWR.of rfl ?_
     (have W:=ndI b1 (ndI b2 (ndI b3 (ndI b4 b5)));(repeat(any_goals(first|((with_reducible refine Q0n ?_ ?_ ?_);rfl;rfl;intro K hK;((apply Q0j (pmi);rfl;rfl;rfl;rfl;exact Tryz.func187);kernel_rfl;rfl;(focus((simp(disch:=omega) only[go_sem,W,Q0u]);(try rfl);done));(first|simp[AV.inNL,AV.inN]));(simp(disch:=omega) only[go_sem,W,Q0u];refine hK _ ?_;clear hK K))|((with_reducible refine Q0b ?_ ?_);rfl;intro K hK;simp(disch:=omega) only[go_sem,W,Q0u];((repeat(refine ndI (by first|assumption|rfl) ?_));refine hK _ ?_;clear hK K))|(with_reducible first|(refine Q0c ?_;refine hR _ ?_;clear hR R)|(refine Q0a ?_;intro R hR))))))
     exact⟨rfl,Q0h (by simp[leH,hget])⟩
 · simp[Q0w,Q1k,AV.ren]
 · simp[Q0w,Q1k,AV.ren]
 · simp[hget,Q1l,AV.renL,AV.ren]
 · intro r hr q hq h
   simp only[List.map_cons,List.map_nil,List.cons_append,List.nil_append,List.mem_cons,List.not_mem_nil,or_false] at hr hq
   omega
 · simp[Q1g]
 · simp[inH,Q2h]
 · simp only[Q0r,Q1h,renH,AV.ren,AV.renL,Q1l,hput,hdel,hget,Nat.reduceLeDiff,Nat.reduceSub,Nat.reduceEqDiff,↓reduceIte]
   have ln:=lL n
   rw[hM] at ln ⊢
   have r2:=Q3f
   (repeat(any_goals(first|((with_reducible refine Q0b ?_ ?_);rfl;intro K hK;simp only[go_sem];((repeat(refine ndI (by first|assumption) ?_));refine hK _ ?_;clear hK K))|(with_reducible first|(refine Q0c ?_;refine hR _ ?_;clear hR R)|((first|refine Q0d ?_|refine Q0g ?_);intro J hJ hJ')|(refine Q0a ?_;intro R hR)|(refine hJ _ ?_;clear hJ hJ' J))|((with_reducible refine hJ' _ _ ?_ ?_);(focus(simp;done));clear hJ hJ' J))))
   refine Q9j 32 (fun k=>⟨[bsl ex l,.any,.ptr 2 0,.ptr 3 0,.any,.any,.any,.any,.any,.any,.any,.any,.any,.any,.any,.any,.any,.any,.any,.any,.any,.any,.any,.any,.any,.any,.any,.any,.any,.any,.any,.any,.any,.any,vi .i64 (k:Int),.any,.any,.any,.any,.any,.any,.any,.any,.any,.any,.any,.any,.any,.any,.any],[(2,rcB (I k)),(3,rcV M)]⟩) (St.le_of (by simp[leT]) (by rw[I0];simp[leH,hget])) ?_
   intro k hk J hJ hJ'
   by_cases hlk:k<32
   · have hd:decide ((k:Int)<32)=true:=by simp;omega
     obtain⟨v,hv⟩:∃v,M.getD (k/8) 0=v:=⟨_,rfl⟩
     have k1:=Q3a (l:=M) (i:=k/8) (by omega)
     have is:=Is k
     rw[hv] at k1 is
     have hx:=v.toNat_lt
     obtain⟨b,hbv⟩:∃b,v.toNat/256 ^ (k%8)%256=b:=⟨_,rfl⟩
     rw[hbv] at is
     have w1:IntKind.u8.wrap (Int.fdiv (v.toNat:Int) (2 ^ min (8*(k%8)) 64))=(b:Int):=by
      rw[Nat.min_eq_left (by omega),show((2:Int) ^ (8*(k%8)))=((2 ^ (8*(k%8)):Nat):Int) by push_cast;rfl,Int.fdiv_eq_ediv_of_nonneg _ (Int.natCast_nonneg _),IntKind.wrap_u8,←hbv,Nat.pow_mul]
      rfl
     have k4:=X2p (I k) k b (by rw[Il];omega)
     rw[←is] at k4
     have k6:(rcV M).length=25:=by rw[Q1x,ln]
     have k7:=Q4m (I k)
     rw[Il] at k7
     have j1:Int.tdiv (k:Int) 8=((k/8:Nat):Int):=by rw[Int.tdiv_eq_ediv_of_nonneg (by omega)];omega
     have j2:Int.tmod (k:Int) 8=((k%8:Nat):Int):=by rw[Int.tmod_eq_emod_of_nonneg (by omega)];omega
     have j3:(8:Int)*((k%8:Nat):Int)=((8*(k%8):Nat):Int):=by omega
     (have W:=ndI j1 (ndI j2 (ndI j3 (ndI w1 (ndI k1 (ndI k4 (ndI k6 (ndI k7 @wrI)))))));(repeat(any_goals(first|((with_reducible refine Q0b ?_ ?_);rfl;intro K hK;simp(disch:=omega) only[go_sem,W,hd,Nat.mul_one,Int.toNat_natCast,Nat.zero_add];((repeat(refine ndI (by first|assumption|omega|rfl) ?_));refine hK _ ?_;clear hK K))|(with_reducible first|(refine Q0c ?_;refine hR _ ?_;clear hR R)|((first|refine Q0d ?_|refine Q0g ?_);intro J hJ hJ')|(refine Q0a ?_;intro R hR)|(refine hJ _ ?_;clear hJ hJ' J)|refine Q0i ?_)|((with_reducible refine hJ' _ _ ?_ ?_);(focus(simp;done));clear hJ hJ' J)|((with_reducible apply Q0e);rfl;rfl;all_goals(intro hc;first|(cases hc;done)|(try simp only at hc)))))))
     exact hJ _ (by omega) (St.le_of (by simp[leT]) (by simp[leH,hget]))
   · have hk32:k=32:=by omega
     subst hk32
     have c1:=Q4m (I 32)
     rw[Il] at c1
     have c2:List.take 32 (rcB (I 32))=rcB (I 32):=List.take_of_length_le (by omega)
     have c3:List.drop 32 (rcB (I 32))=[]:=List.drop_eq_nil_of_le (by omega)
     (have W:=ndI c1 (ndI c2 c3);(repeat(any_goals(first|((with_reducible refine Q0b ?_ ?_);rfl;intro K hK;simp(disch:=omega) only[go_sem,W,Q3f,List.append_nil];((repeat(refine ndI (by first|assumption|rfl) ?_));refine hK _ ?_;clear hK K))|(with_reducible first|(refine Q0c ?_;refine hR _ ?_;clear hR R)|((first|refine Q0d ?_);intro J hJ hJ')|(refine Q0a ?_;intro R hR)|(refine hJ _ ?_;clear hJ hJ' J)|refine Q0k ?_|refine Q0t ?_)|((with_reducible refine hJ' _ _ ?_ ?_);(focus(simp;done));clear hJ hJ' J)|((with_reducible apply Q0e);rfl;rfl;all_goals(intro hc;first|(cases hc;done)|(try simp only at hc)))))))
     all_goals(refine⟨by simp,⟨_,?_,AV.le_refl _⟩,Q0h (by simp[leH,hget])⟩;simp only[Tryz.results179,resL,ldA,Q0q,go_sem,c2];rw[if_pos (by omega)];rfl)
end
section
open Go.RowKit
open Nat (reduceBEq)
set_option maxRecDepth 20000
set_option maxHeartbeats 2000000
attribute [local simp] Q2h Q0u Q1l
section
variable {P:Program} {o:Oper} {σ : St} {K:St→Prop}
theorem X5e{t n sz:Nat}{g:Bool}{x:Operand}{lo hi:Option Operand}{cs:List PV}{l h:Int}(ho:o.op = .slice t x lo hi none)(hx:Q0f x=true)(hlo:lo.toList.all Q0f=true)(hhi:hi.toList.all Q0f=true)(hs:arrT P t=some (n,sz,g))
 (h1:σ.ev x = .ep cs) (hcl:cs.length=n*sz) (hl:bnd σ.ev 0 lo=some l) (hh:bnd σ.ev n hi=some h) (hb:0≤l∧l≤h∧h≤n∧n≤1000000)
 (hK:K (σ.put o.dst (.c (.sl false sz (h.toNat-l.toNat) ((cs.drop (l.toNat*sz)).take ((h.toNat-l.toNat)*sz)))))):OpA P o σ K:=
 Q1e _ hK fun E ι a w hc=>by
  have hxv:=hc.ev x hx
  rw[h1] at hxv
  generalize he:a.eval x=v at hxv
  obtain⟨b1,b2,b3,b4⟩:=hb
  have bv:∀{op:Option Operand} {dflt:Nat} {q:Int} (hok:op.toList.all Q0f=true) (hq:bnd σ.ev dflt op=some q),(op=none∧q=dflt)∨∃x k,op=some x∧a.eval x = .int k q:=fun {op dflt q} hok hq=>by
   cases op with
   |none=>simp[bnd] at hq;exact .inl ⟨rfl,hq.symm⟩
   |some x=>
    unfold bnd at hq
    simp only at hq
    split at hq
    · rename_i k m' hev
      cases hq
      have:=hc.ev x (by simpa using hok)
      rw[hev] at this
      exact .inr ⟨x,k,rfl,this.v_inv.1⟩
    · cases hq
  have hrunb:(Instr.sliceBounds false n n (lo.map a.eval) (hi.map a.eval) none).run P w = .ok (l.toNat,h.toNat,n) w:=by
   rcases bv hhi hh with⟨rfl,rfl⟩|⟨xh,kh,rfl,eh⟩
   · rcases bv hlo hl with⟨rfl,rfl⟩|⟨xl,kl,rfl,el⟩
     · simp[Instr.sliceBounds]
     · simp[Instr.sliceBounds,el,Q1d (P:=P) (m:=l) (y:=n) ⟨b1,by omega⟩]
   · have hbh:=fun code=>Q1d (P:=P) (k:=kh) (m:=h) (y:=n) (code:=code) ⟨by omega,by omega⟩ w
     rcases bv hlo hl with⟨rfl,rfl⟩|⟨xl,kl,rfl,el⟩
     · simp[Instr.sliceBounds,eh,hbh]
     · simp[Instr.sliceBounds,eh,el,hbh,Q1d (P:=P) (m:=l) (y:=h.toNat) ⟨b1,by omega⟩]
  unfold arrT at hs
  split at hs
  · rename_i n' e' hu
    split at hs
    · rename_i s' g' hs1 hs2
      simp only[Option.some.injEq,Prod.mk.injEq] at hs
      obtain⟨rfl,rfl,rfl⟩:=hs
      cases hxv with
      |ep b off us cs hl' hne hS h4 h5=>
       have hrun:(execOp a.eval o).run P w = .ok (.value (.slice (some (if n'=l.toNat then⟨b,off,none⟩ else(⟨b,off,none⟩:Addr).add (l.toNat*s'))) (h.toNat-l.toNat) (n'-l.toNat))) w:=by
        simp only[execOp,ho,he,Instr.sliceAt,Sem.run_bind,run_underlying hu,Result.andThen_ok,Instr.sureAddr,Sem.run_pure,Option.map_none,hrunb,Q2r hs1]
       refine⟨_,hrun,.c _ _ (.sl false s' _ _ _ ((us.drop (l.toNat*s')).take ((h.toNat-l.toNat)*s')) _ (by omega) (by unfold maxLen;omega) (fun hA=>by cases hA) (fun hex=>by cases hex) (by simp[hl']) ?_ (fun hne=>?_) fun j u y hu' hy=>?_)⟩
       · have:(h.toNat-l.toNat)*s'≤cs.length-l.toNat*s':=by
          rw[hcl,←Nat.sub_mul];exact Nat.mul_le_mul_right _ (by omega)
         rw[List.length_take,List.length_drop];omega
       · have hhl:¬h.toNat-l.toNat=0:=by intro e;rw[e] at hne;simp at hne
         rw[if_neg (by omega)]
         refine⟨b,off+l.toNat*s',by rw[Q1q],hS,fun j u hu'=>?_⟩
         rw[List.getElem?_take] at hu'
         split at hu'
         · rw[List.getElem?_drop] at hu';rw[Nat.add_assoc];exact h4 _ u hu'
         · cases hu'
       · rw[List.getElem?_take] at hu' hy
         split at hu'
         · rename_i hj
           rw[if_pos hj] at hy
           rw[List.getElem?_drop] at hu' hy;exact h5 _ u y hu' hy
         · cases hu'
    · cases hs
  · cases hs
end
theorem sum_fn(ex:Bool)(l:List Nat)(hl:l.length≤1000)(hb:∀b∈l,b<256):Fn Tryz.prog 179 [bsl ex l] [] (.agg (rcB (digL l))) []:=by
 unfold digL
 have hpl:(padL l).length=136*(l.length/136+1):=by rw[X2t,Nat.mul_comm];rfl
 have pad:=pad_fn ex l hl
 have plt:=padL_lt l hb
 have dl:=X9j (padL l)
 have ds:∀k,digK (padL l) (k+1)=permC (xorD (digK (padL l) k) ((padL l).drop (136*k)) 17):=fun _=>rfl
 have d0:digK (padL l) 0=zer 25:=rfl
 generalize digK (padL l)=L at *
 exact sum_fnE ex l (padL l) (l.length/136+1) hl (by omega) hpl plt L d0 dl _ rfl (idL (L (l.length/136+1))) rfl (X7b _) (idL_s _) pad fun k=>by
  rw[ds k,←X4j _ _ (X3m fun b h=>plt b (List.mem_of_mem_drop h)) 17 (by rw[dl];decide)]
  exact perm_fn _ ((Q7h _ _ _).trans (dl k))
def wdB(W:List UInt64)(i:Nat):Nat:=(W.getD ((31-i)/8) 0).toNat/256 ^ ((31-i)%8)%256
def wdS(W:List UInt64):Nat→List Nat
 |0=>List.replicate 32 0
 |i+1=>(wdS W i).set i (wdB W i)
def wdT(W:List UInt64):Nat→List Nat
 |0=>[]
 |i+1=>wdT W i++[wdB W i]
def wdL(W:List UInt64):List Nat:=wdT W 32
theorem wdS_len(W:List UInt64):∀k,(wdS W k).length=32
 |0=>rfl
 |k+1=>by unfold wdS;rw[List.length_set,wdS_len W k]
theorem X6n(W:List UInt64):∀k,(wdT W k).length=k
 |0=>rfl
 |k+1=>by unfold wdT;rw[List.length_append,X6n W k];rfl
theorem wdS_app(W:List UInt64):∀k,k≤32→wdS W k=wdT W k++List.replicate (32-k) 0
 |0,_=>rfl
 |k+1,h=>by
  have hl:=X6n W k
  unfold wdS wdT
  rw[wdS_app W k (by omega),List.set_append_right _ _ (by omega),hl,Nat.sub_self,show 32-k=(32-(k+1))+1 by omega,List.replicate_succ,List.set_cons_zero,List.append_assoc]
  rfl
theorem wdS_eq(W:List UInt64):wdS W 32=wdL W:=by
 rw[wdS_app W 32 (by decide)]
 exact List.append_nil _
theorem X6o(W:List UInt64):(wdL W).length=32:=X6n W 32
theorem wby(v:UInt64)(r:Nat)(hr:r<8):IntKind.u8.wrap (Int.fdiv (v.toNat:Int) (2 ^ min (8*r) 64))=((v.toNat/256 ^ r%256:Nat):Int):=by
 rw[Nat.min_eq_left (by omega),show((2:Int) ^ (8*r))=((2 ^ (8*r):Nat):Int) by push_cast;rfl,Int.fdiv_eq_ediv_of_nonneg _ (Int.natCast_nonneg _),IntKind.wrap_u8,Nat.pow_mul]
 rfl
theorem Z0c(W:List UInt64)(hW:W.length=4)(B:Nat→List Nat)(B0:B 0=List.replicate 32 0)(Bl:∀k,(B k).length=32)(Bs:∀i,B (i+1)=(B i).set i (wdB W i)):Fn Tryz.prog 153 [lnA W] [] (.row 6 5 1 32) [(6,rcB (B 32))]:=by
 have r1:=fun d=>Q0u d W
 have l4:(rcV W).length=4:=by rw[Q1x,hW]
 (refine Q0v Tryz.func153 rfl (by rfl) ?_;simp only[Tryz.ntmps153,List.length_cons,List.length_nil,Nat.reduceAdd,Nat.reduceSub,List.replicate,List.cons_append,List.nil_append])
 (repeat(any_goals(first|((with_reducible refine Q0b ?_ ?_);rfl;intro K hK;simp only[go_sem,r1,l4];((repeat(refine ndI (by first|assumption) ?_));refine hK _ ?_;clear hK K))|(with_reducible first|(refine Q0c ?_;refine hR _ ?_;clear hR R)|((first|refine Q0d ?_);intro J hJ hJ')|(refine Q0a ?_;intro R hR)|(refine hJ _ ?_;clear hJ hJ' J)))))
 refine Q2t ?_ ?_
 rfl
 intro K hK
 refine X8s (n:=32) (z:=.int .u8 0) rfl rfl rfl (by(focus(simp only[go_sem];try rfl))) (by kernel_rfl) rfl rfl rfl rfl rfl rfl (by omega) (by omega) (by unfold maxLen;omega) rfl (by simp[St.free,Q1z,AV.refs,AV.refsL]) (by omega) ?_
 simp only[go_sem]
 refine hK _ ?_
 clear hK K
 (repeat(any_goals(first|((with_reducible refine Q0b ?_ ?_);rfl;intro K hK;simp only[go_sem];((repeat(refine ndI (by first|assumption) ?_));refine hK _ ?_;clear hK K))|(with_reducible first|(refine Q0c ?_;refine hR _ ?_;clear hR R)|((first|refine Q0d ?_|refine Q0g ?_);intro J hJ hJ')|(refine Q0a ?_;intro R hR)|(refine hJ _ ?_;clear hJ hJ' J)))))
 refine Q9j 32 (fun i=>⟨[.any,.ptr 1 0,.any,.row 6 5 1 32,.any,.any,.any,.any,vi .i64 32,vi .i64 (i:Int),.any,.any,.any,.any,.any,.any,.any,.any,.any,.any,.any,.any,.any,.any,.any,.any,.any,.any,.any,.any,.any],[(1,rcV W),(6,rcB (B i))]⟩) (St.le_of (by simp[leT]) (by rw[B0,←Q9z];simp[leH,hget])) ?_
 intro i hi J hJ hJ'
 (try dsimp only at hJ ⊢)
 rcases Nat.lt_or_ge i 32 with hlt|hge
 · have k1:(decide ((i:Int)<32))=true:=by simp;omega
   have k7:(i:Int)+1=((i+1:Nat):Int):=by omega
   have bs:=Bs i
   unfold wdB at bs
   obtain⟨v,hv⟩:∃v,W.getD ((31-i)/8) 0=v:=⟨_,rfl⟩
   have k2:=Q3a (l:=W) (i:=(31-i)/8) (by omega)
   rw[hv] at bs k2
   have k3:=wby v ((31-i)%8) (by omega)
   obtain⟨b,hbv⟩:∃b,v.toNat/256 ^ ((31-i)%8)%256=b:=⟨_,rfl⟩
   rw[hbv] at bs k3
   have k4:=X2p (B i) i b (by rw[Bl];omega)
   rw[←bs] at k4
   have k5:=Q4m (B i)
   rw[Bl] at k5
   have j0:(31:Int)-(i:Int)=((31-i:Nat):Int):=by omega
   have j1:Int.tdiv ((31-i:Nat):Int) 8=(((31-i)/8:Nat):Int):=by rw[Int.tdiv_eq_ediv_of_nonneg (by omega)];omega
   have j2:Int.tmod ((31-i:Nat):Int) 8=(((31-i)%8:Nat):Int):=by rw[Int.tmod_eq_emod_of_nonneg (by omega)];omega
   have j3:(8:Int)*(((31-i)%8:Nat):Int)=((8*((31-i)%8):Nat):Int):=by omega
   have e32:((32:Nat):Int)=32:=rfl
   clear bs hbv hv
   (have W:=ndI e32 (ndI k1 (ndI k2 (ndI k3 (ndI k4 (ndI k5 (ndI k7 (ndI j0 (ndI j1 (ndI j2 (ndI j3 @wrI))))))))));(repeat(any_goals(first|((with_reducible refine Q0b ?_ ?_);rfl;intro K hK;simp(disch:=omega) only[go_sem,W,Nat.mul_one,Int.toNat_natCast,Int.reduceSub,Nat.zero_add];((repeat(refine ndI (by first|assumption|omega|rfl) ?_));refine hK _ ?_;clear hK K))|(with_reducible first|(refine Q0c ?_;refine hR _ ?_;clear hR R)|((first|refine Q0d ?_|refine Q0g ?_);intro J hJ hJ')|(refine Q0a ?_;intro R hR)|(refine hJ _ ?_;clear hJ hJ' J)|refine Q0i ?_)|((with_reducible refine hJ' _ _ ?_ ?_);(focus(simp;done));clear hJ hJ' J)|((with_reducible apply Q0e);rfl;rfl;all_goals(intro hc;first|(cases hc;done)|(try simp only at hc)))))))
   exact hJ _ hlt (St.le_of (by simp[leT]) (by simp[leH,hget]))
 · have k1:(decide ((i:Int)<32))=false:=by simp;omega
   obtain rfl:i=32:=by omega
   (repeat(any_goals(first|((with_reducible refine Q0b ?_ ?_);rfl;intro K hK;simp only[go_sem,k1];((repeat(refine ndI (by first|assumption) ?_));refine hK _ ?_;clear hK K))|(with_reducible first|(refine Q0c ?_;refine hR _ ?_;clear hR R)|((first|refine Q0d ?_);intro J hJ hJ')|(refine Q0a ?_;intro R hR)|(refine hJ _ ?_;clear hJ hJ' J)|refine Q0k ?_|refine Q0t ?_)|((with_reducible refine hJ' _ _ ?_ ?_);(focus(simp;done));clear hJ hJ' J)|((with_reducible apply Q0e);rfl;rfl;all_goals(intro hc;first|(cases hc;done)|(try simp only at hc))))))
   all_goals(refine⟨by simp,⟨_,?_,AV.le_refl _⟩,Q0h (by simp[leH,hget])⟩;simp only[Tryz.results153,resL,ldA,Q0q,go_sem])
theorem wbytes_fn(W:List UInt64)(hW:W.length=4):Fn Tryz.prog 153 [lnA W] [] (bsl false (wdL W)) []:=by
 have h0:=Z0c W hW (wdS W) rfl (wdS_len W) fun _=>rfl
 rw[wdS_eq] at h0
 have h:=Fn.frzG (d:=6) (pcs:=(wdL W).flatMap bpv) h0
 simp only[AV.frz,beq_self_eq_true,if_true] at h
 rw[if_pos (by rw[Q0o Q4b,X6o])] at h
 rw[show bsl false (wdL W) = .c (.sl false 1 32 ((wdL W).flatMap bpv)) by rw[bsl,X6o]]
 exact h
end
section
open Go.RowKit
open Nat (reduceBEq)
set_option maxRecDepth 20000
set_option maxHeartbeats 2000000
attribute [local simp] Q2h Q0u Q1l
theorem St.to.nilcut{σ : St}(i d e sz:Nat)(h1:σ.T.getD i .any = .c (.v (.slice none 0 0)))(h0:i < σ.T.length)(hf:σ.free d=true)(hd:d<1000):σ.to ⟨σ.T.set i (.cut d e sz 0 0 0 true),hput σ.H d []⟩:=fun E ι a w hc'=>by
 have hv:=hc'.tmp i
 rw[h1] at hv
 obtain⟨hv,_⟩:=hv.v_inv
 have hg:=hc'.grow (w':=w) hf hd (World.grownBy.refl w none) none (fun b hb=>by cases hb) (0,0,e) (cs:=[]) (fun h=>absurd rfl h) rfl (.inl ⟨rfl,rfl⟩)
 refine⟨_,hg.defers,by simpa using hg.size,fun j=>?_,hg.heap,hg.keep⟩
 by_cases hj:j=i
 · subst hj
   have:(σ.T.set j (.cut d e sz 0 0 0 true)).getD j .any = .cut d e sz 0 0 0 true:=by simp[List.getD,List.getElem?_set,h0]
   show RV _ _ w _ ((σ.T.set j (.cut d e sz 0 0 0 true)).getD j .any)
   rw[this,hv];exact .cnil none d e sz 0 true (fun _ _=>by rw[Q1i])
 · have:(σ.T.set i (.cut d e sz 0 0 0 true)).getD j .any = σ.T.getD j .any:=by simp[List.getD,List.getElem?_set,Ne.symm hj]
   show RV _ _ w _ ((σ.T.set i (.cut d e sz 0 0 0 true)).getD j .any)
   rw[this];exact hg.tmp j
def wrR(b:List Nat):Nat→List UInt64
 |0=>zer 4
 |i+1=>(wrR b i).set ((31-i)/8) ((wrR b i).getD ((31-i)/8) 0 ||| UInt64.ofNat (b.getD i 0*2 ^ (8*((31-i)%8))))
theorem X6m(b:List Nat):∀k,(wrR b k).length=4
 |0=>rfl
 |k+1=>by unfold wrR;rw[List.length_set,X6m b k]
theorem wread_fnE(ex:Bool)(l:List Nat)(hl:l.length=32)(hb:∀b∈l,b<256)(X:Nat→List UInt64)(X0:X 0=zer 4)(lx:∀k,(X k).length=4)
 (xs:∀i,X (i+1)=(X i).set ((31-i)/8) ((X i).getD ((31-i)/8) 0 ||| UInt64.ofNat (l.getD i 0*2 ^ (8*((31-i)%8))))) :
 Fn Tryz.prog 180 [bsl ex l] [] (.tup [lnA (X 32),vi .i64 0]) []:=by
 have z4:rcV (zer 4)=[vi .u64 0,vi .u64 0,vi .u64 0,vi .u64 0]:=rfl
 have e0:decide ((l.length:Int)>32)=false:=by rw[hl];rfl
 (refine Q0v Tryz.func180 rfl (by rfl) ?_;simp only[Tryz.ntmps180,List.length_cons,List.length_nil,Nat.reduceAdd,Nat.reduceSub,List.replicate,List.cons_append,List.nil_append])
 (repeat(any_goals(first|((with_reducible refine Q0b ?_ ?_);rfl;intro K hK;simp only[go_sem,e0];((repeat(refine ndI (by first|assumption) ?_));refine hK _ ?_;clear hK K))|(with_reducible first|(refine Q0c ?_;refine hR _ ?_;clear hR R)|((first|refine Q0d ?_|refine Q0g ?_);intro J hJ hJ')|(refine Q0a ?_;intro R hR)|(refine hJ _ ?_;clear hJ hJ' J)|refine Q0i ?_)|((with_reducible apply Q0e);rfl;rfl;all_goals(intro hc;first|(cases hc;done)|(try simp only at hc))))))
 refine Q9j 32 (fun i=>⟨[bsl ex l,.any,.ptr 2 0,.any,.ptr 4 0,.any,.any,.any,.any,.any,.any,.any,bsl ex l,vi .i64 (l.length:Int),vi .i64 (i:Int),.any,.any,.any,.any,.any,.any,.any,.any,.any,.any,.any,.any,.any,.any,.any,.any,.any,.any,.any,.any,.any,.any,.any],[(2,rcV (zer 4)),(4,rcV (X i))]⟩) (St.le_of (by simp[leT]) (by rw[X0,z4];simp[leH,hget])) ?_
 intro i hi J hJ hJ'
 (try dsimp only at hJ ⊢)
 rcases Nat.lt_or_ge i 32 with hlt|hge
 · have k1:(decide ((i:Int)<(l.length:Int)))=true:=by simp;omega
   have k7:(i:Int)+1=((i+1:Nat):Int):=by omega
   have at1:l[i]? = some (l.getD i 0):=by rw[List.getD_eq_getElem?_getD,List.getElem?_eq_getElem (by omega)];rfl
   have at2:=bsl_at at1
   rw[Nat.mul_one] at at2
   have hbk:=X3m hb i
   have xi:=xs i
   obtain⟨b,hbv⟩:∃b,l.getD i 0=b:=⟨_,rfl⟩
   obtain⟨v,hv⟩:∃v,(X i).getD ((31-i)/8) 0=v:=⟨_,rfl⟩
   rw[hbv] at at2 hbk xi
   have k2:=Q3a (l:=X i) (i:=(31-i)/8) (by rw[lx];omega)
   rw[hv] at xi k2
   have w1:IntKind.u64.wrap ((b:Int)*2 ^ min (8*((31-i)%8)) 64)=((UInt64.ofNat (b*2 ^ (8*((31-i)%8)))).toNat:Int):=by
    rw[Nat.min_eq_left (by omega),show((b:Int)*2 ^ (8*((31-i)%8)))=((b*2 ^ (8*((31-i)%8)):Nat):Int) by push_cast;rfl,u64w,UInt64.toNat_ofNat']
   obtain⟨g,hg⟩:∃g,UInt64.ofNat (b*2 ^ (8*((31-i)%8)))=g:=⟨_,rfl⟩
   rw[hg] at w1 xi
   have u1:=u64_or v g
   have k4:=Q8g (X i) ((31-i)/8) (v ||| g) (by rw[lx];omega)
   rw[←xi] at k4
   have k6:(rcV (X i)).length=4:=by rw[Q1x,lx]
   have w2:IntKind.u64.wrap (b:Int)=(b:Int):=by rw[u64w,Nat.mod_eq_of_lt (by omega)]
   have j0:((l.length:Int)-1)-(i:Int)=((31-i:Nat):Int):=by omega
   have j1:Int.tdiv ((31-i:Nat):Int) 8=(((31-i)/8:Nat):Int):=by rw[Int.tdiv_eq_ediv_of_nonneg (by omega)];omega
   have j2:Int.tmod ((31-i:Nat):Int) 8=(((31-i)%8:Nat):Int):=by rw[Int.tmod_eq_emod_of_nonneg (by omega)];omega
   have j3:(8:Int)*(((31-i)%8:Nat):Int)=((8*((31-i)%8):Nat):Int):=by omega
   clear xi hg hv hbv xs X0
   (have W:=ndI at2 (ndI k1 (ndI k2 (ndI k4 (ndI k6 (ndI k7 (ndI j0 (ndI j1 (ndI j2 (ndI j3 (ndI w1 (ndI w2 (ndI u1 @wrI))))))))))));(repeat(any_goals(first|((with_reducible refine Q0b ?_ ?_);rfl;intro K hK;simp(disch:=omega) only[go_sem,W,Nat.mul_one,Int.toNat_natCast,Nat.zero_add];((repeat(refine ndI (by first|assumption|omega|rfl) ?_));refine hK _ ?_;clear hK K))|(with_reducible first|(refine Q0c ?_;refine hR _ ?_;clear hR R)|((first|refine Q0d ?_|refine Q0g ?_);intro J hJ hJ')|(refine Q0a ?_;intro R hR)|(refine hJ _ ?_;clear hJ hJ' J)|refine Q0i ?_)|((with_reducible refine hJ' _ _ ?_ ?_);(focus(simp;done));clear hJ hJ' J)|((with_reducible apply Q0e);rfl;rfl;all_goals(intro hc;first|(cases hc;done)|(try simp only at hc)))|((with_reducible refine Q0z ?_ ?_);(apply Q2e);(focus(repeat(first|exact Sims.nil|((apply Sims.cons);(focus(first|exact Ef.sim_refl _))))));kernel_rfl;(with_reducible refine hR _ ?_);clear hR R)|(((with_reducible apply Q0x);rfl;rfl;(simp(disch:=omega) only[rdE,rdOf,go_sem,W,Nat.mul_one,Int.toNat_natCast,Nat.zero_add];rfl);(intro τ hA hQ hN;((try simp only[Q1o,Op.operands,Call.operands,go_sem,W,Nat.mul_one,Int.toNat_natCast,Nat.zero_add,go_sem,List.mem_cons,List.not_mem_nil,forall_eq_or_imp,forall_eq,List.append_toArray,Option.toArray] at hA);(try simp only[go_sem,W,Nat.mul_one,Int.toNat_natCast,Nat.zero_add,List.mem_cons,List.not_mem_nil,forall_eq_or_imp,forall_eq] at hQ hN);(first|(revert hA;intro hA));(first|(revert hQ;intro hQ));(first|(revert hN;intro hN));simp(disch:=omega) only[go_sem,W,Nat.mul_one,Int.toNat_natCast,Nat.zero_add,go_sem,hA,hQ,hN];(repeat(refine ndI (by first|assumption|omega|rfl) ?_));(first|apply Q1f|apply Q6m))));(simp(disch:=omega) only[St.eff,setO,Q0r,go_sem,W,Nat.mul_one,Int.toNat_natCast,Nat.zero_add]))|((with_reducible refine Q0y ?_ ?_ ?_ ?_);kernel_rfl;kernel_rfl;(simp[Q2c,Q6y,St.free,Q1z,AV.refsL,AV.refs,Q0u]);intro R hR)))))
   exact hJ _ hlt (St.le_of (by simp[leT]) (by simp[leH,hget]))
 · have k1:(decide ((i:Int)<(l.length:Int)))=false:=by simp;omega
   obtain rfl:i=32:=by omega
   have b1:List.take 4 (rcV (X 32))=rcV (X 32):=List.take_of_length_le (by rw[Q1x,lx];omega)
   have b2:(rcV (X 32)).length=4:=by rw[Q1x,lx]
   have b3:List.drop 4 (rcV (X 32))=[]:=List.drop_eq_nil_of_le (by omega)
   have b5:(rcV (zer 4)).length=4:=rfl
   have b4:List.drop 4 (rcV (zer 4))=[]:=rfl
   (have W:=ndI k1 (ndI b1 (ndI b2 (ndI b3 (ndI b4 b5))));(repeat(any_goals(first|((with_reducible refine Q0b ?_ ?_);rfl;intro K hK;simp(disch:=omega) only[go_sem,W,List.append_nil];((repeat(refine ndI (by first|assumption|rfl) ?_));refine hK _ ?_;clear hK K))|(with_reducible first|(refine Q0c ?_;refine hR _ ?_;clear hR R)|((first|refine Q0d ?_);intro J hJ hJ')|(refine Q0a ?_;intro R hR)|(refine hJ _ ?_;clear hJ hJ' J)|refine Q0k ?_|refine Q0t ?_)|((with_reducible refine hJ' _ _ ?_ ?_);(focus(simp;done));clear hJ hJ' J)|((with_reducible apply Q0e);rfl;rfl;all_goals(intro hc;first|(cases hc;done)|(try simp only at hc)))))))
   all_goals(refine⟨by simp,⟨_,?_,AV.le_refl _⟩,Q0h (by simp[leH,hget])⟩;simp only[Tryz.results180,resL,ldA,Q0q,go_sem,b1];rw[if_pos (by omega)];rfl)
theorem wread_fn(ex:Bool)(l:List Nat)(hl:l.length=32)(hb:∀b∈l,b<256):Fn Tryz.prog 180 [bsl ex l] [] (.tup [lnA (wrR l 32),vi .i64 0]) []:=
 wread_fnE ex l hl hb (wrR l) rfl (X6m l) fun _=>rfl
end
section
open Go.RowKit
open Nat (reduceBEq)
set_option maxRecDepth 20000
set_option maxHeartbeats 2000000
def ddN(s:List Int):Nat→List Int
 |0=>[]
 |i+1=>match s[i]? with
  |none=>ddN s i
  |some b=>if 0<i∧s[i-1]? = some b then ddN s i else ddN s i++[b]
theorem X9o{s:List Int}{i:Nat}{a b:Int}(ha:s[i]? = some a)(hb:s[i+1]? = some b)(e:a=b):ddN s (i+2)=ddN s (i+1):=by
 show(match s[i+1]? with|none=>_|some b=>_)=_
 rw[hb]
 dsimp only
 rw[if_pos ⟨by omega,by rw[Nat.add_sub_cancel,ha,e]⟩]
theorem ddN_new{s:List Int}{i:Nat}{a b:Int}(ha:s[i]? = some a)(hb:s[i+1]? = some b)(e:a≠b):ddN s (i+2)=ddN s (i+1)++[b]:=by
 show(match s[i+1]? with|none=>_|some b=>_)=_
 rw[hb]
 dsimp only
 rw[if_neg fun h=>by
  have h2:=h.2
  rw[Nat.add_sub_cancel,ha] at h2
  exact e (Option.some.inj h2)]
theorem ddN_one{s:List Int}{a:Int}(ha:s[0]? = some a):ddN s 1=[a]:=by
 show(match s[0]? with|none=>_|some b=>_)=_
 rw[ha]
 dsimp only
 rw[if_neg fun h=>Nat.lt_irrefl 0 h.1]
 rfl
theorem X3w{s:List Int}:∀{k:Nat},k<s.length→(∀j,j<k→s[j]?≠s[j+1]?)→ddN s (k+1)=s.take (k+1)
 |0,hk,_=>by
  rw[ddN_one (List.getElem?_eq_getElem hk),List.take_add_one,List.getElem?_eq_getElem hk]
  rfl
 |k+1,hk,h=>by
  have ih:=X3w (k:=k) (by omega) fun j hj=>h j (by omega)
  have h1:=h k (by omega)
  rw[List.getElem?_eq_getElem (by omega),List.getElem?_eq_getElem hk] at h1
  rw[ddN_new (List.getElem?_eq_getElem (by omega)) (List.getElem?_eq_getElem hk) (fun e=>h1 (by rw[e])),ih,List.take_add_one (i:=k+1),List.getElem?_eq_getElem hk]
  rfl
theorem ddN_le(s:List Int):∀i,(ddN s i).length≤i
 |0=>Nat.le_refl _
 |i+1=>by
  have ih:=ddN_le s i
  unfold ddN
  split
  · omega
  · split
    · omega
    · rw[List.length_append];simp;omega
theorem X8k{l:List Int}{i:Nat}{y:Int}(h:l[i]? = some y):(rcA l)[i]? = some (vi .u64 y):=by
 unfold rcA
 rw[List.getElem?_map]
 have h2:=Q4s (f:=apv) Q3r h
 rw[Nat.mul_one] at h2
 have h3:(l.flatMap apv)[i]? = some (.v (.int .u64 y)):=by
  have h4:(((l.flatMap apv).drop i).take 1)[0]? = ([PV.v (.int .u64 y)]:List PV)[0]?:=by rw[h2];rfl
  rw[List.getElem?_take,if_pos (by omega),List.getElem?_drop,Nat.add_zero] at h4
  exact h4
 rw[h3]
 rfl
theorem X0a(l r:List Int):rcA (l++r)=rcA l++rcA r:=by
 unfold rcA;rw[List.flatMap_append,List.map_append]
theorem X8i(l:List Int)(k:Nat):(rcA l).take k=rcA (l.take k):=by
 by_cases h:k≤l.length
 · conv=>lhs;rw[←List.take_append_drop k l,X0a]
   exact List.take_left' (by rw[Q5o,List.length_take];omega)
 · rw[List.take_of_length_le (by rw[Q5o];omega),List.take_of_length_le (by omega)]
theorem X8j(l:List Int)(k:Nat):(rcA l).drop k=rcA (l.drop k):=by
 by_cases h:k≤l.length
 · conv=>lhs;rw[←List.take_append_drop k l,X0a]
   exact List.drop_left' (by rw[Q5o,List.length_take];omega)
 · rw[List.drop_of_length_le (by rw[Q5o];omega),List.drop_of_length_le (by omega)]
   rfl
theorem rcA_set(l:List Int)(k:Nat)(x:Int)(h:k<l.length):(rcA l).take k++(vi .u64 x::(rcA l).drop (k+1))=rcA (l.set k x):=by
 rw[X8i,X8j,List.set_eq_take_append_cons_drop,if_pos h,X0a]
 rfl
theorem zerosA_rc(k:Nat):Q3t [.int .u64 0] k=rcA (List.replicate k 0):=by
 unfold Q3t
 induction k with
 |zero=>rfl
 |succ k ih=>
  rw[List.replicate_succ,List.flatten_cons,ih,List.replicate_succ]
  rfl
theorem X3z(s:List Int)(hs:s.length≤1000000):Fn Tryz.prog 89 [.row 1000 23 1 s.length] [(1000,rcA s)] (.row 1000 23 1 (ddN s s.length).length) [(1000,rcA (ddN s s.length++List.replicate (s.length-(ddN s s.length).length) 0))]:=by
 by_cases h2:s.length<2
 · have hd:ddN s s.length=s:=by
    match s,h2 with
    |[],_=>rfl
    |[a],_=>exact ddN_one rfl
   rw[hd,Nat.sub_self,List.replicate_zero,List.append_nil]
   have k1:(decide ((s.length:Int)<2))=true:=by simp;omega
   (refine Q0v Tryz.func89 rfl (by rfl) ?_;simp only[Tryz.ntmps89,List.length_cons,List.length_nil,Nat.reduceAdd,Nat.reduceSub,List.replicate,List.cons_append,List.nil_append])
   (repeat(any_goals(first|((with_reducible refine Q0b ?_ ?_);rfl;intro K hK;simp only[go_sem,k1];((repeat(refine ndI (by first|assumption) ?_));refine hK _ ?_;clear hK K))|(with_reducible first|(refine Q0c ?_;refine hR _ ?_;clear hR R)|((first|refine Q0d ?_);intro J hJ hJ')|(refine Q0a ?_;intro R hR)|(refine hJ _ ?_;clear hJ hJ' J)|refine Q0k ?_)|((with_reducible refine hJ' _ _ ?_ ?_);(focus(simp;done));clear hJ hJ' J)|((with_reducible apply Q0e);rfl;rfl;all_goals(intro hc;first|(cases hc;done)|(try simp only at hc))))))
   all_goals(refine⟨by simp,⟨_,?_,AV.le_refl _⟩,Q0h (by simp[leH,hget])⟩;simp only[Tryz.results89,resL,ldA,Q0q,go_sem])
 · have k1:(decide ((s.length:Int)<2))=false:=by simp;omega
   (refine Q0v Tryz.func89 rfl (by rfl) ?_;simp only[Tryz.ntmps89,List.length_cons,List.length_nil,Nat.reduceAdd,Nat.reduceSub,List.replicate,List.cons_append,List.nil_append])
   (repeat(any_goals(first|((with_reducible refine Q0b ?_ ?_);rfl;intro K hK;simp only[go_sem,k1];((repeat(refine ndI (by first|assumption) ?_));refine hK _ ?_;clear hK K))|(with_reducible first|(refine Q0c ?_;refine hR _ ?_;clear hR R)|((first|refine Q0d ?_|refine Q0g ?_);intro J hJ hJ')|(refine Q0a ?_;intro R hR)|(refine hJ _ ?_;clear hJ hJ' J)|refine Q0i ?_)|((with_reducible apply Q0e);rfl;rfl;all_goals(intro hc;first|(cases hc;done)|(try simp only at hc))))))
   refine Q1t (α:={j:Nat // j<s.length∧∀i,i<j→s[i]?≠s[i+1]?}) (fun x=>⟨[.row 1000 23 1 s.length,.any,.any,vi .i64 ((x.1+1:Nat):Int),.any,.any,.any,.any,.any,.any,.any,.any,.any,.any,.any,.any,.any,.any,.any,.any,.any,.any,.any,.any,.any,.any,.any,.any,.any,.any,.any,.any,.any,.any,.any,.any,.any,.any,.any,.any,.any,.any,.any,.any,.any,.any,.any,.any,.any,.any,.any,.any,.any,.any,.any,.any,.any,.any,.any,.any,.any],[(1000,rcA s)]⟩) (fun x=>s.length-x.1) ⟨0,by omega,fun i hi=>absurd hi (Nat.not_lt_zero _)⟩ (St.le_of (by simp[leT]) (by simp[leH,hget])) ?_
   rintro ⟨j,hj,hnd⟩ J hJ hJ'
   (try dsimp only at hJ ⊢)
   rcases Nat.lt_or_ge (j+1) s.length with hlt|hge
   · have k2:(decide (((j+1:Nat):Int)<(s.length:Int)))=true:=by simp;omega
     have k3:((j+1:Nat):Int)-1=(j:Int):=by omega
     have k4:((j+1:Nat):Int)+1=((j+1+1:Nat):Int):=by omega
     obtain⟨a,ha⟩:∃a,s[j]? = some a:=⟨_,List.getElem?_eq_getElem hj⟩
     obtain⟨b,hb⟩:∃b,s[j+1]? = some b:=⟨_,List.getElem?_eq_getElem hlt⟩
     have ea:=X8k ha
     have eb:=X8k hb
     by_cases hab:b=a
     · have k5:(b==a)=true:=by simp[hab]
       have hd0:ddN s (j+1)=s.take (j+1):=X3w hj hnd
       have hd1:ddN s (j+2)=s.take (j+1):=by rw[X9o ha hb hab.symm,hd0]
       have hd2:(ddN s (j+2)).length=j+1:=by rw[hd1,List.length_take];omega
       (have W:=ndI k2 (ndI k3 (ndI k4 (ndI k5 @wrI)));(repeat(any_goals(first|((with_reducible refine Q0b ?_ ?_);rfl;intro K hK;simp(disch:=omega) only[go_sem,W,ea,eb,Nat.mul_one];((repeat(refine ndI (by first|assumption|rfl) ?_));refine hK _ ?_;clear hK K))|((with_reducible refine Q0b ?_ ?_);rfl;intro K hK;(try simp(disch:=omega) only[go_sem,W,ea,eb,Nat.mul_one]);(repeat(refine ndI (by first|assumption|rfl) ?_));refine Q4d rfl rfl rfl rfl rfl ?_ rfl rfl rfl rfl ?_ ?_ ?_;(focus(simp only[go_sem];try rfl));(intro h;first|cases h);(first|omega);(intro q hq1 hq2;(simp(disch:=omega) only[go_sem,W,ea,eb,Nat.mul_one];refine hK _ ?_;clear hK K)))|(with_reducible first|(refine Q0c ?_;refine hR _ ?_;clear hR R)|((first|refine Q0d ?_|refine Q0g ?_);intro J hJ hJ')|(refine Q0a ?_;intro R hR)|(refine hJ _ ?_;clear hJ hJ' J)|refine Q0i ?_)|((with_reducible apply Q0e);rfl;rfl;all_goals(intro hc;first|(cases hc;done)|(try simp only at hc)))|((with_reducible refine Q0z ?_ ?_);kernel_rfl;(with_reducible refine hR _ ?_);clear hR R)|(((with_reducible apply Q0x);rfl;rfl;(simp(disch:=omega) only[rdE,rdOf,go_sem,W,ea,eb,Nat.mul_one];rfl);(intro τ hA hQ hN;((try simp only[Q1o,Op.operands,Call.operands,go_sem,W,ea,eb,Nat.mul_one,go_sem,List.mem_cons,List.not_mem_nil,forall_eq_or_imp,forall_eq,List.append_toArray,Option.toArray] at hA);(try simp only[go_sem,W,ea,eb,Nat.mul_one,List.mem_cons,List.not_mem_nil,forall_eq_or_imp,forall_eq] at hQ hN);(first|(revert hA;intro hA));(first|(revert hQ;intro hQ));(first|(revert hN;intro hN));simp(disch:=omega) only[go_sem,W,ea,eb,Nat.mul_one,go_sem,hA,hQ,hN];(repeat(refine ndI (by first|assumption|omega|rfl) ?_));(first|apply Q1f))));(simp(disch:=omega) only[St.eff,setO,Q0r,go_sem,W,ea,eb,Nat.mul_one]))|((with_reducible refine Q0y ?_ ?_ ?_ ?_);kernel_rfl;kernel_rfl;(first|kernel_rfl);intro R hR)))))
       refine Q1t (α:={p:Nat×List Int // j+2+p.1≤s.length∧p.2.length=s.length∧(ddN s (j+2+p.1)).length≤j+1+p.1∧p.2.take (ddN s (j+2+p.1)).length=ddN s (j+2+p.1)∧p.2.drop (j+1+p.1)=s.drop (j+1+p.1)}) (fun x=>⟨[.row 1000 23 1 s.length,.any,.any,vi .i64 ((ddN s (j+2+x.1.1)).length:Int),.cut 1000 23 1 (j+1) (s.length-(j+1)) q true,vi .i64 ((x.1.1+1:Nat):Int),.any,.any,.any,.any,.any,.any,.any,.any,.any,.any,.any,.any,.any,.any,.any,.any,.any,.any,.any,.any,.any,.any,.any,.any,.any,.any,.any,.any,.any,.any,.any,.any,.any,.any,.any,.any,.any,.any,.any,.any,.any,.any,.any,.any,.any,.any,.any,.any,.any,.any,.any,.any,.any,.any,.any],[(1000,rcA x.1.2)]⟩) (fun x=>s.length-x.1.1) ⟨(0,s),by dsimp only;omega,rfl,by dsimp only;rw[Nat.add_zero,hd2];omega,by dsimp only;rw[Nat.add_zero,hd2,hd1],rfl⟩ (St.le_of (by simp[leT,hd2]) (by simp[leH,hget])) ?_
       rintro ⟨⟨i,m⟩,c1,c2,c3,c4,c5⟩ J hJ hJ'
       dsimp only at c1 c2 c3 c4 c5
       (try dsimp only at hJ ⊢)
       obtain⟨d,hd⟩:∃d,(ddN s (j+2+i)).length=d:=⟨_,rfl⟩
       rcases Nat.lt_or_ge (j+2+i) s.length with hlt2|hge2
       · have n2:(decide (((i+1:Nat):Int)<((s.length-(j+1):Nat):Int)))=true:=by simp;omega
         have n3:((i+1:Nat):Int)-1=(i:Int):=by omega
         have n4:((i+1:Nat):Int)+1=((i+1+1:Nat):Int):=by omega
         have n6:((d:Nat):Int)+1=((d+1:Nat):Int):=by omega
         obtain⟨a',ha'⟩:∃a,s[j+1+i]? = some a:=⟨_,List.getElem?_eq_getElem (by omega)⟩
         obtain⟨b',hb'⟩:∃b,s[j+1+i+1]? = some b:=⟨_,List.getElem?_eq_getElem (by omega)⟩
         have hm:∀x,m[j+1+i+x]? = s[j+1+i+x]?:=fun x=>by
          rw[←List.getElem?_drop,←List.getElem?_drop,c5]
         have ea':=X8k (l:=m) (by rw[←ha'];exact hm 0)
         have eb':=X8k (l:=m) (by rw[←hb'];exact hm 1)
         rw[Nat.add_assoc (j+1) i 1] at eb'
         rw[Nat.add_zero] at ea'
         have c3':d≤j+1+i:=by rw[←hd];exact c3
         have hset:(rcA m).take d++[vi .u64 b']++(rcA m).drop (d+1)=rcA (m.set d b'):=by
          rw[List.append_assoc]
          exact rcA_set m d b' (by omega)
         have hdl:d<s.length:=by omega
         have hml:(rcA m).length=s.length:=by rw[Q5o,c2,Nat.mul_one]
         rw[hd] at c3 c4
         rw[hd]
         by_cases hab':b'=a'
         · have n5:(b' != a')=false:=by simp[hab']
           have en:=X9o (s:=s) ha' hb' hab'.symm
           have hJ1:=fun σ'=>hJ σ' ⟨(i+1,m),by dsimp only;omega,c2,by
            dsimp only
            rw[show j+2+(i+1)=j+1+i+2 by omega,en,show j+1+i+1=j+2+i by omega,hd]
            omega,by
            dsimp only
            rw[show j+2+(i+1)=j+1+i+2 by omega,en,show j+1+i+1=j+2+i by omega,hd]
            exact c4,by
            dsimp only
            rw[show j+1+(i+1)=j+1+i+1 by omega,←List.drop_drop,c5,List.drop_drop]⟩ (by dsimp only;omega)
           dsimp only at hJ1
           rw[show j+2+(i+1)=j+1+i+2 by omega,en,show j+1+i+1=j+2+i by omega,hd] at hJ1
           (have W:=ndI n2 (ndI n3 (ndI n4 (ndI n5 (ndI n6 @wrI))));(repeat(any_goals(first|((with_reducible refine Q0b ?_ ?_);rfl;intro K hK;simp(disch:=omega) only[go_sem,W,ea',eb',hset,hml,Nat.mul_one];((repeat(refine ndI (by first|assumption|rfl) ?_));refine hK _ ?_;clear hK K))|(with_reducible first|(refine Q0c ?_;refine hR _ ?_;clear hR R)|((first|refine Q0d ?_|refine Q0g ?_);intro J hJ hJ')|(refine Q0a ?_;intro R hR)|(refine hJ _ ?_;clear hJ hJ' J)|refine Q0i ?_)|((with_reducible refine hJ' _ _ ?_ ?_);(focus(simp;done));clear hJ hJ' J)|((with_reducible apply Q0e);rfl;rfl;all_goals(intro hc;first|(cases hc;done)|(try simp only at hc)))|((with_reducible refine Q0z ?_ ?_);kernel_rfl;(with_reducible refine hR _ ?_);clear hR R)|((first|((with_reducible apply Q0x);rfl;rfl;(simp(disch:=omega) only[rdE,rdOf,go_sem,W,ea',eb',hset,hml,Nat.mul_one];rfl);(intro τ hA hQ hN;((try simp only[Q1o,Op.operands,Call.operands,go_sem,W,ea',eb',hset,hml,Nat.mul_one,go_sem,List.mem_cons,List.not_mem_nil,forall_eq_or_imp,forall_eq,List.append_toArray,Option.toArray] at hA);(try simp only[go_sem,W,ea',eb',hset,hml,Nat.mul_one,List.mem_cons,List.not_mem_nil,forall_eq_or_imp,forall_eq] at hQ hN);(first|(revert hA;intro hA));(first|(revert hQ;intro hQ));(first|(revert hN;intro hN));simp(disch:=omega) only[go_sem,W,ea',eb',hset,hml,Nat.mul_one,go_sem,hA,hQ,hN];(repeat(refine ndI (by first|assumption|rfl) ?_));(first|apply Q1f))))|((first|((with_reducible apply Q3n);rfl));apply Q2k;rfl;rfl;rfl;rfl;rfl;(focus(simp only[go_sem];try rfl));(first|omega)));(simp(disch:=omega) only[St.eff,setO,Q0r,go_sem,W,ea',eb',hset,hml,Nat.mul_one]))|((with_reducible refine Q0y ?_ ?_ ?_ ?_);kernel_rfl;kernel_rfl;(first|kernel_rfl);intro R hR)))))
           all_goals exact hJ1 _ (St.le_of (by simp[leT]) (by simp[leH,hget]))
         · have n5:(b' != a')=true:=by simp[hab']
           have en:=ddN_new (s:=s) ha' hb' (fun e=>hab' e.symm)
           have hl':(ddN s (j+1+i+2)).length=d+1:=by
            rw[en,List.length_append,show j+1+i+1=j+2+i by omega,hd];rfl
           have hJ1:=fun σ'=>hJ σ' ⟨(i+1,m.set d b'),by dsimp only;omega,by dsimp only;rw[List.length_set];exact c2,by
            dsimp only
            rw[show j+2+(i+1)=j+1+i+2 by omega,hl']
            omega,by
            dsimp only
            rw[show j+2+(i+1)=j+1+i+2 by omega,hl',en,show j+1+i+1=j+2+i by omega,List.set_eq_take_append_cons_drop,if_pos (by omega),c4,List.take_append,hd]
            rw[List.take_of_length_le (by omega),show d+1-d=1 by omega]
            rfl,by
            dsimp only
            rw[List.drop_set,if_pos (by omega),show j+1+(i+1)=j+1+i+1 by omega,←List.drop_drop,c5,List.drop_drop]⟩ (by dsimp only;omega)
           dsimp only at hJ1
           rw[show j+2+(i+1)=j+1+i+2 by omega,hl'] at hJ1
           (have W:=ndI n2 (ndI n3 (ndI n4 (ndI n5 (ndI n6 @wrI))));(repeat(any_goals(first|((with_reducible refine Q0b ?_ ?_);rfl;intro K hK;simp(disch:=omega) only[go_sem,W,ea',eb',hset,hml,Nat.mul_one];((repeat(refine ndI (by first|assumption|omega|rfl) ?_));refine hK _ ?_;clear hK K))|((with_reducible refine Q0b ?_ ?_);rfl;intro K hK;(try simp(disch:=omega) only[go_sem,W,ea',eb',hset,hml,Nat.mul_one]);(repeat(refine ndI (by first|assumption|rfl) ?_));refine Q1n rfl rfl rfl rfl rfl ?_ ?_ ?_;(focus(simp only[go_sem];try rfl));(first|omega);(simp(disch:=omega) only[go_sem,W,ea',eb',hset,hml,Nat.mul_one];refine hK _ ?_;clear hK K))|(with_reducible first|(refine Q0c ?_;refine hR _ ?_;clear hR R)|((first|refine Q0d ?_|refine Q0g ?_);intro J hJ hJ')|(refine Q0a ?_;intro R hR)|(refine hJ _ ?_;clear hJ hJ' J)|refine Q0i ?_)|((with_reducible refine hJ' _ _ ?_ ?_);(focus(simp;done));clear hJ hJ' J)|((with_reducible apply Q0e);rfl;rfl;all_goals(intro hc;first|(cases hc;done)|(try simp only at hc)))|((with_reducible refine Q0z ?_ ?_);kernel_rfl;(with_reducible refine hR _ ?_);clear hR R)|((first|((with_reducible apply Q0x);rfl;rfl;(simp(disch:=omega) only[rdE,rdOf,go_sem,W,ea',eb',hset,hml,Nat.mul_one];rfl);(intro τ hA hQ hN;((try simp only[Q1o,Op.operands,Call.operands,go_sem,W,ea',eb',hset,hml,Nat.mul_one,go_sem,List.mem_cons,List.not_mem_nil,forall_eq_or_imp,forall_eq,List.append_toArray,Option.toArray] at hA);(try simp only[go_sem,W,ea',eb',hset,hml,Nat.mul_one,List.mem_cons,List.not_mem_nil,forall_eq_or_imp,forall_eq] at hQ hN);(first|(revert hA;intro hA));(first|(revert hQ;intro hQ));(first|(revert hN;intro hN));simp(disch:=omega) only[go_sem,W,ea',eb',hset,hml,Nat.mul_one,go_sem,hA,hQ,hN];(repeat(refine ndI (by first|assumption|rfl) ?_));(first|apply Q1f))))|((first|((with_reducible apply Q3n);rfl));apply Q2k;rfl;rfl;rfl;rfl;rfl;(focus(simp only[go_sem];try rfl));(first|omega)));(simp(disch:=omega) only[St.eff,setO,Q0r,go_sem,W,ea',eb',hset,hml,Nat.mul_one]))|((with_reducible refine Q0y ?_ ?_ ?_ ?_);kernel_rfl;kernel_rfl;(first|kernel_rfl);intro R hR)))))
           all_goals exact hJ1 _ (St.le_of (by simp[leT]) (by simp[leH,hget]))
       · have n2:(decide (((i+1:Nat):Int)<((s.length-(j+1):Nat):Int)))=false:=by simp;omega
         have e:j+2+i=s.length:=by omega
         rw[e] at hd c4
         rw[hd] at c4
         have hdl:d≤s.length:=by rw[←hd];exact ddN_le s _
         have hml:=Q5o m
         have hfin:rcA (ddN s s.length++List.replicate (s.length-d) 0)=spl (rcA m) d (Q3t [.int .u64 0] (s.length-d)):=by
          unfold spl
          rw[zerosA_rc,Q5o,List.length_replicate,X0a,X8i,c4,X8j,List.drop_of_length_le (by omega)]
          show _=_++[]
          rw[List.append_nil]
         rw[e,hd]
         have hr:(AV.row 1000 23 1 (ddN s s.length).length) = .row 1000 23 1 d:=by rw[hd]
         have hcc:ddN s s.length++List.replicate (s.length-(ddN s s.length).length) 0=ddN s s.length++List.replicate (s.length-d) 0:=by rw[hd]
         (repeat(any_goals(first|((with_reducible refine Q0b ?_ ?_);rfl;intro K hK;simp(disch:=omega) only[go_sem,n2,wrI,Nat.mul_one];((repeat(refine ndI (by first|assumption|rfl) ?_));refine hK _ ?_;clear hK K))|((with_reducible refine Q0b ?_ ?_);rfl;intro K hK;(try simp(disch:=omega) only[go_sem,n2,wrI,Nat.mul_one]);(repeat(refine ndI (by first|assumption|rfl) ?_));refine Q4d rfl rfl rfl rfl rfl ?_ rfl rfl rfl rfl ?_ ?_ ?_;(focus(simp only[go_sem];try rfl));(intro h;first|rfl|cases h);(first|omega);(intro q hq1 hq2;(simp(disch:=omega) only[go_sem,n2,wrI,Nat.mul_one];refine hK _ ?_;clear hK K)))|((with_reducible refine Q0b ?_ ?_);rfl;intro K hK;(try simp(disch:=omega) only[go_sem,n2,wrI,Nat.mul_one]);(repeat(refine ndI (by first|assumption) ?_));apply Q5r;rfl;rfl;(focus(simp only[go_sem];try rfl));(first|omega);(simp(disch:=omega) only[go_sem,Option.bind_some];rfl);rfl;rfl;rfl;rfl;(first|omega);(simp(disch:=omega) only[go_sem,n2,wrI,Nat.mul_one];refine hK _ ?_;clear hK K))|(with_reducible first|(refine Q0c ?_;refine hR _ ?_;clear hR R)|((first|refine Q0d ?_);intro J hJ hJ')|(refine Q0a ?_;intro R hR)|(refine hJ _ ?_;clear hJ hJ' J)|refine Q0k ?_|refine Q0t ?_)|((with_reducible refine hJ' _ _ ?_ ?_);(focus(simp;done));clear hJ hJ' J)|((with_reducible apply Q0e);rfl;rfl;all_goals(intro hc;first|(cases hc;done)|(try simp only at hc))))))
         all_goals rw[hr,hcc,hfin]
         all_goals refine⟨by simp,⟨_,rfl,AV.le_cut _ _ _ _ _⟩,Q0h ⟨?_,trivial⟩⟩
         all_goals simp[Q1y,spl,List.append_assoc]
     · have k5:(b==a)=false:=by simp[hab]
       have hJ1:=fun σ'=>hJ σ' ⟨j+1,hlt,fun i hi=>by
        rcases Nat.lt_or_ge i j with h|h
        · exact hnd i h
        · obtain rfl:i=j:=by omega
          rw[ha,hb]
          exact fun e=>hab (Option.some.inj e).symm⟩ (by dsimp only;omega)
       dsimp only at hJ1
       (have W:=ndI k2 (ndI k3 (ndI k4 (ndI k5 @wrI)));(repeat(any_goals(first|((with_reducible refine Q0b ?_ ?_);rfl;intro K hK;simp(disch:=omega) only[go_sem,W,ea,eb,Nat.mul_one];((repeat(refine ndI (by first|assumption|rfl) ?_));refine hK _ ?_;clear hK K))|(with_reducible first|(refine Q0c ?_;refine hR _ ?_;clear hR R)|((first|refine Q0d ?_|refine Q0g ?_);intro J hJ hJ')|(refine Q0a ?_;intro R hR)|(refine hJ _ ?_;clear hJ hJ' J)|refine Q0i ?_)|((with_reducible refine hJ' _ _ ?_ ?_);(focus(simp;done));clear hJ hJ' J)|((with_reducible apply Q0e);rfl;rfl;all_goals(intro hc;first|(cases hc;done)|(try simp only at hc)))|((with_reducible refine Q0z ?_ ?_);kernel_rfl;(with_reducible refine hR _ ?_);clear hR R)|(((with_reducible apply Q0x);rfl;rfl;(simp(disch:=omega) only[rdE,rdOf,go_sem,W,ea,eb,Nat.mul_one];rfl);(intro τ hA hQ hN;((try simp only[Q1o,Op.operands,Call.operands,go_sem,W,ea,eb,Nat.mul_one,go_sem,List.mem_cons,List.not_mem_nil,forall_eq_or_imp,forall_eq,List.append_toArray,Option.toArray] at hA);(try simp only[go_sem,W,ea,eb,Nat.mul_one,List.mem_cons,List.not_mem_nil,forall_eq_or_imp,forall_eq] at hQ hN);(first|(revert hA;intro hA));(first|(revert hQ;intro hQ));(first|(revert hN;intro hN));simp(disch:=omega) only[go_sem,W,ea,eb,Nat.mul_one,go_sem,hA,hQ,hN];(repeat(refine ndI (by first|assumption|omega|rfl) ?_));(first|apply Q1f))));(simp(disch:=omega) only[St.eff,setO,Q0r,go_sem,W,ea,eb,Nat.mul_one]))|((with_reducible refine Q0y ?_ ?_ ?_ ?_);kernel_rfl;kernel_rfl;(first|kernel_rfl);intro R hR)))))
       all_goals exact hJ1 _ (St.le_of (by simp[leT]) (by simp[leH,hget]))
   · have k2:(decide (((j+1:Nat):Int)<(s.length:Int)))=false:=by simp;omega
     have hd:ddN s s.length=s:=by
      have e:s.length=j+1:=by omega
      rw[e,X3w hj hnd,←e,List.take_length]
     have hr:(AV.row 1000 23 1 (ddN s s.length).length) = .row 1000 23 1 s.length:=by rw[hd]
     have hcc:ddN s s.length++List.replicate (s.length-(ddN s s.length).length) 0=s:=by rw[hd,Nat.sub_self,List.replicate_zero,List.append_nil]
     (repeat(any_goals(first|((with_reducible refine Q0b ?_ ?_);rfl;intro K hK;simp only[go_sem,k2];((repeat(refine ndI (by first|assumption) ?_));refine hK _ ?_;clear hK K))|(with_reducible first|(refine Q0c ?_;refine hR _ ?_;clear hR R)|((first|refine Q0d ?_);intro J hJ hJ')|(refine Q0a ?_;intro R hR)|(refine hJ _ ?_;clear hJ hJ' J)|refine Q0k ?_|refine Q0t ?_)|((with_reducible refine hJ' _ _ ?_ ?_);(focus(simp;done));clear hJ hJ' J)|((with_reducible apply Q0e);rfl;rfl;all_goals(intro hc;first|(cases hc;done)|(try simp only at hc))))))
     all_goals rw[hr,hcc]
     all_goals(refine⟨by simp,⟨_,?_,AV.le_refl _⟩,Q0h (by simp[leH,hget])⟩;simp only[Tryz.results89,resL,ldA,Q0q,go_sem])
end
section
open Go.RowKit
theorem Q7a{α : Type}[Inhabited α]{enc:α→Value}{w:World}{blk m:Nat}{d:Array α}{os:Array Obj}{cur:Array Value}{t:TypeId}(hb:w.heap[blk]? = some (.cells cur t (0,0))) :
 (sortWorld enc w blk 0 m d os).heap[blk]? = some (.cells (Sort.putCells enc 0 d cur) t (0,0)):=by
 have hlt:blk<w.heap.size:=(Array.getElem?_eq_some_iff.1 hb).1
 unfold sortWorld
 rw[Sort.heap_grow_old _ _ (by rw[Sort.size_putRow];exact hlt)]
 show(w.heap.modify blk (Sort.onCells (Sort.putCells enc 0 d)))[blk]? = _
 rw[Array.getElem?_modify,if_pos rfl,hb]
 rfl
theorem Q3p{α : Type}[Inhabited α]{enc:α→Value}{w:World}{blk m b:Nat}{d:Array α}{os:Array Obj}(hlt:b<w.heap.size)(hne:blk≠b) :
 (sortWorld enc w blk 0 m d os).heap[b]? = w.heap[b]?:=by
 unfold sortWorld
 rw[Sort.heap_grow_old _ _ (by rw[Sort.size_putRow];exact hlt)]
 show(w.heap.modify blk (Sort.onCells (Sort.putCells enc 0 d)))[b]? = _
 rw[Array.getElem?_modify,if_neg hne]
theorem Q6r{α : Type}[Inhabited α]{enc:α→Value}{w:World}{blk m:Nat}{d:Array α}{os:Array Obj}:w.heap.size≤(sortWorld enc w blk 0 m d os).heap.size:=by
 unfold sortWorld
 rw[Sort.size_grow,Sort.size_putRow]
 exact Nat.le_add_right _ _
theorem Q7b{w:World}{b:Nat}{cs:Array Value}{t:TypeId}(hb:w.heap[b]? = some (.cells cs t (0,0)))(j:Nat):w.frozen? ⟨b,j,none⟩=false:=by
 unfold World.frozen?
 rw[hb]
 simp
theorem X7l{w:World}{b:Nat}{cs:Array Value}{t:TypeId}(hb:w.heap[b]? = some (.cells cs t (0,0)))(j:Nat):w.cell? ⟨b,j,none⟩=cs[j]?:=by
 unfold World.cell?
 rw[hb]
 rfl
theorem Fn.sorting{α : Type}[Inhabited α]{P:Program}{f g:FuncId}{e:TypeId}{enc:α→Value}(h1:∀x,(enc x).oneCell'=true)(l l':List α)(hlen:l'.length=l.length)
 (hS:∀(blk cap:Nat) (w:World),l≠[]→Sort.Holds enc w blk 0 l.toArray→blk<w.heap.size→Calls P f #[.slice (some ⟨blk,0,none⟩) l.toArray.size cap,.func (.func g) #[] #[]] w fun e w'=>e = .returned (.tuple #[])∧∃n os,w'=sortWorld enc w blk 0 n l'.toArray os)
 (h0:∀p cap w,Calls P f #[.slice p 0 cap,.func (.func g) #[] #[]] w fun e w'=>e = .returned (.tuple #[])∧w'=w) :
 Fn P f [.row 1000 e 1 l.length,.fn g []] [(1000,l.map fun x=>.c (.v (enc x)))] (.tup []) [(1000,l'.map fun x=>.c (.v (enc x)))]:=by
 intro E vs hD hsep hH hvl hv
 obtain⟨v0,v1,rfl⟩:∃v0 v1,vs=[v0,v1]:=by
  match vs,hvl with
  |[v0,v1],_=>exact⟨v0,v1,rfl⟩
 have r0:=hv 0 v0 _ rfl rfl
 have r1:=hv 1 v1 _ rfl rfl
 have hmine:(∀(q:Nat) cs,hget [(1000,l'.map fun x=>AV.c (.v (enc x)))] q=some cs→(q∈E.D→E.ι q=E.ι q)∧(q∉E.D→(E.ι q).2.1≠0→Mine E (E.ι q).1)):=fun q cs hq=>
  ⟨fun _=>rfl,fun hn _=>by
    rw[hD] at hn
    simp only[hget] at hq
    split at hq
    · rename_i e;subst e;simp at hn
    · cases hq⟩
 have hblk0:=hH.blk 1000 (l.map fun x=>AV.c (.v (enc x))) (by simp[hget])
 cases r1 with
 |fn _ us _ hul hus=>
 obtain rfl:=List.eq_nil_of_length_eq_zero hul
 have hnone:∀p c,l=[]→v0 = .slice p 0 c→Calls P f [v0,.func (.func g) #[] #[]].toArray E.w fun e w'=>∃v ι',e = .returned v∧RV (Sx E ι' [(1000,l'.map fun x=>AV.c (.v (enc x)))]) ι' w' v (.tup [])∧ConcH (Sx E ι' [(1000,l'.map fun x=>AV.c (.v (enc x)))]) ι' [(1000,l'.map fun x=>AV.c (.v (enc x)))] w'∧Keep E ι' [(1000,l'.map fun x=>AV.c (.v (enc x)))] w':=by
  intro p c hl0 hv0
  subst hl0 hv0
  obtain rfl:=List.eq_nil_of_length_eq_zero hlen
  refine(h0 p c E.w).mono ?_
  rintro e w' ⟨rfl,rfl⟩
  refine⟨_,E.ι,rfl,.tup [] [] rfl (fun j u x hu=>by cases hu),⟨fun q cs hq=>?_,fun q q' cs ds hq hq' hne=>?_⟩,⟨rfl,rfl,rfl,Nat.le_refl _,fun _ _ _=>rfl,hmine⟩⟩
  · simp only[hget] at hq
    split at hq
    · rename_i e;subst e;cases hq
      rcases hblk0 with hb|⟨cur,hc1,hc2,hc3,hc4,hc5⟩
      · exact .inl hb
      · exact .inr ⟨cur,hc1,hc2,hc3,fun j u x hu hx=>(by cases hx),hc5⟩
    · cases hq
  · simp only[hget] at hq hq'
    split at hq
    · split at hq'
      · omega
      · cases hq'
    · cases hq
 rcases Nat.eq_zero_or_pos l.length with hl0|hl0
 · generalize hn:l.length=n at r0
   have hn0:n=0:=by omega
   cases r0 with
   |row _ _ _ _ c k1 k2 k3 k4 k0=>exact hnone _ _ (List.eq_nil_of_length_eq_zero hl0) (by rw[hn0])
   |rnil A _ _ _ k=>exact hnone A 0 (List.eq_nil_of_length_eq_zero hl0) rfl
 · have hne:l≠[]:=fun h=>by rw[h] at hl0;exact Nat.lt_irrefl _ hl0
   generalize hn:l.length=n at r0
   cases r0 with
   |rnil A _ _ _ k=>omega
   |row _ _ _ _ c k1 k2 k3 k4 k0=>
    rcases hblk0 with hb|⟨cur,hc1,hc2,hc3,hc4,hc5⟩
    · exact absurd hb.1 k0
    · rw[List.length_map] at hc3
      have hlt:(E.ι 1000).1<E.w.heap.size:=(Array.getElem?_eq_some_iff.1 hc1).1
      have hsz:l.toArray.size=n:=by simp[hn]
      have hHo:Sort.Holds enc E.w (E.ι 1000).1 0 l.toArray:=by
       intro j hj
       rw[hsz] at hj
       have hjc:j<cur.size:=by omega
       refine⟨?_,Q7b hc1 _⟩
       rw[Nat.zero_add,X7l hc1,Array.getElem?_eq_getElem hjc]
       obtain⟨hrv,_⟩:=hc4 j _ (.c (.v (enc l[j]))) (Array.getElem?_eq_getElem hjc) (by rw[List.getElem?_map,List.getElem?_eq_getElem (by omega)];rfl)
       generalize cur[j]=u at hrv ⊢
       cases hrv with
       |c _ _ hp=>
        cases hp with
        |v=>
         rw[getElem!_pos _ j (by simp;omega)]
         simp
      have hC:=hS (E.ι 1000).1 c E.w hne hHo hlt
      rw[hsz] at hC
      refine hC.mono ?_
      rintro e w' ⟨rfl,m,os,rfl⟩
      have hnew:=Q7a (enc:=enc) (m:=m) (d:=l'.toArray) (os:=os) hc1
      have hcs:(Sort.putCells enc 0 l'.toArray cur).size=cur.size:=by simp[Sort.putCells]
      have hcell:∀(j:Nat) (u:Value),(Sort.putCells enc 0 l'.toArray cur)[j]? = some u→∃y,cur[j]? = some y∧u=if j<l'.length then enc l'.toArray[j]! else y:=by
       intro j u hu
       have hj:j<cur.size:=by rw[←hcs];exact(Array.getElem?_eq_some_iff.1 hu).1
       refine⟨_,Array.getElem?_eq_getElem hj,?_⟩
       simp only[Sort.putCells,Array.getElem?_mapIdx,Array.getElem?_eq_getElem hj,Option.map_some,Option.some.injEq] at hu
       rw[←hu]
       simp
      refine⟨_,E.ι,rfl,.tup [] [] rfl (fun j u x hu=>by cases hu),⟨fun q cs hq=>?_,fun q q' cs ds hq hq' hne'=>?_⟩,⟨rfl,rfl,rfl,Q6r,fun b hb hnb=>?_,hmine⟩⟩
      · simp only[hget] at hq
        split at hq
        · rename_i e;subst e;cases hq
          refine .inr ⟨_,hnew,by rw[hcs];exact hc2,by rw[hcs,List.length_map];omega,fun j u x hu hx=>?_,fun u hu=>?_⟩
          · obtain⟨y,hy,rfl⟩:=hcell j u hu
            rw[List.getElem?_map,Option.map_eq_some_iff] at hx
            obtain⟨z,hz,rfl⟩:=hx
            have hj:=(List.getElem?_eq_some_iff.1 hz).1
            rw[if_pos hj]
            have:l'.toArray[j]! = z:=by
             rw[getElem!_pos _ j (by simpa using hj)]
             simp
             exact(List.getElem?_eq_some_iff.1 hz).2
            rw[this]
            exact⟨.c _ _ (.v _ (h1 z)),h1 z⟩
          · obtain⟨j,hj⟩:=List.mem_iff_getElem?.1 hu
            rw[Array.getElem?_toList] at hj
            obtain⟨y,hy,rfl⟩:=hcell j u hj
            split
            · exact h1 _
            · exact hc5 y (by
               rw[←Array.getElem?_toList] at hy
               exact List.mem_of_getElem? hy)
        · cases hq
      · simp only[hget] at hq hq'
        split at hq
        · split at hq'
          · omega
          · cases hq'
        · cases hq
      · exact Q3p hb (hnb 1000 (by rw[hD];simp) k0)
end
section
open Go.RowKit
set_option maxRecDepth 20000
set_option maxHeartbeats 2000000
def X4p:Go.Shelf.Ren:=⟨fun|6=>87|15=>76|14=>140|28=>130|29=>131|20=>162|21=>163|22=>164|23=>165|24=>166|25=>167|26=>168|27=>169|46=>181|47=>155|48=>156|49=>182|50=>183|57=>188|n=>n,fun|22=>25|24=>23|25=>116|3=>3|39=>55|0=>0|53=>160|55=>22|4=>4|46=>153|45=>152|50=>157|5=>5|9=>9|66=>184|70=>188|76=>203|77=>204|n=>n,fun|n=>n⟩
theorem sortL:Go.Proofs.SlLaysF.n6 Tryz.prog X4p where
 mixed:=by kernel_rfl
 f6:=⟨"slices.SortFunc[[]sheafer/api.Addr,sheafer/api.Addr]",by decide,Tryz.func87.trans (congrArg some (by kernel_rfl))⟩
 f14:=⟨"slices.pdqsortCmpFunc[sheafer/api.Addr]",by decide,Tryz.func140.trans (congrArg some (by kernel_rfl))⟩
 f15:=Tryz.func76.trans (congrArg some (by kernel_rfl))
 f20:=⟨"slices.insertionSortCmpFunc[sheafer/api.Addr]",by decide,Tryz.func162.trans (congrArg some (by kernel_rfl))⟩
 f21:=⟨"slices.heapSortCmpFunc[sheafer/api.Addr]",by decide,Tryz.func163.trans (congrArg some (by kernel_rfl))⟩
 f22:=⟨"slices.breakPatternsCmpFunc[sheafer/api.Addr]",by decide,Tryz.func164.trans (congrArg some (by kernel_rfl))⟩
 f23:=⟨"slices.choosePivotCmpFunc[sheafer/api.Addr]",by decide,Tryz.func165.trans (congrArg some (by kernel_rfl))⟩
 f24:=⟨"slices.reverseRangeCmpFunc[sheafer/api.Addr]",by decide,Tryz.func166.trans (congrArg some (by kernel_rfl))⟩
 f25:=⟨"slices.partialInsertionSortCmpFunc[sheafer/api.Addr]",by decide,Tryz.func167.trans (congrArg some (by kernel_rfl))⟩
 f26:=⟨"slices.partitionEqualCmpFunc[sheafer/api.Addr]",by decide,Tryz.func168.trans (congrArg some (by kernel_rfl))⟩
 f27:=⟨"slices.partitionCmpFunc[sheafer/api.Addr]",by decide,Tryz.func169.trans (congrArg some (by kernel_rfl))⟩
 f28:=Tryz.func130.trans (congrArg some (by kernel_rfl))
 f29:=Tryz.func131.trans (congrArg some (by kernel_rfl))
 f46:=⟨"slices.siftDownCmpFunc[sheafer/api.Addr]",by decide,Tryz.func181.trans (congrArg some (by kernel_rfl))⟩
 f47:=Tryz.func155.trans (congrArg some (by kernel_rfl))
 f48:=Tryz.func156.trans (congrArg some (by kernel_rfl))
 f49:=⟨"slices.medianAdjacentCmpFunc[sheafer/api.Addr]",by decide,Tryz.func182.trans (congrArg some (by kernel_rfl))⟩
 f50:=⟨"slices.medianCmpFunc[sheafer/api.Addr]",by decide,Tryz.func183.trans (congrArg some (by kernel_rfl))⟩
 f57:=⟨"slices.order2CmpFunc[sheafer/api.Addr]",by decide,Tryz.func188.trans (congrArg some (by kernel_rfl))⟩
 t0:=Tryz.underlying0
 a0:=Tryz.isAgg0
 z0:=Tryz.sizeOf0
 v0:=Tryz.zeroValue0
 t3:=Tryz.underlying3
 a3:=Tryz.isAgg3
 z3:=Tryz.sizeOf3
 v3:=Tryz.zeroValue3
 t4:=Tryz.underlying4
 a4:=Tryz.isAgg4
 z4:=Tryz.sizeOf4
 v4:=Tryz.zeroValue4
 t5:=Tryz.underlying5
 a5:=Tryz.isAgg5
 z5:=Tryz.sizeOf5
 v5:=Tryz.zeroValue5
 t9:=Tryz.underlying9
 a9:=Tryz.isAgg9
 z9:=Tryz.sizeOf9
 v9:=Tryz.zeroValue9
 t22:=Tryz.underlying25
 a22:=Tryz.isAgg25
 z22:=Tryz.sizeOf25
 v22:=Tryz.zeroValue25
 a24:=Tryz.isAgg23
 z24:=Tryz.sizeOf23
 t25:=Tryz.underlying116
 a25:=Tryz.isAgg116
 z25:=Tryz.sizeOf116
 v25:=Tryz.zeroValue116
 t39:=Tryz.underlying55
 a39:=Tryz.isAgg55
 z39:=Tryz.sizeOf55
 v39:=Tryz.zeroValue55
 t45:=Tryz.underlying152
 a45:=Tryz.isAgg152
 z45:=Tryz.sizeOf152
 v45:=Tryz.zeroValue152
 t46:=Tryz.underlying153
 a46:=Tryz.isAgg153
 z46:=Tryz.sizeOf153
 v46:=Tryz.zeroValue153
 t50:=Tryz.underlying157
 a50:=Tryz.isAgg157
 z50:=Tryz.sizeOf157
 v50:=Tryz.zeroValue157
 t53:=Tryz.underlying160
 a53:=Tryz.isAgg160
 z53:=Tryz.sizeOf160
 v53:=Tryz.zeroValue160
 t55:=Tryz.underlying22
 a55:=Tryz.isAgg22
 z55:=Tryz.sizeOf22
 v55:=Tryz.zeroValue22
 t66:=Tryz.underlying184
 a66:=Tryz.isAgg184
 z66:=Tryz.sizeOf184
 v66:=Tryz.zeroValue184
 t70:=Tryz.underlying188
 a70:=Tryz.isAgg188
 z70:=Tryz.sizeOf188
 v70:=Tryz.zeroValue188
 t76:=Tryz.underlying203
 a76:=Tryz.isAgg203
 z76:=Tryz.sizeOf203
 v76:=Tryz.zeroValue203
 t77:=Tryz.underlying204
 a77:=Tryz.isAgg204
 z77:=Tryz.sizeOf204
 v77:=Tryz.zeroValue204
abbrev A64:={a:Int // 0≤a∧a≤18446744073709551615}
instance:Inhabited A64:=⟨⟨0,by omega,by omega⟩⟩
def encA(x:A64):Value:=.int .u64 x.1
def cfA(x y:A64):Int:=if x.1<y.1 then -1 else if y.1<x.1 then 1 else 0
theorem ltA(x y:A64):ltOf cfA x y=decide (x.1<y.1):=by
 unfold ltOf cfA
 by_cases h1:x.1<y.1
 · simp[h1]
 · by_cases h2:y.1<x.1<;>simp[h1,h2]
theorem swoA:Sort.SWO (ltOf cfA) where
 irrefl x:=by rw[ltA];simp
 trans x y z h1 h2:=by rw[ltA] at *;simp at *;omega
 ntrans x y z h1 h2:=by rw[ltA] at *;simp at *;omega
theorem totA(x y:A64)(h1:ltOf cfA x y=false)(h2:ltOf cfA y x=false):x=y:=by
 rw[ltA] at *
 simp at *
 exact Subtype.ext (by omega)
theorem Z0z(x y:A64)(W:World):Calls Tryz.prog 88 #[.int .u64 x.1,.int .u64 y.1] W fun e w'=>e = .returned (.int .i64 (cfA x y))∧∃q,w'=W.drewN q:=by
 obtain⟨x,hx⟩:=x
 obtain⟨y,hy⟩:=y
 by_cases h1:x<y
 · have e:cfA ⟨x,hx⟩ ⟨y,hy⟩ = -1:=by unfold cfA;rw[if_pos h1]
   rw[e]
   go_enter Tryz.func88,Tryz.ntmps88
   go_wp2
   go_ret
   exact⟨rfl,0,rfl⟩
 · have e:cfA ⟨x,hx⟩ ⟨y,hy⟩=min (x-y) 1:=by
    unfold cfA
    rw[if_neg h1]
    dsimp only at h1 ⊢
    by_cases h2:y<x
    · rw[if_pos h2];omega
    · rw[if_neg h2];omega
   rw[e]
   have hw:IntKind.u64.wrap (x-y)=x-y:=wrU (by omega) (by omega)
   go_enter Tryz.func88,Tryz.ntmps88
   go_wp2
   go_ret
   exact⟨rfl,0,rfl⟩
theorem up64:∀{l:List Int},(∀a∈l,U a)→∃L:List A64,L.map (·.1)=l
 |[],_=>⟨[],rfl⟩
 |a::l,h=>by
  obtain⟨L,hL⟩:=up64 (l:=l) fun b hb=>h b (by simp[hb])
  exact⟨⟨a,h a (by simp)⟩::L,by simp[hL]⟩
theorem rcA_map(L:List A64):rcA (L.map (·.1))=L.map fun x=>AV.c (.v (encA x)):=by
 unfold rcA
 induction L with
 |nil=>rfl
 |cons x L ih=>
  rw[List.map_cons,List.flatMap_cons,List.map_append,ih]
  rfl
theorem sortA_fn(l:List Int)(hl:l.length≤1000000)(hu:∀a∈l,U a):∃s:List Int,s.Perm l∧s.Pairwise (·≤·) ∧
 Fn Tryz.prog 87 [.row 1000 23 1 l.length,.fn 88 []] [(1000,rcA l)] (.tup []) [(1000,rcA s)]:=by
 obtain⟨L,rfl⟩:=up64 hu
 have hle:∀x y:A64,(!ltOf cfA y x)=decide (x.1≤y.1):=fun x y=>by
  rw[ltA,←decide_not]
  exact decide_eq_decide.2 (by omega)
 refine⟨(L.mergeSort fun x y=>!ltOf cfA y x).map (·.1),(List.mergeSort_perm _ _).map _,?_,?_⟩
 · have h:=List.pairwise_mergeSort (le:=fun x y:A64=>!ltOf cfA y x) (fun x y z h1 h2=>by
    rw[hle] at *
    simp at *
    omega) (fun x y=>by
    rw[hle,hle]
    simp
    omega) L
   rw[List.pairwise_map]
   exact h.imp fun {x y} hxy=>by
    rw[hle] at hxy
    simpa using hxy
 · rw[rcA_map,rcA_map,List.length_map]
   refine Fn.sorting (enc:=encA) (fun _=>rfl) L _ (List.length_mergeSort _) (fun blk cap w hne hH hblk=>?_) fun p cap w=>?_
   · have eg:∀args w,(callFunc 88 args).run Tryz.prog w = .ok (.enter 88 args) w:=enters_of Tryz.func88 (by kernel_rfl) rfl
     have hc:CmpReads Tryz.prog 88 #[] encA cfA blk 0 L.toArray.size w:=fun m os dk hdk x y=>Z0z x y _
     have h:=Any.slices_SortFunc_total sortL encA (fun _=>rfl) cfA swoA 88 #[] blk 0 cap L.toArray w eg hc.lays hH hblk (by simp at hl ⊢;omega) totA
     exact h
   · exact AnyF.slices_SortFunc_none (P:=Tryz.prog) (ρ:=X4p) {sortL with} p cap _ w
end
section
open Go.RowKit
open Nat (reduceBEq)
set_option maxRecDepth 20000
set_option maxHeartbeats 2000000
theorem X9n{s:List Int}{i:Nat}{b:Int}(hb:s[i]? = some b):(ddN s (i+1)=ddN s i∧0<i∧s[i-1]? = some b)∨(ddN s (i+1)=ddN s i++[b]∧(0<i→s[i-1]?≠some b)):=by
 have e:ddN s (i+1)=if 0<i∧s[i-1]? = some b then ddN s i else ddN s i++[b]:=by
  show(match s[i]? with|none=>_|some b=>_)=_
  rw[hb]
 by_cases h:0<i∧s[i-1]? = some b
 · exact .inl ⟨by rw[e,if_pos h],h⟩
 · exact .inr ⟨by rw[e,if_neg h],fun h1 h2=>h ⟨h1,h2⟩⟩
theorem X6y{s:List Int}{i j:Nat}{b:Int}(h:s[j]? = some b)(hj:j<i):b∈s.take i:=by
 refine List.mem_of_getElem? (i:=j) ?_
 rw[List.getElem?_take,if_pos hj,h]
theorem X7j(s:List Int):∀i,i≤s.length→∀x,x∈ddN s i↔x∈s.take i
 |0,_,x=>by simp[ddN]
 |i+1,h,x=>by
  have ih:=X7j s i (by omega) x
  have hb:s[i]? = some (s[i]'(by omega)):=List.getElem?_eq_getElem (by omega)
  have et:s.take (i+1)=s.take i++[s[i]'(by omega)]:=by rw[List.take_add_one,hb];rfl
  rw[et,List.mem_append,List.mem_singleton]
  rcases X9n hb with⟨e,h0,h1⟩|⟨e,_⟩
  · rw[e,ih]
    refine⟨.inl,fun h=>h.elim id fun hx=>?_⟩
    rw[hx]
    exact X6y h1 (by omega)
  · rw[e,List.mem_append,List.mem_singleton,ih]
theorem ddN_lt(s:List Int)(hs:s.Pairwise (·≤·)):∀i,i≤s.length→(ddN s i).Pairwise (· < ·)
 |0,_=>by simp[ddN]
 |i+1,h=>by
  have ih:=ddN_lt s hs i (by omega)
  have hb:s[i]? = some (s[i]'(by omega)):=List.getElem?_eq_getElem (by omega)
  rcases X9n hb with⟨e,_⟩|⟨e,h1⟩
  · rw[e];exact ih
  · rw[e,List.pairwise_append]
    refine⟨ih,List.pairwise_singleton _ _,fun a ha b hb'=>?_⟩
    rw[List.mem_singleton] at hb'
    subst hb'
    have ha':=(X7j s i (by omega) a).1 ha
    obtain⟨j,hj⟩:=List.mem_iff_getElem?.1 ha'
    rw[List.getElem?_take] at hj
    split at hj
    · rename_i hji
      have hp:=List.pairwise_iff_getElem.1 hs
      have haj:s[j]'(by omega)=a:=(List.getElem?_eq_some_iff.1 hj).2
      have h2:=hp j i (by omega) (by omega) hji
      rw[haj] at h2
      have h3:=h1 (by omega)
      rw[List.getElem?_eq_getElem (by omega)] at h3
      have h4:s[i-1]'(by omega)≠s[i]'(by omega):=fun e=>h3 (by rw[e])
      have h5:=hp (i-1) i (by omega) (by omega) (by omega)
      rcases Nat.lt_or_ge j (i-1) with h6|h6
      · have h7:=hp j (i-1) (by omega) (by omega) h6
        rw[haj] at h7
        omega
      · have:j=i-1:=by omega
        subst this
        rw[haj] at h4
        omega
    · cases hj
theorem X6r:∀{a b:List Int},a.Pairwise (· < ·)→b.Pairwise (· < ·)→(∀x,x∈a↔x∈b)→a=b
 |[],[],_,_,_=>rfl
 |[],y::b,_,_,h=>by have:=(h y).2 (by simp);simp at this
 |x::a,[],_,_,h=>by have:=(h x).1 (by simp);simp at this
 |x::a,y::b,ha,hb,h=>by
  rw[List.pairwise_cons] at ha hb
  have hx:=(h x).1 (by simp)
  have hy:=(h y).2 (by simp)
  rw[List.mem_cons] at hx hy
  have e:x=y:=by
   rcases hx with hx|hx
   · exact hx
   · rcases hy with hy|hy
     · exact hy.symm
     · have h1:=ha.1 y hy
       have h2:=hb.1 x hx
       omega
  subst e
  rw[X6r ha.2 hb.2 fun z=>by
   have hz:=h z
   rw[List.mem_cons,List.mem_cons] at hz
   constructor
   · intro hm
     rcases hz.1 (.inr hm) with e|hm'
     · have:=ha.1 z hm;omega
     · exact hm'
   · intro hm
     rcases hz.2 (.inr hm) with e|hm'
     · have:=hb.1 z hm;omega
     · exact hm']
theorem X1t(ex:Bool)(l:List Int)(hl:l.length≤1000000)(hu:∀a∈l,U a):∃r:List Int,r.Pairwise (· < ·)∧(∀x,x∈r↔x∈l)∧r.length≤l.length∧Fn Tryz.prog 55 [asl ex l] [] (asl false r) []:=by
 obtain⟨s,hp,hs,so⟩:=sortA_fn l hl hu
 have hlen:=hp.length_eq
 have cl:=X6e ex l hl
 have co:=(X3z s (by omega)).weaken (H2:=[(1000,rcA (ddN s s.length))]) (AV.le_refl _) (leHp (ds:=rcA (List.replicate (s.length-(ddN s s.length).length) 0)) (by rw[X0a];simp[hget]))
 rw[hlen] at co
 have hdl:=ddN_le s l.length
 refine⟨ddN s l.length,ddN_lt s hs _ (by omega),fun x=>?_,hdl,?_⟩
 · rw[X7j s _ (by omega),←hlen,List.take_length]
   exact hp.mem_iff
 · have hrow:Fn Tryz.prog 55 [asl ex l] [] (.row 5 23 1 (ddN s l.length).length) [(5,rcA (ddN s l.length))]:=by
    generalize ddN s l.length=r at co hdl ⊢
    unfold rcA at cl so co ⊢
    (refine Q0v Tryz.func55 rfl (by rfl) ?_;simp only[Tryz.ntmps55,List.length_cons,List.length_nil,Nat.reduceAdd,Nat.reduceSub,List.replicate,List.cons_append,List.nil_append])
    (repeat(any_goals(first|((with_reducible refine Q0n ?_ ?_ ?_);rfl;rfl;intro K hK;(first|(apply Q0s (cl) (fun r=>5);rfl;rfl;rfl;rfl;exact Tryz.func36;kernel_rfl;rfl;rfl;(intro r hr q hq h;simp only[List.map_cons,List.map_nil,List.cons_append,List.nil_append,List.mem_cons,List.not_mem_nil,or_false] at hr hq;(try dsimp only at h);first|omega);(simp only[Q0w,Q1k,AV.ren,AV.renL,Q0m,List.mem_cons,List.not_mem_nil,forall_eq_or_imp,forall_eq,Q1g,List.contains_cons,List.contains_nil,AV.refsL,AV.refs,Q0l,AV.inN,AV.inNL,inH,Q0p,go_sem]))|(apply Q0s (so) (fun r=>5);rfl;rfl;rfl;rfl;exact Tryz.func87;kernel_rfl;rfl;rfl;(intro r hr q hq h;simp only[List.map_cons,List.map_nil,List.cons_append,List.nil_append,List.mem_cons,List.not_mem_nil,or_false] at hr hq;(try dsimp only at h);first|omega);(simp only[Q0w,Q1k,AV.ren,AV.renL,Q0m,List.mem_cons,List.not_mem_nil,forall_eq_or_imp,forall_eq,Q1g,List.contains_cons,List.contains_nil,AV.refsL,AV.refs,Q0l,AV.inN,AV.inNL,inH,Q0p,go_sem]))|(apply Q0s (co) (fun r=>5);rfl;rfl;rfl;rfl;exact Tryz.func89;kernel_rfl;rfl;rfl;(intro r hr q hq h;simp only[List.map_cons,List.map_nil,List.cons_append,List.nil_append,List.mem_cons,List.not_mem_nil,or_false] at hr hq;(try dsimp only at h);first|omega);(simp only[Q0w,Q1k,AV.ren,AV.renL,Q0m,List.mem_cons,List.not_mem_nil,forall_eq_or_imp,forall_eq,Q1g,List.contains_cons,List.contains_nil,AV.refsL,AV.refs,Q0l,AV.inN,AV.inNL,inH,Q0p,go_sem])));(simp only[Q0r,Q1h,renH,AV.ren,AV.renL,Q0m,go_sem];refine hK _ ?_;clear hK K))|((with_reducible refine Q0b ?_ ?_);rfl;intro K hK;simp only[go_sem];((repeat(refine ndI (by first|assumption) ?_));refine hK _ ?_;clear hK K))|(with_reducible first|(refine Q0c ?_;refine hR _ ?_;clear hR R)|((first|refine Q0d ?_);intro J hJ hJ')|(refine Q0a ?_;intro R hR)|(refine hJ _ ?_;clear hJ hJ' J)|refine Q0k ?_))))
    all_goals(refine⟨by simp,⟨_,?_,AV.le_refl _⟩,Q0h (by simp[leH,hget])⟩;simp only[Tryz.results55,resL,ldA,Q0q,go_sem])
   have h:=Fn.frzG (d:=5) (pcs:=(ddN s l.length).flatMap apv) hrow
   simp only[AV.frz,beq_self_eq_true,if_true] at h
   rw[if_pos (Q0o Q3r _).symm] at h
   exact h
end
section
open Go.RowKit
open Nat (reduceBEq)
attribute [-go_sem] IntKind.bits
set_option maxRecDepth 20000
set_option maxHeartbeats 2000000
theorem X9x(a:Int):Fn Tryz.prog 119 [vi .u64 a] [] (w4 a 0 0 0) []:=by
 have h:=of_fn a
 (refine Q0v Tryz.func119 rfl (by rfl) ?_;simp only[Tryz.ntmps119,List.length_cons,List.length_nil,Nat.reduceAdd,Nat.reduceSub,List.replicate,List.cons_append,List.nil_append])
 (repeat(any_goals(first|((with_reducible refine Q0n ?_ ?_ ?_);rfl;rfl;intro K hK;((apply Q0j (h);rfl;rfl;rfl;rfl;exact Tryz.func151);kernel_rfl;rfl;(focus((simp only[go_sem]);(try rfl);done));(first|rfl));(simp only[go_sem];refine hK _ ?_;clear hK K))|((with_reducible refine Q0b ?_ ?_);rfl;intro K hK;simp only[go_sem];((repeat(refine ndI (by first|assumption) ?_));refine hK _ ?_;clear hK K))|(with_reducible first|(refine Q0c ?_;refine hR _ ?_;clear hR R)|((first|refine Q0d ?_);intro J hJ hJ')|(refine Q0a ?_;intro R hR)|(refine hJ _ ?_;clear hJ hJ' J)|refine Q0k ?_))))
 all_goals(refine⟨by simp,⟨_,?_,AV.le_refl _⟩,Q0h (by simp[leH,hget])⟩;simp only[Tryz.results119,resL,ldA,Q0q,go_sem])
abbrev p8(b:Int):PV:=.v (.int .u8 b)
end
section
open Go.RowKit
section
variable {P:Program} {o:Oper} {σ : St} {K:St→Prop}
theorem X1k{d:Nat}{s x:Operand}{t e sz by_ n m:Nat}{ex:Bool}{ps qs:List PV}(ho:o.op = .call {callee:=.builtin .append,args:=#[s,x],argTypes:=#[t,t]})(hs0:Q0f s=true)(hx0:Q0f x=true)(hz:slcZ P t=some (e,sz,by_))(h0:0<sz)(hb0:0<by_)
 (h1:σ.ev s = .c (.sl true sz n ps)) (h2:σ.ev x = .c (.sl ex sz m qs)) (hm:0<m) (hql:qs.length=m*sz) (hby:(n+m)*by_≤140737488355328) (hd:o.dst=some d) (hd2:d<1000) :
 OpN P o σ.ev (hget σ.H) ⟨.row d e sz (n+m),[],[(d,(ps++qs).map .c)],[d]⟩:=fun τ hA _ hN=>by
 have hA':∀z,z=s∨z=x→τ.ev z = σ.ev z:=fun z hz=>hA z (by rw[ho];rcases hz with rfl|rfl<;>simp[Op.operands,Call.operands])
 refine Q5g (m:=m) (ds:=qs.map .c) ho hs0 hx0 hz h0 hb0 (by rw[hA' s (.inl rfl)];exact h1) (by rw[hA' x (.inr rfl),h2];simp[St.src]) hm (by rw[List.length_map];exact hql) hby hd (hN d (by simp)) hd2 (by simp) ?_
 rw[hd,List.map_append]
 rfl
theorem X1n{l0 rest:List Oper}{acc:List Ef}{d:Nat}{s x:Operand}{t e sz by_ n m:Nat}{ex:Bool}{ps qs:List PV}{X:List AV}(hg:o.guard=none)(ho:o.op = .call {callee:=.builtin .append,args:=#[s,x],argTypes:=#[t,t]})(hs0:Q0f s=true)(hx0:Q0f x=true)(hz:slcZ P t=some (e,sz,by_))(h0:0<sz)(hb0:0<by_)
 (h1:σ.ev s = .c (.sl true sz n ps)) (h2:σ.ev x = .c (.sl ex sz m qs)) (hm:0<m) (hql:qs.length=m*sz) (hby:(n+m)*by_≤140737488355328) (hd:o.dst=some d) (hd2:d<1000) (hX:(ps++qs).map .c=X)
 (h:evD P l0 rest (σ.eff o.dst (.row d e sz (n+m)) [(d,X)]) (⟨.row d e sz (n+m),[],[(d,X)],[d]⟩::acc) K):evD P l0 (o::rest) σ acc K:=by
 subst hX
 exact⟨_,.inl ⟨hg,X1k ho hs0 hx0 hz h0 hb0 h1 h2 hm hql hby hd hd2⟩,h⟩
end
end
section
open Go.RowKit
open Nat (reduceBEq)
set_option maxRecDepth 20000
set_option maxHeartbeats 2000000
attribute [local simp] Q2h Q0u Q1l
theorem Ef.sim_val{v:AV}{rd nw:List Nat}{wr:List (Nat×List AV)}(h:∀d,AV.refs d v=false):Ef.sim ⟨v,rd,wr,nw⟩ ⟨.any,rd,wr,nw⟩:=⟨rfl,rfl,rfl,fun d=>by unfold Ef.names;simp[h,AV.refs]⟩
theorem X8x(N:List Nat)(l:List Nat):AV.inNL N (rcB l)=true:=by unfold rcB;exact Q0p _ _
theorem X8g(ρ : Nat→Nat)(l:List Nat):AV.renL ρ (rcB l)=rcB l:=by unfold rcB;exact Q0m _ _
attribute [local simp] X8x Q3f X8g
theorem frzL_rcB(r:Nat)(pcs:List PV)(l:List Nat):AV.frzL r pcs (rcB l)=rcB l:=by unfold rcB;exact Q3l _ _ _
theorem X9u(l:List Nat):(l.flatMap bpv).length=l.length:=by rw[Q0o Q4b,Nat.mul_one]
theorem Z0u(ex:Bool)(l D:List Nat)(X:List UInt64)(hD:D.length=32)(hX:X.length=4)(sm:Fn Tryz.prog 179 [bsl ex l] [] (.agg (rcB D)) [])
 (wr:Fn Tryz.prog 180 [.c (.sl false 1 32 (D.flatMap bpv))] [] (.tup [lnA X,vi .i64 0]) []):Fn Tryz.prog 159 [bsl ex l] [] (lnA X) []:=by
 have r1:=fun d=>Q3f d D
 have r2:=fun d=>Q0u d X
 have l32:(rcB D).length=32:=by rw[Q4m,hD]
 have t1:List.take 32 (D.flatMap bpv)=D.flatMap bpv:=List.take_of_length_le (by rw[X9u];omega)
 have t2:(D.flatMap bpv).length=32:=by rw[X9u,hD]
 have t3:List.drop 32 (rcB D)=[]:=List.drop_eq_nil_of_le (by omega)
 have u1:List.take 4 (rcV X)=rcV X:=List.take_of_length_le (by rw[Q1x];omega)
 have u2:(rcV X).length=4:=by rw[Q1x,hX]
 have u3:List.drop 4 (rcV X)=[]:=List.drop_eq_nil_of_le (by omega)
 (refine Q0v Tryz.func159 rfl (by rfl) ?_;simp only[Tryz.ntmps159,List.length_cons,List.length_nil,Nat.reduceAdd,Nat.reduceSub,List.replicate,List.cons_append,List.nil_append])
 (have W:=ndI r1 (ndI l32 t3);(repeat(any_goals(first|((with_reducible refine Q0n ?_ ?_ ?_);rfl;rfl;intro K hK;((apply Q0j (sm);rfl;rfl;rfl;rfl;exact Tryz.func179);kernel_rfl;rfl;(focus((simp(disch:=omega) only[go_sem,W,List.append_nil]);(try rfl);done));(first|simp[AV.inNL,AV.inN]));(simp(disch:=omega) only[go_sem,W,List.append_nil];refine hK _ ?_;clear hK K))|((with_reducible refine Q0b ?_ ?_);rfl;intro K hK;simp(disch:=omega) only[go_sem,W,List.append_nil];((repeat(refine ndI (by first|assumption|rfl) ?_));refine hK _ ?_;clear hK K))|(with_reducible first|(refine Q0c ?_;refine hR _ ?_;clear hR R)|((first|refine Q0d ?_);intro J hJ hJ')|(refine Q0a ?_;intro R hR)|(refine hJ _ ?_;clear hJ hJ' J))))))
 refine X2d rfl (St.to.frz 3 (pcs:=D.flatMap bpv) (by simp[hget,rcB])) ?_
 simp only[St.frz,AV.frzL,AV.frz,frzH,t2,frzL_rcB,if_true,eq_self,↓reduceIte,Nat.reduceEqDiff,Nat.reduceLT,List.drop_zero]
 (have W:=ndI r2 (ndI t1 (ndI t2 (ndI u1 (ndI u2 u3))));(repeat(any_goals(first|((with_reducible refine Q0n ?_ ?_ ?_);rfl;rfl;intro K hK;((apply Q0j (wr);rfl;rfl;rfl;rfl;exact Tryz.func180);kernel_rfl;rfl;(focus((simp(disch:=omega) only[go_sem,W,Q3f,Q0u,List.append_nil,Nat.mul_one,Nat.sub_zero,Int.toNat_zero]);(try rfl);done));(first|simp[AV.inNL,AV.inN]));(simp(disch:=omega) only[go_sem,W,Q3f,Q0u,List.append_nil,Nat.mul_one,Nat.sub_zero,Int.toNat_zero];refine hK _ ?_;clear hK K))|((with_reducible refine Q0b ?_ ?_);rfl;intro K hK;simp(disch:=omega) only[go_sem,W,Q3f,Q0u,List.append_nil,Nat.mul_one,Nat.sub_zero,Int.toNat_zero];((repeat(refine ndI (by first|assumption|rfl) ?_));refine hK _ ?_;clear hK K))|((with_reducible refine Q0b ?_ ?_);rfl;intro K hK;(try simp(disch:=omega) only[go_sem,W,Q3f,Q0u,List.append_nil,Nat.mul_one,Nat.sub_zero,Int.toNat_zero]);(repeat(refine ndI (by first|assumption|rfl) ?_));apply X5e;rfl;rfl;rfl;rfl;(focus(simp only[go_sem];try rfl));rfl;(first|omega);rfl;rfl;(first|omega);(simp(disch:=omega) only[go_sem,W,Q3f,Q0u,List.append_nil,Nat.mul_one,Nat.sub_zero,Int.toNat_zero];refine hK _ ?_;clear hK K))|(with_reducible first|(refine Q0c ?_;refine hR _ ?_;clear hR R)|((first|refine Q0d ?_);intro J hJ hJ')|(refine Q0a ?_;intro R hR)|(refine hJ _ ?_;clear hJ hJ' J)|refine Q0k ?_)))))
 all_goals(refine⟨by simp,⟨_,?_,AV.le_refl _⟩,Q0h (by simp[leH,hget])⟩;simp only[Tryz.results159,resL,ldA,Q0q,go_sem,u1];rw[if_pos (by omega)];rfl)
theorem digest_fn(ex:Bool)(l:List Nat)(hl:l.length≤1000)(hb:∀b∈l,b<256)(hd:(digL l).length=32)(hdb:∀b∈digL l,b<256):Fn Tryz.prog 159 [bsl ex l] [] (lnA (wrR (digL l) 32)) []:=by
 have sm:=sum_fn ex l hl hb
 have wr:=wread_fn false (digL l) hd hdb
 have e:bsl false (digL l) = .c (.sl false 1 32 ((digL l).flatMap bpv)):=by rw[bsl,hd]
 rw[e] at wr
 have hX:=X6m (digL l) 32
 exact Z0u ex l (digL l) _ hd hX sm wr
end
section
open Go.RowKit
set_option maxRecDepth 20000
set_option maxHeartbeats 2000000
attribute [local simp] Q2h Q0u Q1l X8x Q3f X8g
theorem of_or(a b:Nat):UInt64.ofNat a ||| UInt64.ofNat b=UInt64.ofNat (a ||| b):=by
 apply UInt64.toNat.inj
 rw[UInt64.toNat_or,UInt64.toNat_ofNat',UInt64.toNat_ofNat',UInt64.toNat_ofNat']
 exact(Nat.or_mod_two_pow (n:=64)).symm
def drG(b:List Nat)(i:Nat):UInt64:=UInt64.ofNat (rdN ((b.drop (8*i)).take 8) 8)
def drR(b:List Nat):Nat→List UInt64
 |0=>zer 4
 |i+1=>(drR b i).set (3-i) (drG b i)
theorem X3t(b:List Nat):∀k,(drR b k).length=4
 |0=>rfl
 |k+1=>by unfold drR;rw[List.length_set,X3t b k]
theorem X9h(b:List Nat):∀g j,j+g≤3→(drR b g).getD j 0=0
 |0,j,h=>by
  have:j=0∨j=1∨j=2∨j=3:=by omega
  rcases this with rfl|rfl|rfl|rfl<;>rfl
 |g+1,j,h=>by
  unfold drR
  rw[List.getD_eq_getElem?_getD,List.getElem?_set_ne (by omega),←List.getD_eq_getElem?_getD]
  exact X9h b g j (by omega)
theorem rdN_s{l:List Nat}{i:Nat}(h:i<l.length):rdN l (i+1)=rdN l i*256+l.getD i 0:=by
 show rdN l i*256+(match l[i]? with|some b=>b|none=>0)=_
 rw[List.getD_eq_getElem?_getD,List.getElem?_eq_getElem h];rfl
theorem step_or{x y:Nat}(m:Nat)(hy:y<256)(hm:m<8):(x*2 ^ (8*(8-m))) ||| (y*2 ^ (8*(7-m)))=(x*256+y)*2 ^ (8*(8-(m+1))):=by
 have e:8*(8-m)=8*(7-m)+8:=by omega
 have e2:8*(8-(m+1))=8*(7-m):=by omega
 rw[e,e2,Nat.pow_add,show x*(2 ^ (8*(7-m))*2 ^ 8)=(x*256)*2 ^ (8*(7-m)) by rw[Nat.mul_comm (2 ^ (8*(7-m))),←Nat.mul_assoc]]
 generalize 8*(7-m)=k
 rw[←Nat.shiftLeft_eq,←Nat.shiftLeft_eq,←Nat.shiftLeft_or_distrib,←Nat.shiftLeft_eq]
 have:=Nat.two_pow_add_eq_or_of_lt (i:=8) (b:=y) (by omega) x
 rw[show x*256=2 ^ 8*x by omega,this]
theorem lane_eq(b:List Nat)(hb:∀x∈b,x<256)(hl:b.length=32)(g:Nat)(hg:g<4)(ih:wrR b (8*g)=drR b g) :
 ∀m,m≤8→wrR b (8*g+m)=(drR b g).set (3-g) (UInt64.ofNat (rdN ((b.drop (8*g)).take 8) m*2 ^ (8*(8-m))))
 |0,_=>by
  have e:UInt64.ofNat (rdN ((b.drop (8*g)).take 8) 0*2 ^ (8*(8-0)))=0:=by
   show UInt64.ofNat (0*_)=0
   rw[Nat.zero_mul];rfl
  rw[e,Nat.add_zero,ih]
  have hz:=X9h b g (3-g) (by omega)
  conv=>rhs;rw[←hz]
  exact(X8b _ _ (by rw[X3t];omega)).symm
 |m+1,h=>by
  have hlen:((b.drop (8*g)).take 8).length=8:=by rw[List.length_take,List.length_drop];omega
  have hi:=lane_eq b hb hl g hg ih m (by omega)
  show wrR b ((8*g+m)+1)=_
  unfold wrR
  rw[hi,show(31-(8*g+m))/8=3-g by omega,show(31-(8*g+m))%8=7-m by omega,X9a _ _ _ (by rw[X3t];omega),List.set_set,of_or]
  have e1:b.getD (8*g+m) 0=((b.drop (8*g)).take 8).getD m 0:=by
   rw[List.getD_eq_getElem?_getD,List.getD_eq_getElem?_getD,List.getElem?_take,if_pos (by omega),List.getElem?_drop]
  have hy:((b.drop (8*g)).take 8).getD m 0<256:=by rw[←e1];exact X3m hb _
  rw[e1,step_or m hy (by omega),rdN_s (by omega)]
theorem word_eq(b:List Nat)(hb:∀x∈b,x<256)(hl:b.length=32):∀g,g≤4→wrR b (8*g)=drR b g
 |0,_=>rfl
 |g+1,h=>by
  have:=lane_eq b hb hl g (by omega) (word_eq b hb hl g (by omega)) 8 (by omega)
  rw[show 8*(g+1)=8*g+8 by omega,this,show 8*(8-8)=0 from rfl,Nat.pow_zero,Nat.mul_one]
  rfl
theorem X9i(l:List Nat):(digL l).length=32:=X7b _ 32
theorem idL_lt(l:List UInt64):∀k,∀b∈idL l k,b<256
 |0,b,h=>by
  unfold idL at h
  obtain⟨_,rfl⟩:=List.mem_replicate.1 h
  decide
 |k+1,b,h=>by
  unfold idL at h
  rcases List.mem_or_eq_of_mem_set h with h|rfl
  · exact idL_lt l k b h
  · exact Nat.mod_lt _ (by decide)
theorem digL_lt(l:List Nat):∀b∈digL l,b<256:=idL_lt _ 32
def digW(l:List Nat):List UInt64:=drR (digL l) 4
theorem digW_len(l:List Nat):(digW l).length=4:=X3t _ 4
theorem dig_fn(ex:Bool)(l:List Nat)(hl:l.length≤1000)(hb:∀b∈l,b<256):Fn Tryz.prog 159 [bsl ex l] [] (lnA (digW l)) []:=by
 have h:=digest_fn ex l hl hb (X9i l) (digL_lt l)
 rw[show wrR (digL l) 32=digW l from word_eq _ (digL_lt l) (X9i l) 4 (by decide)] at h
 exact h
end
section
open Go.RowKit Go.MapKept
section
variable {P:Program} {o:Oper} {σ : St} {K:St→Prop}
theorem Q1m{f:FuncId}{x:Operand}(ho:o.op = .makeFunc (.func f) #[x] #[])(hx:Q0f x=true)(hK:K (σ.put o.dst (.fnb f [σ.ev x]))):OpA P o σ K:=
 Q1e _ hK fun E ι a w h=>by
  refine⟨.func (.func f) #[a.eval x] #[],by simp[execOp,ho,Instr.makeFunc],.fnb f [a.eval x] [σ.ev x] rfl fun j u y hu hy=>?_⟩
  cases j with
  |zero=>simp at hu hy;subst hu hy;exact h.ev x hx
  |succ j=>simp at hu
theorem opA_callG{f:FuncId}{fn:Func}{cargs:List AV}{H0 H1:List (Nat×List AV)}{res:AV}(hF:Fn P f cargs H0 res H1)(ρ : Nat→Nat)
 {fo:Operand} {ts:Array TypeId} {caps:List AV} (ho:o.op = .call {callee:=.value fo,args:=#[],argTypes:=ts}) (hfo:Q0f fo=true) (hf:σ.ev fo = .fnb f caps)
 (hfn:P.funcs[f]? = some fn) (hname:(fn.name == "runtime.NumGoroutine")=false) (hbody:fn.body.isNone=false)
 (hD0:H0.all (fun x=>decide (1000≤x.1))=true) (hargs:Q0w ρ cargs caps) (hH0:∀r∈H0.map (·.1),hget σ.H (ρ r)=(hget H0 r).map (AV.renL ρ)) (hinj:∀r∈H0.map (·.1)++H1.map (·.1),∀q∈H0.map (·.1)++H1.map (·.1),ρ r = ρ q→r=q)
 (hnew:Q1g σ ρ H0 H1) (hin:AV.inN (H1.map (·.1)) res=true) (hinH:inH (H1.map (·.1)) H1=true)
 (hK:K ((St.mk σ.T (Q0r (Q1h σ.H (renH ρ H0)) (renH ρ H1))).put o.dst (AV.ren ρ res))):OpA P o σ K:=by
 intro E ι a w hc K' Q hK'
 have hfv:=hc.ev fo hfo
 rw[hf] at hfv
 generalize hfe:a.eval fo=fv at hfv
 cases hfv with
 |fnb _ us _ hul hus=>
  have hSx:∀b,Sx E ι σ.H b→b<w.heap.size→Sx E ι σ.H b∧w.heap[b]? = w.heap[b]?:=fun b hb _=>⟨hb,rfl⟩
  have hD0':∀r∈H0.map (·.1),1000≤r:=fun r hr=>by
   obtain⟨x,hx,rfl⟩:=List.mem_map.1 hr
   have:=List.all_eq_true.1 hD0 x hx
   simpa using this
  obtain⟨hal,hag⟩:=Q3c hargs
  have hlen:us.length=cargs.length:=by rw[hal,hul]
  have hH0':∀r cs,hget H0 r=some cs→hget σ.H (ρ r)=some (AV.renL ρ cs):=fun r cs hr=>by rw[hH0 r (Q2o hr),hr];rfl
  obtain⟨E',hE'⟩:∃E':Env,E'={w:=w,S:=Sx E ι σ.H,ι:=fun r=>ι (ρ r),D:=H0.map (·.1),hD:=hD0',hG:=hc.glob hH0'}:=⟨_,rfl⟩
  have hconcH:ConcH E'.S E'.ι H0 E'.w:=by
   subst hE'
   exact hc.enter ρ hH0' fun r hr q hq=>hinj r (List.mem_append_left _ hr) q (List.mem_append_left _ hq)
  have hcall:=hF E' us (by rw[hE']) (fun r cs b hr hz hS=>by
   subst hE'
   exact hS.2 (ρ r) _ (hH0' r cs hr) hz) hconcH hlen (fun j v x hv hx=>by
   subst hE'
   have hlt:=(List.getElem?_eq_some_iff.1 hv).1
   have hy:caps[j]? = some (caps[j]'(by rw[←hul];exact hlt)):=List.getElem?_eq_getElem _
   rcases hag j x _ hx hy with rfl|e
   · exact .any _
   · exact(hus j v _ hv hy).unren x e)
  have hwE:E'.w=w:=by rw[hE']
  rw[hwE] at hcall
  have hrun:(execOp a.eval o).run P w = .ok (.enter f us.toArray) w:=by
   have hen:=Q4j hfn hname hbody us.toArray w
   simp only[execOp,ho,resolve,hfe,Deferred.ofValue,Sem.run_bind,Sem.run_pure,Result.andThen_ok,invoke,Array.map_empty,Array.append_empty,hen]
  unfold Oper.wp
  rw[hrun,Oper.upon_enter]
  refine hcall.mono fun e w'=>?_
  rintro ⟨v,ι',rfl,hres,hcH,hk⟩
  simp only
  obtain⟨ι2,hcn,hrv⟩:=hc.back ρ hD0' hH0' hinj hnew hin hinH hE' hres hcH hk
  exact hK' ι2 _ _ _ hK (hcn.put o.dst hrv)
theorem opF_callG{f:FuncId}{fn:Func}{cs cs':List AV}{res:AV}{r:Nat}(hF:Fn P f [.ptr 1000 0] [(1000,cs)] res [(1000,cs')])
 {fo:Operand} {ts:Array TypeId} (ho:o.op = .call {callee:=.value fo,args:=#[],argTypes:=ts}) (hfo:Q0f fo=true) (hf:σ.ev fo = .fnb f [.ptr r 0])
 (hfn:P.funcs[f]? = some fn) (hname:(fn.name == "runtime.NumGoroutine")=false) (hbody:fn.body.isNone=false)
 (hr:hget σ.H r=some cs) (hc0:AV.inNL [] cs=true) (hc1:AV.inNL [] cs'=true) (hre:AV.inN [] res=true):OpF P o σ.ev (hget σ.H) res [r] [(r,cs')]:=fun τ hA hQ=>by
 have e1:τ.ev fo = σ.ev fo:=hA fo (by rw[ho];simp[Op.operands,Call.operands])
 have e2:hget τ.H r=some cs:=(hQ r (by simp)).trans hr
 refine OpA.then ?_
 refine opA_callG hF (fun _=>r) ho hfo (e1.trans hf) hfn hname hbody rfl (by simp[Q0w,Q1k,AV.ren]) (by simp[hget,e2,Q3v _ _ hc0]) (by simp) (by simp[Q1g]) (inN_sub (fun r h=>by cases h) _ hre) (by simp[inH,Q5c (N:=[]) (fun r h=>by cases h) _ hc1]) ?_
 refine⟨_,St.to.of_le ?_,rfl⟩
 rw[Q9c _ _ hre]
 have key:∀q es,hget (hput τ.H r cs') q=some es→hget (hput (hdel τ.H r) r cs') q=some es:=fun q es hq=>by
  rw[Q2i] at hq ⊢
  split at hq
  · rename_i e;rw[if_pos e];exact hq
  · rename_i e;rw[if_neg e,X3l,if_neg e];exact hq
 simp only[renH,Q0r,Q1h,Q3v _ _ hc1]
 cases o.dst with
 |none=>exact⟨rfl,fun i=>AV.le_refl _,key⟩
 |some d=>exact⟨rfl,fun i=>AV.le_refl _,key⟩
def ALE(p:Env→Prop)(P:Program)(ops:Array Oper)(l:List Oper)(σ : St)(K:St→Prop):Prop:=
 ∀(E:Env) (ι : Nat→Nat×Nat×Nat) (a:Act) (w:World),p E→Conc E ι σ a w→∀Q:Exit→Act→World→Prop,(∀ι' σ' a' w',K σ'→Conc E ι' σ' a' w'→Q .normal a' w')→wpList P ops Q l a w
theorem ALE.nil{p:Env→Prop}{ops:Array Oper}(h:K σ):ALE p P ops [] σ K:=fun E ι a w _ hc Q hQ=>hQ ι σ a w h hc
theorem ALE.one{p:Env→Prop}{ops:Array Oper}{rest:List Oper}(hg:o.guard=none)(h:OpW p P o σ fun σ'=>ALE p P ops rest σ' K):ALE p P ops (o::rest) σ K:=fun E ι a w hp hc Q hQ=>by
 refine wpList_plain hg fun K1 hK1=>?_
 exact h E ι a w hp hc K1 _ fun ι' σ' a' w' hk hc'=>hK1 _ _ (hk E ι' a' w' hp hc' Q hQ)
theorem ALE.oneA{p:Env→Prop}{ops:Array Oper}{rest:List Oper}(hg:o.guard=none)(h:evO P o σ fun σ'=>ALE p P ops rest σ' K):ALE p P ops (o::rest) σ K:=ALE.one hg (Q3m h).toW
theorem AWE.regionL{p:Env→Prop}{id:Nat}{l:List Oper}{Φ : Exit→St→Prop}(h:ALE p P l.toArray l σ (Φ .normal)):AWE p P (.region id l.toArray false) σ Φ:=fun E ι a w hp hc=>by
 refine wp_region_list ?_
 exact h E ι a w hp hc _ fun ι' σ' a' w' hk hc'=>⟨ι',σ',hc',hk⟩
theorem Q8r{E0:Env}{t:TypeId}(ho:o.op = .makeMap t none)(hK:∀b,E0.w.heap.size≤b→K (σ.put o.dst (.amp b [] []))):OpW (fun E=>E=E0) P o σ K:=by
 intro E ι a w hE hc K' Q hK'
 subst hE
 have hS:Sx E ι σ.H w.heap.size:=by
  refine⟨.inr (.inl hc.keep.size),fun r cs hr hz e=>?_⟩
  rcases hc.heap.blk r cs hr with⟨h0,_⟩|⟨cur,hh,_⟩
  · exact hz h0
  · have:=(Array.getElem?_eq_some_iff.1 hh).1
    omega
 have hc1:=hc.alloc (.map #[] 0)
 have hnew:(w.alloc (.map #[] 0)).heap[w.heap.size]? = some (.map #[] 0):=World.alloc_heap_new w _
 have hr:(execOp a.eval o).run P w = .ok (.value (.map (some w.heap.size))) (w.alloc (.map #[] 0)):=by
  unfold execOp
  simp only[ho]
  rfl
 have h2:=hK' ι _ _ _ (hK w.heap.size hc.keep.size) (hc1.put o.dst (.amp w.heap.size #[] 0 [] [] [] hS hnew rfl rfl rfl fun j u x hu=>by simp at hu))
 unfold Oper.wp
 rw[hr]
 exact h2
def AV.amU(b:Nat)(ks:List Value)(cs:List AV)(x:AV):AV:=
 match x with
 |.amp b0 _ _=>if b0=b then .amp b ks cs else .any
 |x=>if AV.hasMp x then .any else x
end
section
variable {E:Env} {ι : Nat→Nat×Nat×Nat} {σ : St} {a:Act} {w:World} {b clk clk':Nat} {X X':Array MapEntry}
theorem RV.amU{S:Nat→Prop}{v:Value}{x:AV}{ks us:List Value}{cs:List AV}(h:RV S ι w v x)(hb:w.heap[b]? = some (.map X clk))(hk:X'.toList.map (·.key)=ks)(hu:X'.toList.map (·.val)=us)(hl:us.length=cs.length)(hr:∀(j:Nat) (u:Value) (x:AV),us[j]? = some u→cs[j]? = some x→RV S ι w u x)(hm:AV.hasMpA cs=false) :
 RV S ι (w.putObj b (.map X' clk')) v (x.amU b ks cs):=by
 have hlt:=(Array.getElem?_eq_some_iff.1 hb).1
 have hn:∀{v:Value} {x:AV},RV S ι w v x→AV.hasMp x=false→RV S ι (w.putObj b (.map X' clk')) v x:=fun h hm=>h.nmono (fun b' cur e z hS hh=>⟨hS,X8l hb _ hh fun _ _ h=>by cases h⟩) hm
 unfold AV.amU
 split
 · rename_i b0 ks0 cs0
   split
   · rename_i e
     subst e
     cases h with
     |amp _ Y c ks us' cs' hS hh hk' hu' hl' h'=>exact .amp _ X' clk' _ us cs hS (World.putObj_heap_same hlt) hk hu hl fun j u x hu hx=>hn (hr j u x hu hx) (Q3q hm j x hx)
   · exact .any _
 · split
   · exact .any _
   · rename_i hm
     exact hn h (by simpa using hm)
theorem Conc.amap{ks us:List Value}{cs:List AV}(h:Conc E ι σ a w)(hb:w.heap[b]? = some (.map X clk))(hE:E.w.heap.size≤b)(hH:Q7t σ.H=false)(hk:X'.toList.map (·.key)=ks)(hu:X'.toList.map (·.val)=us)(hl:us.length=cs.length)(hr:∀(j:Nat) (u:Value) (x:AV),us[j]? = some u→cs[j]? = some x→RV (Sx E ι σ.H) ι w u x)(hm:AV.hasMpA cs=false) :
 Conc E ι ⟨σ.T.map (AV.amU b ks cs),σ.H⟩ a (w.putObj b (.map X' clk')):=by
 have hlt:=(Array.getElem?_eq_some_iff.1 hb).1
 refine⟨?_,by rw[List.length_map];exact h.size,fun i=>?_,⟨fun r cs hr=>?_,h.heap.inj⟩,⟨h.keep.os,h.keep.tape,h.keep.output,by simpa using h.keep.size,fun b' hb' hbD=>?_,h.keep.mine⟩⟩
 · obtain⟨Ds,h1,h2,h3⟩:=h.defers
   refine⟨Ds,h1,h2,fun D hD=>?_⟩
   obtain⟨g1,g2,g3⟩:=h3 D hD
   exact⟨g1,g2,(X8l hb _ g3 fun _ _ h=>by cases h).trans g3⟩
 · have e:(σ.T.map (AV.amU b ks cs)).getD i .any=(σ.T.getD i .any).amU b ks cs:=by
    rw[List.getD_eq_getElem?_getD,List.getD_eq_getElem?_getD,List.getElem?_map]
    cases σ.T[i]? <;> rfl
   rw[e]
   exact(h.tmp i).amU hb hk hu hl hr hm
 · rcases h.heap.blk r cs hr with h0|⟨cur,hh,hs,hlen,hc,hone1⟩
   · exact .inl h0
   · have hm:=X2a hH r cs hr
     exact .inr ⟨cur,(X8l hb _ hh fun _ _ h=>by cases h).trans hh,hs,hlen,fun j u x hu hx=>⟨(hc j u x hu hx).1.nmono (fun b' cur e z hS hh=>⟨hS,X8l hb _ hh fun _ _ h=>by cases h⟩) (Q3q hm j x hx),(hc j u x hu hx).2⟩,hone1⟩
 · have hne:b'≠b:=by omega
   rw[World.putObj_heap_other hne]
   exact h.keep.block b' hb' hbD
end
def Q5d(k:Int):List Int→Nat→Option Nat
 |[],_=>none
 |q::l,i=>if k=q then some i else Q5d k l (i+1)
abbrev iks(l:List Int):List Value:=l.map fun n=>Value.int .i64 n
theorem Q6a(k:Int):∀(l:List MapEntry) (kl:List Int) (i:Nat),l.map (·.key)=iks kl→Instr.findNow (.int .i64) (.int .i64 k) l i=some ((Q5d k kl i).bind fun j=>(l[j-i]?).map fun e=>(j,e.val))
 |[],[],i,_=>rfl
 |[],p::m,i,h=>by cases h
 |e::l,[],i,h=>by cases h
 |e::l,p::m,i,h=>by
  simp only[iks,List.map_cons,List.cons.injEq] at h
  obtain⟨h1,h3⟩:=h
  have ih:=Q6a k l m (i+1) h3
  unfold Instr.findNow Q5d
  rw[h1]
  unfold Instr.sameNow
  by_cases hk:k=p
  · have:(k==p)=true:=by simpa using hk
    simp[this,hk]
  · have:(k==p)=false:=by simpa using hk
    simp[this,hk,ih]
    cases hf:Q5d k m (i+1) with
    |none=>rfl
    |some j=>
     have hge:∀(m:List Int) (i j:Nat),Q5d k m i=some j→i≤j:=by
      intro m
      induction m with
      |nil=>intro i j h;cases h
      |cons q m ih=>
       intro i j h
       unfold Q5d at h
       split at h
       · cases h;exact Nat.le_refl _
       · exact Nat.le_of_succ_le (ih (i+1) j h)
     have:=hge m (i+1) j hf
     obtain⟨d,rfl⟩:∃d,j=i+1+d:=⟨j-(i+1),by omega⟩
     simp only[Option.bind_some]
     rw[show i+1+d-(i+1)=d by omega,show i+1+d-i=d+1 by omega,List.getElem?_cons_succ]
theorem X0i(k:Int):IsKey (.int .i64) (.int .i64 k):=by simp[IsKey]
section
variable {P:Program} {o:Oper} {σ : St} {K:St→Prop}
theorem Q2a{E0:Env}{t kt et:TypeId}{x ix vx:Operand}{b:Nat}{k:Int}{kl:List Int}{cs:List AV}{y:AV}(ho:o.op = .insert t x ix vx)(hd:o.dst=none)(hx:Q0f x=true)(hi:Q0f ix=true)(hvx:Q0f vx=true)(hm:P.underlying t=some (.map kt et))(hkt:P.underlying kt=some (.int .i64))
 (h1:σ.ev x = .amp b (iks kl) cs) (h2:σ.ev ix = .c (.v (.int .i64 k))) (h3:σ.ev vx=y) (hf:Q5d k kl 0=none) (hb:E0.w.heap.size≤b) (hH:Q7t σ.H=false) (hm1:AV.hasMpA (cs++[y])=false)
 (hK:K ⟨σ.T.map (AV.amU b (iks (kl++[k])) (cs++[y])),σ.H⟩):OpW (fun E=>E=E0) P o σ K:=by
 intro E ι a w hE hc K' Q hK'
 subst hE
 have hiv:=hc.ev ix hi
 rw[h2] at hiv
 obtain⟨ei,_⟩:=hiv.v_inv
 have hvv:=hc.ev vx hvx
 rw[h3] at hvv
 have hxv:=hc.ev x hx
 rw[h1] at hxv
 generalize he:a.eval x=vm at hxv
 cases hxv with
 |amp _ X clk _ us _ hS hh hk hu hl hr=>
  have hfn:=Q6a k X.toList kl 0 hk
  rw[hf] at hfn
  have hrun:(execOp a.eval o).run P w = .ok .skip (w.putObj b (.map (X.push {key:=.int .i64 k,val:=a.eval vx,born:=clk}) (clk+1))):=by
   unfold execOp
   simp[ho,he,ei,Instr.mapUpdate,run_underlying hm,MapKept.run_getObj_map hh,MapKept.run_checkKey hkt (X0i k),MapKept.run_findKey hkt hfn,MapKept.run_setObj_map _ hh,Result.andThen,World.putObj]
  have h4:=hK' ι _ _ _ hK (hc.amap (X':=X.push {key:=.int .i64 k,val:=a.eval vx,born:=clk}) (clk':=clk+1) (us:=us++[a.eval vx]) (cs:=cs++[y]) hh hb hH (by rw[Array.toList_push,List.map_append,hk];simp[iks]) (by rw[Array.toList_push,List.map_append,hu];rfl) (by simp[hl]) (fun j u x hu hx=>by
   rcases Nat.lt_or_ge j us.length with hj|hj
   · rw[List.getElem?_append_left hj] at hu
     rw[List.getElem?_append_left (by omega)] at hx
     exact hr j u x hu hx
   · rw[List.getElem?_append_right hj] at hu
     rw[List.getElem?_append_right (by omega)] at hx
     rw[hl] at hu
     cases hz:j-cs.length with
     |zero=>rw[hz] at hu hx;simp at hu hx;subst hu hx;exact hvv
     |succ m=>rw[hz] at hu;simp at hu) hm1)
  unfold Oper.wp
  rw[hrun]
  simpa [Oper.upon,hd,Act.put] using h4
theorem X6w{t kt et:TypeId}{x ix:Operand}{b j:Nat}{k:Int}{kl:List Int}{cs:List AV}{y:AV}(ho:o.op = .lookup t x ix true)(hx:Q0f x=true)(hi:Q0f ix=true)(hm:P.underlying t=some (.map kt et))(hkt:P.underlying kt=some (.int .i64))
 (h1:σ.ev x = .amp b (iks kl) cs) (h2:σ.ev ix = .c (.v (.int .i64 k))) (hf:Q5d k kl 0=some j) (hy:cs[j]? = some y) (hK:K (σ.put o.dst (.tup [y,.c (.v (.bool true))]))):OpA P o σ K:=by
 refine Q1e _ hK fun E ι a w h=>?_
 have hxv:=h.ev x hx
 rw[h1] at hxv
 have hiv:=h.ev ix hi
 rw[h2] at hiv
 obtain⟨ei,_⟩:=hiv.v_inv
 generalize he:a.eval x=v at hxv
 cases hxv with
 |amp _ X clk _ us _ hS hh hk hu hl hr=>
  have hfn:=Q6a k X.toList kl 0 hk
  rw[hf] at hfn
  have hj:j<us.length:=by rw[hl];exact(List.getElem?_eq_some_iff.1 hy).1
  have hjX:j<X.size:=by
   have:=congrArg List.length hu
   simp at this
   omega
  have hval:X[j].val=us[j]:=by
   have:(X.toList.map (·.val))[j]? = us[j]?:=by rw[hu]
   rw[List.getElem?_map,List.getElem?_eq_getElem hj] at this
   simpa [hjX] using this
  refine⟨.tuple #[us[j],.bool true],?_,.tup [us[j],.bool true] _ rfl fun i u z hu hz=>?_⟩
  · unfold execOp
    simp only[Option.bind_some,Nat.sub_zero] at hfn
    rw[show X.toList[j]? = some X[j] by simp[hjX],Option.map_some,hval] at hfn
    simp only[ho,he,ei]
    simp[Instr.lookup,run_underlying hm,MapKept.run_getObj_map hh,MapKept.run_checkKey hkt (X0i k),MapKept.run_findKey hkt hfn,Result.andThen]
  · rcases i with _|_|i
    · simp at hu hz;subst hu hz;exact hr j _ _ (List.getElem?_eq_getElem hj) hy
    · simp at hu hz;subst hu hz;exact Q1v _ rfl
    · simp at hu
theorem X6v{t kt et:TypeId}{x ix:Operand}{b:Nat}{k:Int}{kl:List Int}{cs:List AV}{z:Value}(ho:o.op = .lookup t x ix true)(hx:Q0f x=true)(hi:Q0f ix=true)(hm:P.underlying t=some (.map kt et))(hkt:P.underlying kt=some (.int .i64))(hz:(P.info? et).bind (·.zero)=some z)(hz1:z.oneCell'=true)
 (h1:σ.ev x = .amp b (iks kl) cs) (h2:σ.ev ix = .c (.v (.int .i64 k))) (hf:Q5d k kl 0=none) (hK:K (σ.put o.dst (.tup [.c (.v z),.c (.v (.bool false))]))):OpA P o σ K:=by
 refine Q1e _ hK fun E ι a w h=>?_
 have hxv:=h.ev x hx
 rw[h1] at hxv
 have hiv:=h.ev ix hi
 rw[h2] at hiv
 obtain⟨ei,_⟩:=hiv.v_inv
 generalize he:a.eval x=v at hxv
 cases hxv with
 |amp _ X clk _ us _ hS hh hk hu hl hr=>
  have hfn:=Q6a k X.toList kl 0 hk
  rw[hf] at hfn
  refine⟨.tuple #[z,.bool false],?_,.tup [z,.bool false] _ rfl fun i u y hu hy=>?_⟩
  · unfold execOp
    simp only[ho,he,ei]
    simp[Instr.lookup,run_underlying hm,MapKept.run_getObj_map hh,MapKept.run_checkKey hkt (X0i k),MapKept.run_findKey hkt hfn,Result.andThen,run_zeroV hz]
  · rcases i with _|_|i
    · simp at hu hy;subst hu hy;exact Q1v _ hz1
    · simp at hu hy;subst hu hy;exact Q1v _ rfl
    · simp at hu
end
end
section
open Go.RowKit
open Nat (reduceBEq)
attribute [-go_sem] IntKind.bits
set_option maxRecDepth 20000
set_option maxHeartbeats 2000000
theorem X7n{l:List Nat}{i:Nat}{y:Nat}(h:l[i]? = some y):((l.flatMap bpv).drop i).take 1=[.v (.int .u8 (y:Int))]:=by
 have:=bsl_at h
 rwa [Nat.mul_one] at this
theorem beq_fn(e1 e2:Bool)(a b:List Nat)(hl:a.length≤1000000):Fn Tryz.prog 141 [bsl e1 a,bsl e2 b] [] (vb (decide (a=b))) []:=by
 obtain⟨r,hr⟩:∃r,decide (a=b)=r:=⟨_,rfl⟩
 rw[hr]
 by_cases hab:a.length=b.length
 · have k0:((a.length:Int) != (b.length:Int))=false:=by simp;omega
   (refine Q0v Tryz.func141 rfl (by rfl) ?_;simp only[Tryz.ntmps141,List.length_cons,List.length_nil,Nat.reduceAdd,Nat.reduceSub,List.replicate,List.cons_append,List.nil_append])
   (repeat(any_goals(first|((with_reducible refine Q0b ?_ ?_);rfl;intro K hK;simp only[go_sem,k0];((repeat(refine ndI (by first|assumption) ?_));refine hK _ ?_;clear hK K))|(with_reducible first|(refine Q0c ?_;refine hR _ ?_;clear hR R)|((first|refine Q0d ?_|refine Q0g ?_);intro J hJ hJ')|(refine Q0a ?_;intro R hR)|(refine hJ _ ?_;clear hJ hJ' J)|refine Q0i ?_)|((with_reducible apply Q0e);rfl;rfl;all_goals(intro hc;first|(cases hc;done)|(try simp only at hc))))))
   refine Q1t (α:={i:Nat // i≤a.length∧a.take i=b.take i}) (fun p=>⟨[bsl e1 a,bsl e2 b,.any,.any,vb false,.any,.any,.any,.any,.any,.any,.any,vi .i64 a.length,vi .i64 (p.1:Int),.any,.any,.any,.any,.any,.any,.any,.any,.any,.any,.any,.any],[]⟩) (fun p=>a.length-p.1) ⟨0,Nat.zero_le _,rfl⟩ (St.le_of (by simp[leT]) (by simp[leH])) ?_
   rintro ⟨i,hi,htk⟩ J hJ hJ'
   (try dsimp only at hJ ⊢)
   rcases Nat.lt_or_ge i a.length with hlt|hge
   · obtain⟨x,hx⟩:∃x,a[i]? = some x:=⟨_,List.getElem?_eq_getElem hlt⟩
     obtain⟨y,hy⟩:∃y,b[i]? = some y:=⟨_,List.getElem?_eq_getElem (by omega)⟩
     have k1:(decide ((i:Int)<(a.length:Int)))=true:=by simp;omega
     have k2:=X7n hx
     have k3:=X7n hy
     have k7:(i:Int)+1=((i+1:Nat):Int):=by omega
     have hib:i<b.length:=by omega
     by_cases hxy:x=y
     · have k4:((x:Int) != (y:Int))=false:=by simp[hxy]
       have hJ1:=fun σ'=>hJ σ' ⟨i+1,hlt,by rw[List.take_add_one,List.take_add_one,htk,hx,hy,hxy]⟩ (by dsimp only;omega)
       dsimp only at hJ1
       (have W:=ndI k1 (ndI k2 (ndI k3 (ndI k4 (ndI k7 @wrI))));(repeat(any_goals(first|((with_reducible refine Q0b ?_ ?_);rfl;intro K hK;simp(disch:=omega) only[go_sem,W,Nat.mul_one];((repeat(refine ndI (by first|assumption|rfl) ?_));refine hK _ ?_;clear hK K))|(with_reducible first|(refine Q0c ?_;refine hR _ ?_;clear hR R)|((first|refine Q0d ?_|refine Q0g ?_);intro J hJ hJ')|(refine Q0a ?_;intro R hR)|(refine hJ _ ?_;clear hJ hJ' J)|refine Q0i ?_)|((with_reducible refine hJ' _ _ ?_ ?_);(focus(simp;done));clear hJ hJ' J)|((with_reducible apply Q0e);rfl;rfl;all_goals(intro hc;first|(cases hc;done)|(try simp only at hc)))|((with_reducible refine Q0z ?_ ?_);kernel_rfl;(with_reducible refine hR _ ?_);clear hR R)|(((with_reducible apply Q0x);rfl;rfl;(simp(disch:=omega) only[rdE,rdOf,go_sem,W,Nat.mul_one];rfl);(intro τ hA hQ hN;((try simp only[Q1o,Op.operands,Call.operands,go_sem,W,Nat.mul_one,go_sem,List.mem_cons,List.not_mem_nil,forall_eq_or_imp,forall_eq,List.append_toArray,Option.toArray] at hA);(try simp only[go_sem,W,Nat.mul_one,List.mem_cons,List.not_mem_nil,forall_eq_or_imp,forall_eq] at hQ hN);(first|(revert hA;intro hA));(first|(revert hQ;intro hQ));(first|(revert hN;intro hN));simp(disch:=omega) only[go_sem,W,Nat.mul_one,go_sem,hA,hQ,hN];(repeat(refine ndI (by first|assumption|omega|rfl) ?_));(first|apply Q1f))));(simp(disch:=omega) only[St.eff,setO,Q0r,go_sem,W,Nat.mul_one]))|((with_reducible refine Q0y ?_ ?_ ?_ ?_);kernel_rfl;kernel_rfl;(first|kernel_rfl);intro R hR)))))
       all_goals exact hJ1 _ (St.le_of (by simp[leT]) (by simp[leH]))
     · have k4:((x:Int) != (y:Int))=true:=by simp;omega
       have hrf:r=false:=by
        rw[←hr,decide_eq_false]
        rintro rfl
        rw[hx] at hy
        exact hxy (Option.some.inj hy)
       (have W:=ndI k1 (ndI k2 (ndI k3 (ndI k4 (ndI k7 @wrI))));(repeat(any_goals(first|((with_reducible refine Q0b ?_ ?_);rfl;intro K hK;simp(disch:=omega) only[go_sem,W,Nat.mul_one];((repeat(refine ndI (by first|assumption|rfl) ?_));refine hK _ ?_;clear hK K))|(with_reducible first|(refine Q0c ?_;refine hR _ ?_;clear hR R)|((first|refine Q0d ?_|refine Q0g ?_);intro J hJ hJ')|(refine Q0a ?_;intro R hR)|(refine hJ _ ?_;clear hJ hJ' J)|refine Q0i ?_|refine Q0k ?_)|((with_reducible refine hJ' _ _ ?_ ?_);(focus(simp;done));clear hJ hJ' J)|((with_reducible apply Q0e);rfl;rfl;all_goals(intro hc;first|(cases hc;done)|(try simp only at hc)))|((with_reducible refine Q0z ?_ ?_);kernel_rfl;(with_reducible refine hR _ ?_);clear hR R)|(((with_reducible apply Q0x);rfl;rfl;(simp(disch:=omega) only[rdE,rdOf,go_sem,W,Nat.mul_one];rfl);(intro τ hA hQ hN;((try simp only[Q1o,Op.operands,Call.operands,go_sem,W,Nat.mul_one,go_sem,List.mem_cons,List.not_mem_nil,forall_eq_or_imp,forall_eq,List.append_toArray,Option.toArray] at hA);(try simp only[go_sem,W,Nat.mul_one,List.mem_cons,List.not_mem_nil,forall_eq_or_imp,forall_eq] at hQ hN);(first|(revert hA;intro hA));(first|(revert hQ;intro hQ));(first|(revert hN;intro hN));simp(disch:=omega) only[go_sem,W,Nat.mul_one,go_sem,hA,hQ,hN];(repeat(refine ndI (by first|assumption|omega|rfl) ?_));(first|apply Q1f))));(simp(disch:=omega) only[St.eff,setO,Q0r,go_sem,W,Nat.mul_one]))|((with_reducible refine Q0y ?_ ?_ ?_ ?_);kernel_rfl;kernel_rfl;(first|kernel_rfl);intro R hR)))))
       all_goals rw[hrf]
       all_goals(refine⟨by simp,⟨_,?_,AV.le_refl _⟩,Q0h (by simp[leH,hget])⟩;simp only[Tryz.results141,resL,ldA,Q0q,go_sem])
   · have k1:(decide ((i:Int)<(a.length:Int)))=false:=by simp;omega
     have hrt:r=true:=by
      rw[←hr,decide_eq_true]
      rw[List.take_of_length_le hge,List.take_of_length_le (by omega)] at htk
      exact htk
     (repeat(any_goals(first|((with_reducible refine Q0b ?_ ?_);rfl;intro K hK;simp only[go_sem,k1];((repeat(refine ndI (by first|assumption) ?_));refine hK _ ?_;clear hK K))|(with_reducible first|(refine Q0c ?_;refine hR _ ?_;clear hR R)|((first|refine Q0d ?_);intro J hJ hJ')|(refine Q0a ?_;intro R hR)|(refine hJ _ ?_;clear hJ hJ' J)|refine Q0k ?_|refine Q0t ?_)|((with_reducible refine hJ' _ _ ?_ ?_);(focus(simp;done));clear hJ hJ' J)|((with_reducible apply Q0e);rfl;rfl;all_goals(intro hc;first|(cases hc;done)|(try simp only at hc))))))
     all_goals rw[hrt]
     all_goals(refine⟨by simp,⟨_,?_,AV.le_refl _⟩,Q0h (by simp[leH,hget])⟩;simp only[Tryz.results141,resL,ldA,Q0q,go_sem])
 · have k0:((a.length:Int) != (b.length:Int))=true:=by simp;omega
   obtain rfl:r=false:=by
    rw[←hr,decide_eq_false]
    rintro rfl
    exact hab rfl
   (refine Q0v Tryz.func141 rfl (by rfl) ?_;simp only[Tryz.ntmps141,List.length_cons,List.length_nil,Nat.reduceAdd,Nat.reduceSub,List.replicate,List.cons_append,List.nil_append])
   (repeat(any_goals(first|((with_reducible refine Q0b ?_ ?_);rfl;intro K hK;simp only[go_sem,k0];((repeat(refine ndI (by first|assumption) ?_));refine hK _ ?_;clear hK K))|(with_reducible first|(refine Q0c ?_;refine hR _ ?_;clear hR R)|((first|refine Q0d ?_);intro J hJ hJ')|(refine Q0a ?_;intro R hR)|(refine hJ _ ?_;clear hJ hJ' J)|refine Q0k ?_)|((with_reducible refine hJ' _ _ ?_ ?_);(focus(simp;done));clear hJ hJ' J)|((with_reducible apply Q0e);rfl;rfl;all_goals(intro hc;first|(cases hc;done)|(try simp only at hc))))))
   all_goals(refine⟨by simp,⟨_,?_,AV.le_refl _⟩,Q0h (by simp[leH,hget])⟩;simp only[Tryz.results141,resL,ldA,Q0q,go_sem])
def idxB(x:Nat):List Nat→Nat→Int
 |[],_=>-1
 |y::l,i=>if x=y then(i:Int) else idxB x l (i+1)
theorem idxB_ge(x:Nat):∀(l:List Nat) (i:Nat),decide (idxB x l i≥0)=decide (x∈l)
 |[],i=>by simp[idxB]
 |y::l,i=>by
  unfold idxB
  by_cases h:x=y
  · subst h;simp
  · rw[if_neg h,idxB_ge x l (i+1)]
    simp[h]
theorem index_fn(ex:Bool)(l:List Nat)(x:Nat)(hl:l.length≤1000000):Fn Tryz.prog 144 [bsl ex l,vi .u8 (x:Int)] [] (vi .i64 (idxB x l 0)) []:=by
 obtain⟨r,hr⟩:∃r,idxB x l 0=r:=⟨_,rfl⟩
 rw[hr]
 (refine Q0v Tryz.func144 rfl (by rfl) ?_;simp only[Tryz.ntmps144,List.length_cons,List.length_nil,Nat.reduceAdd,Nat.reduceSub,List.replicate,List.cons_append,List.nil_append])
 (repeat(any_goals(first|((with_reducible refine Q0b ?_ ?_);rfl;intro K hK;simp only[go_sem];((repeat(refine ndI (by first|assumption) ?_));refine hK _ ?_;clear hK K))|(with_reducible first|(refine Q0c ?_;refine hR _ ?_;clear hR R)|((first|refine Q0d ?_|refine Q0g ?_);intro J hJ hJ')|(refine Q0a ?_;intro R hR)|(refine hJ _ ?_;clear hJ hJ' J)))))
 refine Q1t (α:={i:Nat // i≤l.length∧idxB x (l.drop i) i=r}) (fun p=>⟨[bsl ex l,vi .u8 (x:Int),.any,.any,.any,.any,.any,vi .i64 l.length,vi .i64 (p.1:Int),.any,.any,.any,.any,.any,.any,.any,.any,.any,.any],[]⟩) (fun p=>l.length-p.1) ⟨0,Nat.zero_le _,hr⟩ (St.le_of (by simp[leT]) (by simp[leH])) ?_
 rintro ⟨i,hi,hd⟩ J hJ hJ'
 (try dsimp only at hJ ⊢)
 rcases Nat.lt_or_ge i l.length with hlt|hge
 · obtain⟨y,hy⟩:∃y,l[i]? = some y:=⟨_,List.getElem?_eq_getElem hlt⟩
   have k1:(decide ((i:Int)<(l.length:Int)))=true:=by simp;omega
   have k2:=X7n hy
   have k7:(i:Int)+1=((i+1:Nat):Int):=by omega
   have hdr:l.drop i=y::l.drop (i+1):=by
    rw[List.drop_eq_getElem_cons hlt]
    rw[List.getElem?_eq_getElem hlt] at hy
    rw[Option.some.inj hy]
   rw[hdr] at hd
   unfold idxB at hd
   by_cases hxy:x=y
   · have k4:((x:Int)==(y:Int))=true:=by simp[hxy]
     rw[if_pos hxy] at hd
     (have W:=ndI k1 (ndI k2 (ndI k4 (ndI k7 @wrI)));(repeat(any_goals(first|((with_reducible refine Q0b ?_ ?_);rfl;intro K hK;simp(disch:=omega) only[go_sem,W,Nat.mul_one];((repeat(refine ndI (by first|assumption|omega|rfl) ?_));refine hK _ ?_;clear hK K))|(with_reducible first|(refine Q0c ?_;refine hR _ ?_;clear hR R)|((first|refine Q0d ?_|refine Q0g ?_);intro J hJ hJ')|(refine Q0a ?_;intro R hR)|(refine hJ _ ?_;clear hJ hJ' J)|refine Q0i ?_|refine Q0k ?_)|((with_reducible refine hJ' _ _ ?_ ?_);(focus(simp;done));clear hJ hJ' J)|((with_reducible apply Q0e);rfl;rfl;all_goals(intro hc;first|(cases hc;done)|(try simp only at hc)))))))
     all_goals rw[←hd]
     all_goals(refine⟨by simp,⟨_,?_,AV.le_refl _⟩,Q0h (by simp[leH,hget])⟩;simp only[Tryz.results144,resL,ldA,Q0q,go_sem])
   · have k4:((x:Int)==(y:Int))=false:=by simp;omega
     rw[if_neg hxy] at hd
     have hJ1:=fun σ'=>hJ σ' ⟨i+1,hlt,hd⟩ (by dsimp only;omega)
     dsimp only at hJ1
     (have W:=ndI k1 (ndI k2 (ndI k4 (ndI k7 @wrI)));(repeat(any_goals(first|((with_reducible refine Q0b ?_ ?_);rfl;intro K hK;simp(disch:=omega) only[go_sem,W,Nat.mul_one];((repeat(refine ndI (by first|assumption|omega|rfl) ?_));refine hK _ ?_;clear hK K))|(with_reducible first|(refine Q0c ?_;refine hR _ ?_;clear hR R)|((first|refine Q0d ?_|refine Q0g ?_);intro J hJ hJ')|(refine Q0a ?_;intro R hR)|(refine hJ _ ?_;clear hJ hJ' J)|refine Q0i ?_)|((with_reducible refine hJ' _ _ ?_ ?_);(focus(simp;done));clear hJ hJ' J)|((with_reducible apply Q0e);rfl;rfl;all_goals(intro hc;first|(cases hc;done)|(try simp only at hc)))))))
     all_goals exact hJ1 _ (St.le_of (by simp[leT]) (by simp[leH]))
 · have k1:(decide ((i:Int)<(l.length:Int)))=false:=by simp;omega
   rw[List.drop_eq_nil_of_le hge] at hd
   have hd:r = -1:=hd.symm
   (repeat(any_goals(first|((with_reducible refine Q0b ?_ ?_);rfl;intro K hK;simp only[go_sem,k1];((repeat(refine ndI (by first|assumption) ?_));refine hK _ ?_;clear hK K))|(with_reducible first|(refine Q0c ?_;refine hR _ ?_;clear hR R)|((first|refine Q0d ?_);intro J hJ hJ')|(refine Q0a ?_;intro R hR)|(refine hJ _ ?_;clear hJ hJ' J)|refine Q0k ?_|refine Q0t ?_)|((with_reducible refine hJ' _ _ ?_ ?_);(focus(simp;done));clear hJ hJ' J)|((with_reducible apply Q0e);rfl;rfl;all_goals(intro hc;first|(cases hc;done)|(try simp only at hc))))))
   all_goals rw[hd]
   all_goals(refine⟨by simp,⟨_,?_,AV.le_refl _⟩,Q0h (by simp[leH,hget])⟩;simp only[Tryz.results144,resL,ldA,Q0q,go_sem])
theorem X0s(ex:Bool)(l:List Nat)(x:Nat)(hl:l.length≤1000000):Fn Tryz.prog 101 [bsl ex l,vi .u8 (x:Int)] [] (vb (decide (x∈l))) []:=by
 have h:=index_fn ex l x hl
 have e:=idxB_ge x l 0
 generalize idxB x l 0=r at h e
 rw[←e]
 (refine Q0v Tryz.func101 rfl (by rfl) ?_;simp only[Tryz.ntmps101,List.length_cons,List.length_nil,Nat.reduceAdd,Nat.reduceSub,List.replicate,List.cons_append,List.nil_append])
 (repeat(any_goals(first|((with_reducible refine Q0n ?_ ?_ ?_);rfl;rfl;intro K hK;((apply Q0j (h);rfl;rfl;rfl;rfl;exact Tryz.func144);kernel_rfl;rfl;(focus((simp only[go_sem]);(try rfl);done));(first|rfl));(simp only[go_sem];refine hK _ ?_;clear hK K))|((with_reducible refine Q0b ?_ ?_);rfl;intro K hK;simp only[go_sem];((repeat(refine ndI (by first|assumption) ?_));refine hK _ ?_;clear hK K))|(with_reducible first|(refine Q0c ?_;refine hR _ ?_;clear hR R)|((first|refine Q0d ?_);intro J hJ hJ')|(refine Q0a ?_;intro R hR)|(refine hJ _ ?_;clear hJ hJ' J)|refine Q0k ?_))))
 all_goals(refine⟨by simp,⟨_,?_,AV.le_refl _⟩,Q0h (by simp[leH,hget])⟩;simp only[Tryz.results101,resL,ldA,Q0q,go_sem])
def X1a(x:Nat):Bool:=decide (x∈[241,244,250,245])
theorem calls_fn(x:Nat):Fn Tryz.prog 160 [vi .u8 (x:Int)] [] (vb (X1a x)) []:=by
 have h:Fn Tryz.prog 101 [.c (.sl true 1 4 [.v (.int .u8 241),.v (.int .u8 244),.v (.int .u8 250),.v (.int .u8 245)]),vi .u8 (x:Int)] [] (vb (X1a x)) []:=X0s true [241,244,250,245] x (by decide)
 generalize X1a x=b at h ⊢
 (refine Q0v Tryz.func160 rfl (by rfl) ?_;simp only[Tryz.ntmps160,List.length_cons,List.length_nil,Nat.reduceAdd,Nat.reduceSub,List.replicate,List.cons_append,List.nil_append])
 (repeat(any_goals(first|((with_reducible refine Q2t ?_ ?_);rfl;intro K hK;apply Q2f;rfl;rfl;(focus(simp only[go_sem];try rfl));(focus(simp only[go_sem];try rfl));rfl;(first|omega);(first|omega);(first|omega);(simp only[go_sem];rfl);rfl;(focus((simp only[unC,Option.map_some]);(try rfl)));(simp only[go_sem];refine hK _ ?_;clear hK K))|((with_reducible refine Q0n ?_ ?_ ?_);rfl;rfl;intro K hK;((apply Q0j (h);rfl;rfl;rfl;rfl;exact Tryz.func101);kernel_rfl;rfl;(focus((simp only[go_sem]);(try rfl);done));(first|rfl));(simp only[go_sem];refine hK _ ?_;clear hK K))|((with_reducible refine Q0b ?_ ?_);rfl;intro K hK;simp only[go_sem];((repeat(refine ndI (by first|assumption) ?_));refine hK _ ?_;clear hK K))|(with_reducible first|(refine Q0c ?_;refine hR _ ?_;clear hR R)|((first|refine Q0d ?_);intro J hJ hJ')|(refine Q0a ?_;intro R hR)|(refine hJ _ ?_;clear hJ hJ' J)|refine Q0k ?_))))
 all_goals(refine⟨by simp,⟨_,?_,AV.le_refl _⟩,Q0h (by simp[leH,hget])⟩;simp only[Tryz.results160,resL,ldA,Q0q,go_sem])
def X4o(x:Nat):Bool:=x==50||x==49||x==66||x==67||x==71||x==72||x==254
theorem told_fn(x:Nat):Fn Tryz.prog 161 [vi .u8 (x:Int)] [] (vb (X4o x)) []:=by
 obtain⟨b1,h1⟩:∃b,((x:Int)==50)=b:=⟨_,rfl⟩
 obtain⟨b2,h2⟩:∃b,((x:Int)==49)=b:=⟨_,rfl⟩
 obtain⟨b3,h3⟩:∃b,((x:Int)==66)=b:=⟨_,rfl⟩
 obtain⟨b4,h4⟩:∃b,((x:Int)==67)=b:=⟨_,rfl⟩
 obtain⟨b5,h5⟩:∃b,((x:Int)==71)=b:=⟨_,rfl⟩
 obtain⟨b6,h6⟩:∃b,((x:Int)==72)=b:=⟨_,rfl⟩
 obtain⟨b7,h7⟩:∃b,((x:Int)==254)=b:=⟨_,rfl⟩
 have e:X4o x=(b1||b2||b3||b4||b5||b6||b7):=by
  have key:∀n:Nat,((x:Int)==(n:Int))=(x==n):=fun n=>by
   rw[Bool.eq_iff_iff];simp;omega
  rw[←h1,←h2,←h3,←h4,←h5,←h6,←h7]
  unfold X4o
  rw[show((50:Int))=((50:Nat):Int) from rfl,show((49:Int))=((49:Nat):Int) from rfl,show((66:Int))=((66:Nat):Int) from rfl,show((67:Int))=((67:Nat):Int) from rfl,show((71:Int))=((71:Nat):Int) from rfl,show((72:Int))=((72:Nat):Int) from rfl,show((254:Int))=((254:Nat):Int) from rfl]
  rw[key,key,key,key,key,key,key]
 rw[e]
 clear e
 (refine Q0v Tryz.func161 rfl (by rfl) ?_;simp only[Tryz.ntmps161,List.length_cons,List.length_nil,Nat.reduceAdd,Nat.reduceSub,List.replicate,List.cons_append,List.nil_append])
 (have W:=ndI h1 (ndI h2 (ndI h3 (ndI h4 (ndI h5 (ndI h6 h7)))));(repeat(any_goals(first|((with_reducible refine Q0b ?_ ?_);rfl;intro K hK;simp only[go_sem,W];((repeat(refine ndI (by first|assumption) ?_));refine hK _ ?_;clear hK K))|(with_reducible first|(refine Q0c ?_;refine hR _ ?_;clear hR R)|((first|refine Q0d ?_|refine Q0g ?_);intro J hJ hJ')|(refine Q0a ?_;intro R hR)|(refine hJ _ ?_;clear hJ hJ' J)|refine Q0i ?_|refine Q0k ?_)|((with_reducible refine hJ' _ _ ?_ ?_);(focus(simp;done));clear hJ hJ' J)|((with_reducible apply Q0e);rfl;rfl;all_goals(intro hc;first|(try simp only at hc)))))))
 all_goals(subst_vars;(refine⟨by simp,⟨_,?_,AV.le_refl _⟩,Q0h (by simp[leH,hget])⟩;simp only[Tryz.results161,resL,ldA,Q0q,go_sem]))
 all_goals simp_all
end
section
open Go.RowKit
open Nat (reduceBEq)
attribute [-go_sem] IntKind.bits
set_option maxRecDepth 20000
set_option maxHeartbeats 2000000
structure Ev where
 kind:Int
 dep:Int
 self:Int
 to:Int
 op:Nat
 key:Nat
 val:Nat
 data:List Nat
deriving DecidableEq
abbrev c14(k d s t o a0 a1 a2 a3 v0 v1 v2 v3:Int)(x:AV):List AV:=[vi .i64 k,vi .i64 d,vi .u64 s,vi .u64 t,vi .u8 o,vi .u64 a0,vi .u64 a1,vi .u64 a2,vi .u64 a3,vi .u64 v0,vi .u64 v1,vi .u64 v2,vi .u64 v3,x]
abbrev evA(e:Ev):AV:=.agg (c14 e.kind e.dep e.self e.to (e.op:Int) (l0 e.key) (l1 e.key) (l2 e.key) (l3 e.key) (l0 e.val) (l1 e.val) (l2 e.val) (l3 e.val) (bsl false e.data))
abbrev nilA:AV:=.c (.v (.slice none 0 0))
theorem same_fnE(k d s t o a0 a1 a2 a3 v0 v1 v2 v3 k' d' s' t' o' a0' a1' a2' a3' v0' v1' v2' v3':Int)(ex:Bool)(x y:List Nat)(b1 b2 b3 b4 b5 b6 b7 b8:Bool)(h1:(k==k')=b1)(h2:(d==d')=b2)(h3:(s==s')=b3)(h4:(t==t')=b4)(h5:(o==o')=b5)
 (h6:(a0==a0'&&(a1==a1'&&(a2==a2'&&a3==a3')))=b6) (h7:(v0==v0'&&(v1==v1'&&(v2==v2'&&v3==v3')))=b7) (be:Fn Tryz.prog 141 [bsl ex x,bsl ex y] [] (vb b8) []) :
 Fn Tryz.prog 91 [.agg (c14 k d s t o a0 a1 a2 a3 v0 v1 v2 v3 (bsl ex x)),.agg (c14 k' d' s' t' o' a0' a1' a2' a3' v0' v1' v2' v3' (bsl ex y))] [] (vb (b1&&b2&&b3&&b4&&b5&&b6&&b7&&b8)) []:=by
 (refine Q0v Tryz.func91 rfl (by rfl) ?_;simp only[Tryz.ntmps91,List.length_cons,List.length_nil,Nat.reduceAdd,Nat.reduceSub,List.replicate,List.cons_append,List.nil_append])
 (have W:=ndI h1 (ndI h2 (ndI h3 (ndI h4 (ndI h5 (ndI h6 h7)))));(repeat(any_goals(first|((with_reducible refine Q0b ?_ ?_);rfl;intro K hK;simp only[go_sem,W];((repeat(refine ndI (by first|assumption) ?_));refine hK _ ?_;clear hK K))|(with_reducible first|(refine Q0c ?_;refine hR _ ?_;clear hR R)|((first|refine Q0d ?_);intro J hJ hJ')|(refine Q0a ?_;intro R hR)|(refine hJ _ ?_;clear hJ hJ' J)|refine Q0k ?_)|((with_reducible apply Q1a);rfl;rfl;rfl;all_goals(intro hb;first|(cases hb;done)|((try simp only[Bool.not_true,Bool.not_false] at hb);(first|((with_reducible intro K hK);(first|((apply Q0j (be);rfl;rfl;rfl;rfl;exact Tryz.func141);kernel_rfl;rfl;(focus((simp only[go_sem,W]);(try rfl);done));(first|rfl))|skip);simp only[go_sem,W];((repeat(refine ndI (by first|assumption) ?_));refine hK _ ?_;clear hK K))|((fail_if_success (with_reducible intro _));simp only[go_sem,W])))))))))
 all_goals(subst_vars;(refine⟨by simp,⟨_,?_,AV.le_refl _⟩,Q0h (by simp[leH,hget])⟩;simp only[Tryz.results91,resL,ldA,Q0q,go_sem]))
 all_goals simp_all
section
variable (k d s t o a0 a1 a2 a3 v0 v1 v2 v3:Int)
theorem hash_yes(x:List Nat)(g0 g1 g2 g3:Int)(b:Bool)(hx:x.length=64)(dg:Fn Tryz.prog 159 [bsl false x] [] (w4 g0 g1 g2 g3) [])(hb:(v0==g0&&(v1==g1&&(v2==g2&&v3==g3)))=b) :
 Fn Tryz.prog 135 [.ptr 1000 0] [(1000,c14 k d s t o a0 a1 a2 a3 v0 v1 v2 v3 (bsl false x))] (vb b) [(1000,c14 k d s t o a0 a1 a2 a3 0 0 0 0 nilA)]:=by
 have e1:((x.length:Int)==64)=true:=by rw[hx];rfl
 (refine Q0v Tryz.func135 rfl (by rfl) ?_;simp only[Tryz.ntmps135,List.length_cons,List.length_nil,Nat.reduceAdd,Nat.reduceSub,List.replicate,List.cons_append,List.nil_append])
 (repeat(any_goals(first|((with_reducible refine Q0b ?_ ?_);rfl;intro K hK;simp only[go_sem,e1,hb];((repeat(refine ndI (by first|assumption) ?_));refine hK _ ?_;clear hK K))|(with_reducible first|(refine Q0c ?_;refine hR _ ?_;clear hR R)|((first|refine Q0d ?_);intro J hJ hJ')|(refine Q0a ?_;intro R hR)|(refine hJ _ ?_;clear hJ hJ' J)|refine Q0k ?_)|((with_reducible refine Q0z ?_ ?_);kernel_rfl;(with_reducible refine hR _ ?_);clear hR R)|((first|((first|((with_reducible apply Q3x);rfl;rfl;rfl;rfl;rfl));((apply Q1c (dg);rfl;rfl;rfl;rfl;exact Tryz.func159);kernel_rfl;rfl;(focus((simp only[go_sem,e1,hb]);(try rfl);done));(first|rfl)))|((first|((with_reducible apply Q0x);rfl;rfl)|((with_reducible apply Q4q);rfl;rfl;rfl;rfl;rfl));(simp only[rdE,rdOf,go_sem,e1,hb];rfl);(intro τ hA hQ hN;((try simp only[Q1o,Op.operands,Call.operands,go_sem,e1,hb,go_sem,List.mem_cons,List.not_mem_nil,forall_eq_or_imp,forall_eq,List.append_toArray,Option.toArray] at hA);(try simp only[go_sem,e1,hb,List.mem_cons,List.not_mem_nil,forall_eq_or_imp,forall_eq] at hQ hN);(first|(revert hA;intro hA));(first|(revert hQ;intro hQ));(first|(revert hN;intro hN));simp only[go_sem,e1,hb,go_sem,hA,hQ,hN];(repeat(refine ndI (by first|assumption) ?_));(first|apply Q1f)))));(simp only[St.eff,setO,Q0r,go_sem,e1,hb]))|((with_reducible refine Q0y ?_ ?_ ?_ ?_);kernel_rfl;kernel_rfl;(first|kernel_rfl);intro R hR))))
 all_goals(refine⟨by simp,⟨_,?_,AV.le_refl _⟩,Q0h (by simp[leH,hget])⟩;simp only[Tryz.results135,resL,ldA,Q0q,go_sem])
theorem hash_no(x:List Nat)(hx:x.length≠64) :
 Fn Tryz.prog 135 [.ptr 1000 0] [(1000,c14 k d s t o a0 a1 a2 a3 v0 v1 v2 v3 (bsl false x))] (vb false) [(1000,c14 k d s t o a0 a1 a2 a3 0 0 0 0 nilA)]:=by
 have e1:((x.length:Int)==64)=false:=by simp;omega
 (refine Q0v Tryz.func135 rfl (by rfl) ?_;simp only[Tryz.ntmps135,List.length_cons,List.length_nil,Nat.reduceAdd,Nat.reduceSub,List.replicate,List.cons_append,List.nil_append])
 (repeat(any_goals(first|((with_reducible refine Q0b ?_ ?_);rfl;intro K hK;simp only[go_sem,e1];((repeat(refine ndI (by first|assumption) ?_));refine hK _ ?_;clear hK K))|(with_reducible first|(refine Q0c ?_;refine hR _ ?_;clear hR R)|((first|refine Q0d ?_);intro J hJ hJ')|(refine Q0a ?_;intro R hR)|(refine hJ _ ?_;clear hJ hJ' J)|refine Q0k ?_)|((with_reducible refine Q0z ?_ ?_);kernel_rfl;(with_reducible refine hR _ ?_);clear hR R)|((first|((with_reducible apply Q4p);rfl;rfl;rfl;rfl)|((first|((with_reducible apply Q0x);rfl;rfl));(simp only[rdE,rdOf,go_sem,e1];rfl);(intro τ hA hQ hN;((try simp only[Q1o,Op.operands,Call.operands,go_sem,e1,go_sem,List.mem_cons,List.not_mem_nil,forall_eq_or_imp,forall_eq,List.append_toArray,Option.toArray] at hA);(try simp only[go_sem,e1,List.mem_cons,List.not_mem_nil,forall_eq_or_imp,forall_eq] at hQ hN);(first|(revert hA;intro hA));(first|(revert hQ;intro hQ));(first|(revert hN;intro hN));simp only[go_sem,e1,go_sem,hA,hQ,hN];(repeat(refine ndI (by first|assumption) ?_));(first|apply Q1f)))));(simp only[St.eff,setO,Q0r,go_sem,e1]))|((with_reducible refine Q0y ?_ ?_ ?_ ?_);kernel_rfl;kernel_rfl;(first|kernel_rfl);intro R hR))))
 all_goals(refine⟨by simp,⟨_,?_,AV.le_refl _⟩,Q0h (by simp[leH,hget])⟩;simp only[Tryz.results135,resL,ldA,Q0q,go_sem])
theorem slot_fn(x:AV)(hx:AV.inN [] x=true):Fn Tryz.prog 136 [.ptr 1000 0] [(1000,c14 k d s t o a0 a1 a2 a3 v0 v1 v2 v3 x)] (vb true) [(1000,c14 k d s t o 0 0 0 0 v0 v1 v2 v3 x)]:=by
 (refine Q0v Tryz.func136 rfl (by rfl) ?_;simp only[Tryz.ntmps136,List.length_cons,List.length_nil,Nat.reduceAdd,Nat.reduceSub,List.replicate,List.cons_append,List.nil_append])
 (repeat(any_goals(first|((with_reducible refine Q0b ?_ ?_);rfl;intro K hK;simp only[go_sem];((repeat(refine ndI (by first|assumption) ?_));refine hK _ ?_;clear hK K))|(with_reducible first|(refine Q0c ?_;refine hR _ ?_;clear hR R)|((first|refine Q0d ?_);intro J hJ hJ')|(refine Q0a ?_;intro R hR)|(refine hJ _ ?_;clear hJ hJ' J)|refine Q0k ?_))))
 all_goals(refine⟨by simp,⟨_,?_,AV.le_refl _⟩,Q0h (by simp[leH,hget])⟩;simp only[Tryz.results136,resL,ldA,Q0q,go_sem])
theorem acall_fn(o:Nat)(x:List Nat)(b1 b2:Bool)(h1:X1a o=b1)(h2:decide ((x.length:Int)≤1)=b2) :
 Fn Tryz.prog 137 [.ptr 1000 0] [(1000,c14 k d s t (o:Int) a0 a1 a2 a3 v0 v1 v2 v3 (bsl false x))] (vb (b1&&b2)) [(1000,c14 k d s 0 0 a0 a1 a2 a3 0 0 0 0 nilA)]:=by
 have c:=calls_fn o
 rw[h1] at c
 (refine Q0v Tryz.func137 rfl (by rfl) ?_;simp only[Tryz.ntmps137,List.length_cons,List.length_nil,Nat.reduceAdd,Nat.reduceSub,List.replicate,List.cons_append,List.nil_append])
 (repeat(any_goals(first|((with_reducible refine Q0n ?_ ?_ ?_);rfl;rfl;intro K hK;((apply Q0j (c);rfl;rfl;rfl;rfl;exact Tryz.func160);kernel_rfl;rfl;(focus((simp only[go_sem,h2]);(try rfl);done));(first|rfl));(simp only[go_sem,h2];refine hK _ ?_;clear hK K))|((with_reducible refine Q0b ?_ ?_);rfl;intro K hK;simp only[go_sem,h2];((repeat(refine ndI (by first|assumption) ?_));refine hK _ ?_;clear hK K))|(with_reducible first|(refine Q0c ?_;refine hR _ ?_;clear hR R)|((first|refine Q0d ?_);intro J hJ hJ')|(refine Q0a ?_;intro R hR)|(refine hJ _ ?_;clear hJ hJ' J)|refine Q0k ?_)|((with_reducible apply Q1a);rfl;rfl;rfl;all_goals(intro hb;first|(cases hb;done)|((try simp only[Bool.not_true,Bool.not_false] at hb);(first|((with_reducible intro K hK);simp only[go_sem,h2];((repeat(refine ndI (by first|assumption) ?_));refine hK _ ?_;clear hK K))|((fail_if_success (with_reducible intro _));simp only[go_sem,h2]))))))))
 all_goals(subst_vars;(refine⟨by simp,⟨_,?_,AV.le_refl _⟩,Q0h (by simp[leH,hget])⟩;simp only[Tryz.results137,resL,ldA,Q0q,go_sem]))
 all_goals simp_all
theorem aop_fn(o:Nat)(x:AV):Fn Tryz.prog 138 [.ptr 1000 0] [(1000,c14 k d s t (o:Int) a0 a1 a2 a3 v0 v1 v2 v3 x)] (vb (X4o o)) [(1000,c14 k d s t 0 a0 a1 a2 a3 v0 v1 v2 v3 x)]:=by
 have c:=told_fn o
 generalize X4o o=b at c ⊢
 (refine Q0v Tryz.func138 rfl (by rfl) ?_;simp only[Tryz.ntmps138,List.length_cons,List.length_nil,Nat.reduceAdd,Nat.reduceSub,List.replicate,List.cons_append,List.nil_append])
 (repeat(any_goals(first|((with_reducible refine Q0n ?_ ?_ ?_);rfl;rfl;intro K hK;((apply Q0j (c);rfl;rfl;rfl;rfl;exact Tryz.func161);kernel_rfl;rfl;(focus((simp only[go_sem]);(try rfl);done));(first|rfl));(simp only[go_sem];refine hK _ ?_;clear hK K))|((with_reducible refine Q0b ?_ ?_);rfl;intro K hK;simp only[go_sem];((repeat(refine ndI (by first|assumption) ?_));refine hK _ ?_;clear hK K))|(with_reducible first|(refine Q0c ?_;refine hR _ ?_;clear hR R)|((first|refine Q0d ?_);intro J hJ hJ')|(refine Q0a ?_;intro R hR)|(refine hJ _ ?_;clear hJ hJ' J)|refine Q0k ?_))))
 all_goals(refine⟨by simp,⟨_,?_,AV.le_refl _⟩,Q0h (by simp[leH,hget])⟩;simp only[Tryz.results138,resL,ldA,Q0q,go_sem])
theorem gas_fn(x:AV):Fn Tryz.prog 139 [.ptr 1000 0] [(1000,c14 k d s t o a0 a1 a2 a3 v0 v1 v2 v3 x)] (vb true) [(1000,c14 k d s t 0 a0 a1 a2 a3 v0 v1 v2 v3 x)]:=by
 (refine Q0v Tryz.func139 rfl (by rfl) ?_;simp only[Tryz.ntmps139,List.length_cons,List.length_nil,Nat.reduceAdd,Nat.reduceSub,List.replicate,List.cons_append,List.nil_append])
 (repeat(any_goals(first|((with_reducible refine Q0b ?_ ?_);rfl;intro K hK;simp only[go_sem];((repeat(refine ndI (by first|assumption) ?_));refine hK _ ?_;clear hK K))|(with_reducible first|(refine Q0c ?_;refine hR _ ?_;clear hR R)|((first|refine Q0d ?_);intro J hJ hJ')|(refine Q0a ?_;intro R hR)|(refine hJ _ ?_;clear hJ hJ' J)|refine Q0k ?_))))
 all_goals(refine⟨by simp,⟨_,?_,AV.le_refl _⟩,Q0h (by simp[leH,hget])⟩;simp only[Tryz.results139,resL,ldA,Q0q,go_sem])
end
end
section
open Go.RowKit
open Nat (reduceBEq)
attribute [-go_sem] IntKind.bits
set_option maxRecDepth 20000
set_option maxHeartbeats 2000000
def fsL:List FuncId:=[135,136,136,137,138,139]
abbrev fsA:List AV:=[.fnb 135 [.ptr 22 0],.fnb 136 [.ptr 22 0],.fnb 136 [.ptr 22 0],.fnb 137 [.ptr 22 0],.fnb 138 [.ptr 22 0],.fnb 139 [.ptr 22 0]]
theorem fsA_at{j:Nat}{f:FuncId}(h:fsL[j]? = some f):fsA[j]? = some (.fnb f [.ptr 22 0]):=by
 have e:fsA=fsL.map fun f=>AV.fnb f [.ptr 22 0]:=rfl
 rw[e,List.getElem?_map,h];rfl
theorem right_out(k d s t o a0 a1 a2 a3 v0 v1 v2 v3:Int)(x:AV)(b1 b2 b3:Bool)(h1:decide (d<0)=b1)(h2:decide (d≥6)=b2)(h3:(s==0)=b3)(h:(b1||b2||b3)=true)(hxr:∀r,AV.refs r x=false) :
 Fn Tryz.prog 85 [.agg (c14 k d s t o a0 a1 a2 a3 v0 v1 v2 v3 x)] [] (vb false) []:=by
 (refine Q0v Tryz.func85 rfl (by rfl) ?_;simp only[Tryz.ntmps85,List.length_cons,List.length_nil,Nat.reduceAdd,Nat.reduceSub,List.replicate,List.cons_append,List.nil_append])
 cases b1<;>cases b2<;>cases b3
 all_goals(try(cases h;done))
 all_goals clear h
 all_goals(have W:=ndI h1 (ndI h2 h3);(repeat(any_goals(first|((with_reducible refine Q0b ?_ ?_);rfl;intro K hK;simp only[go_sem,W,hxr];((repeat(refine ndI (by first|assumption) ?_));refine hK _ ?_;clear hK K))|(with_reducible first|(refine Q0c ?_;refine hR _ ?_;clear hR R)|((first|refine Q0d ?_);intro J hJ hJ')|(refine Q0a ?_;intro R hR)|(refine hJ _ ?_;clear hJ hJ' J)|refine Q0k ?_)|((with_reducible refine hJ' _ _ ?_ ?_);(focus(simp;done));clear hJ hJ' J)|((with_reducible apply Q1a);rfl;rfl;rfl;all_goals(intro hb;first|(cases hb;done)|((try simp only[Bool.not_true,Bool.not_false] at hb);(first|((with_reducible intro K hK);simp only[go_sem,W,hxr];((repeat(refine ndI (by first|assumption) ?_));refine hK _ ?_;clear hK K))|((fail_if_success (with_reducible intro _));simp only[go_sem,W,hxr])))))|((with_reducible apply Q0e);rfl;rfl;all_goals(intro hc;first|(cases hc;done)|(try simp only at hc)))))))
 all_goals(refine⟨by simp,⟨_,?_,AV.le_refl _⟩,Q0h (by simp[leH,hget])⟩;simp only[Tryz.results85,resL,ldA,Q0q,go_sem])
theorem Q3i(k d s t o a0 a1 a2 a3 v0 v1 v2 v3:Int)(x:AV)(C':List AV)(b c:Bool)(h1:decide (d<0)=false)(h2:decide (d≥6)=false)(h3:(s==0)=false){j:Nat}{f:FuncId}{fn:Func}(hj:Q5d k [1,2,3,4,5,6] 0=some j)(hy:fsL[j]? = some f)
 (hfn:Tryz.prog.funcs[f]? = some fn) (hname:(fn.name == "runtime.NumGoroutine")=false) (hbody:fn.body.isNone=false) (hx:AV.inN [] x=true) (hxr:∀r,AV.refs r x=false) (hxm:AV.hasMp x=false) (hc':AV.inNL [] C'=true) (hl:C'.length=14) (hr':∀r,AV.refsL r C'=false)
 (hF:Fn Tryz.prog f [.ptr 1000 0] [(1000,c14 k d s t o a0 a1 a2 a3 v0 v1 v2 v3 x)] (vb b) [(1000,C')]) (sm:Fn Tryz.prog 91 [.agg C',.agg (c14 k d s 0 0 0 0 0 0 0 0 0 0 nilA)] [] (vb c) []) :
 Fn Tryz.prog 85 [.agg (c14 k d s t o a0 a1 a2 a3 v0 v1 v2 v3 x)] [] (vb (b&&c)) []:=by
 have fa:=fsA_at hy
 refine Fn.known fun E0=>?_
 (refine Q4o Tryz.func85 rfl (by rfl) ?_;simp only[Tryz.ntmps85,List.length_cons,List.length_nil,Nat.reduceAdd,Nat.reduceSub,List.replicate,List.cons_append,List.nil_append])
 refine AWE.seqI ?_
 intro J hJ hJ'
 refine AWE.of ?_
 (repeat(any_goals(first|((with_reducible refine Q0b ?_ ?_);rfl;intro K hK;simp only[go_sem,hxr];((repeat(refine ndI (by first|assumption) ?_));refine hK _ ?_;clear hK K))|(with_reducible first|(refine Q0c ?_;refine hR _ ?_;clear hR R)|(refine Q0a ?_;intro R hR)|(refine hJ _ ?_;clear hJ hJ' J)))))
 refine AWE.seqI ?_
 intro J hJ hJ'
 refine AWE.of ?_
 (have W:=ndI h1 (ndI h2 h3);(repeat(any_goals(first|((with_reducible refine Q0b ?_ ?_);rfl;intro K hK;simp only[go_sem,W];((repeat(refine ndI (by first|assumption) ?_));refine hK _ ?_;clear hK K))|(with_reducible first|(refine Q0c ?_;refine hR _ ?_;clear hR R)|((first|refine Q0d ?_);intro J hJ hJ')|(refine Q0a ?_;intro R hR)|(refine hJ _ ?_;clear hJ hJ' J)|refine Q0i ?_)|((with_reducible apply Q1a);rfl;rfl;rfl;all_goals(intro hb;first|(cases hb;done)|((try simp only[Bool.not_true,Bool.not_false] at hb);(first|((with_reducible intro K hK);simp only[go_sem,W];((repeat(refine ndI (by first|assumption) ?_));refine hK _ ?_;clear hK K))))))|((with_reducible apply Q0e);rfl;rfl;all_goals(intro hc;first|(cases hc;done)|(try simp only at hc)))))))
 refine AWE.seqI ?_
 intro J hJ hJ'
 refine AWE.of ?_
 (repeat(any_goals(first|((with_reducible refine Q0b ?_ ?_);rfl;intro K hK;simp only[go_sem,hxr];((repeat(refine ndI (by first|assumption) ?_));refine hK _ ?_;clear hK K))|(with_reducible first|(refine Q0c ?_;refine hR _ ?_;clear hR R)|(refine Q0a ?_;intro R hR)|(refine hJ _ ?_;clear hJ hJ' J)))))
 refine AWE.seqI ?_
 intro J hJ hJ'
 refine AWE.to (St.to.of_le (τ:=⟨[.any,.ptr 1 0,vb false,.ptr 22 0,.any,.any,.any,.any,.any,.any,.any,.any,.any,.any,.any,.any,.any,.any,.any,.any,.any,.any,.any,.any,.any,.any,.any,.any,.any,.any,.any,.any,.any,.any,.any,.any,.any,.any,.any,.any,.any,.any,.any,.any,.any,.any,.any,.any,.any,.any,.any,.any,.any,.any,.any,.any,.any,.any,.any,.any,.any,.any,.any],[(1,c14 k d s t o a0 a1 a2 a3 v0 v1 v2 v3 x),(22,c14 k d s t o a0 a1 a2 a3 v0 v1 v2 v3 x)]⟩) (St.le_of (by simp[leT]) (by simp[leH,hget]))) ?_
 dsimp only
 refine AWE.regionL ?_
 refine ALE.one rfl (Q8r rfl fun mb hmb=>?_)
 simp only[go_sem]
 have hH:Q7t [(1,c14 k d s t o a0 a1 a2 a3 v0 v1 v2 v3 x),(22,c14 k d s t o a0 a1 a2 a3 v0 v1 v2 v3 x)]=false:=by simp[Q7t,AV.hasMpA,AV.hasMp,PV.hasMp,hxm]
 refine ALE.oneA rfl ?_
 simp only[go_sem]
 (repeat(refine ndI rfl ?_))
 refine ALE.one rfl (OpA.toW (Q1m rfl rfl ?_))
 simp only[go_sem]
 refine ALE.one rfl (Q2a (kl:=[]) rfl rfl rfl rfl rfl Tryz.underlying167 Tryz.underlying3 rfl rfl rfl rfl hmb hH rfl ?_)
 simp only[AV.amU,AV.hasMp,AV.hasMpA,PV.hasMp,List.map_cons,List.map_nil,List.cons_append,List.nil_append,eq_self,if_true,Bool.false_eq_true,if_false,Bool.or_false]
 refine ALE.oneA rfl ?_
 simp only[go_sem]
 (repeat(refine ndI rfl ?_))
 refine ALE.one rfl (OpA.toW (Q1m rfl rfl ?_))
 simp only[go_sem]
 refine ALE.one rfl (Q2a (kl:=[1]) rfl rfl rfl rfl rfl Tryz.underlying167 Tryz.underlying3 rfl rfl rfl rfl hmb hH rfl ?_)
 simp only[AV.amU,AV.hasMp,AV.hasMpA,PV.hasMp,List.map_cons,List.map_nil,List.cons_append,List.nil_append,eq_self,if_true,Bool.false_eq_true,if_false,Bool.or_false]
 refine ALE.oneA rfl ?_
 simp only[go_sem]
 (repeat(refine ndI rfl ?_))
 refine ALE.one rfl (OpA.toW (Q1m rfl rfl ?_))
 simp only[go_sem]
 refine ALE.one rfl (Q2a (kl:=[1,2]) rfl rfl rfl rfl rfl Tryz.underlying167 Tryz.underlying3 rfl rfl rfl rfl hmb hH rfl ?_)
 simp only[AV.amU,AV.hasMp,AV.hasMpA,PV.hasMp,List.map_cons,List.map_nil,List.cons_append,List.nil_append,eq_self,if_true,Bool.false_eq_true,if_false,Bool.or_false]
 refine ALE.oneA rfl ?_
 simp only[go_sem]
 (repeat(refine ndI rfl ?_))
 refine ALE.one rfl (OpA.toW (Q1m rfl rfl ?_))
 simp only[go_sem]
 refine ALE.one rfl (Q2a (kl:=[1,2,3]) rfl rfl rfl rfl rfl Tryz.underlying167 Tryz.underlying3 rfl rfl rfl rfl hmb hH rfl ?_)
 simp only[AV.amU,AV.hasMp,AV.hasMpA,PV.hasMp,List.map_cons,List.map_nil,List.cons_append,List.nil_append,eq_self,if_true,Bool.false_eq_true,if_false,Bool.or_false]
 refine ALE.oneA rfl ?_
 simp only[go_sem]
 (repeat(refine ndI rfl ?_))
 refine ALE.one rfl (OpA.toW (Q1m rfl rfl ?_))
 simp only[go_sem]
 refine ALE.one rfl (Q2a (kl:=[1,2,3,4]) rfl rfl rfl rfl rfl Tryz.underlying167 Tryz.underlying3 rfl rfl rfl rfl hmb hH rfl ?_)
 simp only[AV.amU,AV.hasMp,AV.hasMpA,PV.hasMp,List.map_cons,List.map_nil,List.cons_append,List.nil_append,eq_self,if_true,Bool.false_eq_true,if_false,Bool.or_false]
 refine ALE.oneA rfl ?_
 simp only[go_sem]
 (repeat(refine ndI rfl ?_))
 refine ALE.one rfl (OpA.toW (Q1m rfl rfl ?_))
 simp only[go_sem]
 refine ALE.one rfl (Q2a (kl:=[1,2,3,4,5]) rfl rfl rfl rfl rfl Tryz.underlying167 Tryz.underlying3 rfl rfl rfl rfl hmb hH rfl ?_)
 simp only[AV.amU,AV.hasMp,AV.hasMpA,PV.hasMp,List.map_cons,List.map_nil,List.cons_append,List.nil_append,eq_self,if_true,Bool.false_eq_true,if_false,Bool.or_false]
 refine ALE.oneA rfl ?_
 simp only[go_sem]
 (repeat(refine ndI rfl ?_))
 refine ALE.oneA rfl ?_
 simp only[go_sem]
 (repeat(refine ndI rfl ?_))
 refine ALE.nil ?_
 refine hJ _ ?_
 clear hJ hJ' J
 refine AWE.seqI ?_
 intro J hJ hJ'
 refine AWE.of ?_
 (repeat(any_goals(first|((with_reducible refine Q0b ?_ ?_);rfl;intro K hK;simp only[go_sem,hxr];((repeat(refine ndI (by first|assumption) ?_));refine hK _ ?_;clear hK K))|(with_reducible first|(refine Q0a ?_;intro R hR)))))
 refine Q2t rfl fun K hK=>?_
 refine X6w (kl:=[1,2,3,4,5,6]) (k:=k) rfl rfl rfl Tryz.underlying167 Tryz.underlying3 rfl rfl hj fa ?_
 simp only[go_sem]
 refine hK _ ?_
 clear hK K
 (repeat(any_goals(first|((with_reducible refine Q0b ?_ ?_);rfl;intro K hK;simp only[go_sem];((repeat(refine ndI (by first|assumption) ?_));refine hK _ ?_;clear hK K))|(with_reducible first|(refine Q0c ?_;refine hR _ ?_;clear hR R)|(refine hJ _ ?_;clear hJ hJ' J)))))
 refine AWE.to (St.to.of_le (τ:=⟨[.any,.ptr 1 0,vb false,.ptr 22 0,.any,.fnb f [.ptr 22 0],vb true,.any,.any,.any,.any,.any,.any,.any,.any,.any,.any,.any,.any,.any,.any,.any,.any,.any,.any,.any,.any,.any,.any,.any,.any,.any,.any,.any,.any,.any,.any,.any,.any,.any,.any,.any,.any,.any,.any,.any,.any,.any,.any,.any,.any,.any,.any,.any,.any,.any,.any,.any,.any,.any,.any,.any,.any],[(1,c14 k d s t o a0 a1 a2 a3 v0 v1 v2 v3 x),(22,c14 k d s t o a0 a1 a2 a3 v0 v1 v2 v3 x)]⟩) (St.le_of (by simp[leT]) (by simp[leH,hget]))) ?_
 dsimp only
 refine AWE.seqI ?_
 intro J hJ hJ'
 refine AWE.of ?_
 (repeat(any_goals(fail)))
 ((with_reducible refine Q0y ?_ ?_ ?_ ?_))
 · kernel_rfl
 · kernel_rfl
 · simp[Q2c,Q6y,St.free,Q1z,AV.refsL,AV.refs,hxr]
 intro R hR
 (first|((first|((first|((with_reducible apply Q0x);rfl;rfl));(simp only[rdE,rdOf,go_sem];rfl);(intro τ hA hQ hN;((try simp only[Q1o,Op.operands,Call.operands,go_sem,List.mem_cons,List.not_mem_nil,forall_eq_or_imp,forall_eq,List.append_toArray,Option.toArray] at hA);(try simp only[go_sem,List.mem_cons,List.not_mem_nil,forall_eq_or_imp,forall_eq] at hQ hN);(first|(revert hA;intro hA));(first|(revert hQ;intro hQ));(first|(revert hN;intro hN));simp only[go_sem,hA,hQ,hN];(repeat(refine ndI (by first|assumption) ?_));(first|apply Q1f)))));(simp only[St.eff,setO,Q0r,go_sem])))
 (first|((first|((first|((with_reducible apply Q0x);rfl;rfl));(simp only[rdE,rdOf,go_sem];rfl);(intro τ hA hQ hN;((try simp only[Q1o,Op.operands,Call.operands,go_sem,List.mem_cons,List.not_mem_nil,forall_eq_or_imp,forall_eq,List.append_toArray,Option.toArray] at hA);(try simp only[go_sem,List.mem_cons,List.not_mem_nil,forall_eq_or_imp,forall_eq] at hQ hN);(first|(revert hA;intro hA));(first|(revert hQ;intro hQ));(first|(revert hN;intro hN));simp only[go_sem,hA,hQ,hN];(repeat(refine ndI (by first|assumption) ?_));(first|apply Q1f)))));(simp only[St.eff,setO,Q0r,go_sem])))
 (first|((first|((first|((with_reducible apply Q4q);rfl;rfl;rfl;rfl;rfl));(simp only[rdE,rdOf,go_sem];rfl);(intro τ hA hQ hN;((try simp only[Q1o,Op.operands,Call.operands,go_sem,List.mem_cons,List.not_mem_nil,forall_eq_or_imp,forall_eq,List.append_toArray,Option.toArray] at hA);(try simp only[go_sem,List.mem_cons,List.not_mem_nil,forall_eq_or_imp,forall_eq] at hQ hN);(first|(revert hA;intro hA));(first|(revert hQ;intro hQ));(first|(revert hN;intro hN));simp only[go_sem,hA,hQ,hN];(repeat(refine ndI (by first|assumption) ?_));(first|apply Q1f)))));(simp only[St.eff,setO,Q0r,go_sem])))
 have hgx:AV.inNL [] (c14 k d s t o a0 a1 a2 a3 v0 v1 v2 v3 x)=true:=by simp[AV.inNL,AV.inN,hx]
 ((with_reducible apply Q3x);rfl;rfl;rfl;rfl;rfl)
 · apply opF_callG hF
   · rfl
   · rfl
   · rfl
   · exact hfn
   · exact hname
   · exact hbody
   · rfl
   · exact hgx
   · exact hc'
   · rfl
 simp only[St.eff,setO,Q0r,go_sem]
 have tk:List.take 14 C'=C':=List.take_of_length_le (by omega)
 have sm2:=sm
 clear hF sm
 cases b
 · iterate 16 ((first|((first|((with_reducible apply Q4p);rfl;rfl;rfl;rfl)|((first|((with_reducible apply Q0x);rfl;rfl));(simp only[rdE,rdOf,go_sem,hl,tk,hr'];rfl);(intro τ hA hQ hN;((try simp only[Q1o,Op.operands,Call.operands,go_sem,hl,tk,hr',go_sem,List.mem_cons,List.not_mem_nil,forall_eq_or_imp,forall_eq,List.append_toArray,Option.toArray] at hA);(try simp only[go_sem,hl,tk,hr',List.mem_cons,List.not_mem_nil,forall_eq_or_imp,forall_eq] at hQ hN);(first|(revert hA;intro hA));(first|(revert hQ;intro hQ));(first|(revert hN;intro hN));simp only[go_sem,hl,tk,hr',go_sem,hA,hQ,hN];(repeat(refine ndI (by first|assumption) ?_));(first|apply Q1f)))));(simp only[St.eff,setO,Q0r,go_sem,hl,tk,hr']))))
   (with_reducible refine Q0z ?_ ?_)
   · apply Q2e
     · (repeat(first|exact Sims.nil|((apply Sims.cons);(focus(first|((apply Ef.sim_row);assumption)|exact Ef.sim_refl _)))))
     · kernel_rfl
   refine hR _ ?_
   refine hJ _ ?_
   refine AWE.of (Q0k ?_)
   (refine⟨by simp,⟨_,?_,AV.le_refl _⟩,Q0h (by simp[leH,hget])⟩;simp only[Tryz.results85,resL,ldA,Q0q,go_sem])
   rfl
 · iterate 13 ((first|((first|((first|((with_reducible apply Q0x);rfl;rfl)|((with_reducible apply Q4q);rfl;rfl;rfl;rfl;rfl));(simp only[rdE,rdOf,go_sem,hl,tk,hr'];rfl);(intro τ hA hQ hN;((try simp only[Q1o,Op.operands,Call.operands,go_sem,hl,tk,hr',go_sem,List.mem_cons,List.not_mem_nil,forall_eq_or_imp,forall_eq,List.append_toArray,Option.toArray] at hA);(try simp only[go_sem,hl,tk,hr',List.mem_cons,List.not_mem_nil,forall_eq_or_imp,forall_eq] at hQ hN);(first|(revert hA;intro hA));(first|(revert hQ;intro hQ));(first|(revert hN;intro hN));simp only[go_sem,hl,tk,hr',go_sem,hA,hQ,hN];(repeat(refine ndI (by first|assumption) ?_));(first|apply Q1f)))));(simp only[St.eff,setO,Q0r,go_sem,hl,tk,hr']))))
   ((with_reducible apply Q3x);rfl;rfl;rfl;rfl;rfl)
   · apply Q1c sm2
     · rfl
     · rfl
     · rfl
     · rfl
     · exact Tryz.func91
     · kernel_rfl
     · rfl
     · simp only[go_sem]
     · simp[AV.inNL,AV.inN,hc']
   simp only[St.eff,setO,Q0r,go_sem]
   iterate 2 ((first|((first|((first|((with_reducible apply Q0x);rfl;rfl));(simp only[rdE,rdOf,go_sem,hl,tk,hr'];rfl);(intro τ hA hQ hN;((try simp only[Q1o,Op.operands,Call.operands,go_sem,hl,tk,hr',go_sem,List.mem_cons,List.not_mem_nil,forall_eq_or_imp,forall_eq,List.append_toArray,Option.toArray] at hA);(try simp only[go_sem,hl,tk,hr',List.mem_cons,List.not_mem_nil,forall_eq_or_imp,forall_eq] at hQ hN);(first|(revert hA;intro hA));(first|(revert hQ;intro hQ));(first|(revert hN;intro hN));simp only[go_sem,hl,tk,hr',go_sem,hA,hQ,hN];(repeat(refine ndI (by first|assumption) ?_));(first|apply Q1f)))));(simp only[St.eff,setO,Q0r,go_sem,hl,tk,hr']))))
   (with_reducible refine Q0z ?_ ?_)
   · apply Q2e
     · (repeat(first|exact Sims.nil|((apply Sims.cons);(focus(first|((apply Ef.sim_row);assumption)|((apply Ef.sim_val);exact fun d=>hr' d)|exact Ef.sim_refl _)))))
     · kernel_rfl
   refine hR _ ?_
   refine hJ _ ?_
   refine AWE.of (Q0k ?_)
   (refine⟨by simp,⟨_,?_,AV.le_refl _⟩,Q0h (by simp[leH,hget])⟩;simp only[Tryz.results85,resL,ldA,Q0q,go_sem])
theorem Z0j(k d s t o a0 a1 a2 a3 v0 v1 v2 v3:Int)(x:AV)(h1:decide (d<0)=false)(h2:decide (d≥6)=false)(h3:(s==0)=false)(hj:Q5d k [1,2,3,4,5,6] 0=none)(hx:AV.inN [] x=true)(hxr:∀r,AV.refs r x=false)(hxm:AV.hasMp x=false) :
 Fn Tryz.prog 85 [.agg (c14 k d s t o a0 a1 a2 a3 v0 v1 v2 v3 x)] [] (vb false) []:=by
 refine Fn.known fun E0=>?_
 (refine Q4o Tryz.func85 rfl (by rfl) ?_;simp only[Tryz.ntmps85,List.length_cons,List.length_nil,Nat.reduceAdd,Nat.reduceSub,List.replicate,List.cons_append,List.nil_append])
 refine AWE.seqI ?_
 intro J hJ hJ'
 refine AWE.of ?_
 (repeat(any_goals(first|((with_reducible refine Q0b ?_ ?_);rfl;intro K hK;simp only[go_sem,hxr];((repeat(refine ndI (by first|assumption) ?_));refine hK _ ?_;clear hK K))|(with_reducible first|(refine Q0c ?_;refine hR _ ?_;clear hR R)|(refine Q0a ?_;intro R hR)|(refine hJ _ ?_;clear hJ hJ' J)))))
 refine AWE.seqI ?_
 intro J hJ hJ'
 refine AWE.of ?_
 (have W:=ndI h1 (ndI h2 h3);(repeat(any_goals(first|((with_reducible refine Q0b ?_ ?_);rfl;intro K hK;simp only[go_sem,W];((repeat(refine ndI (by first|assumption) ?_));refine hK _ ?_;clear hK K))|(with_reducible first|(refine Q0c ?_;refine hR _ ?_;clear hR R)|((first|refine Q0d ?_);intro J hJ hJ')|(refine Q0a ?_;intro R hR)|(refine hJ _ ?_;clear hJ hJ' J)|refine Q0i ?_)|((with_reducible apply Q1a);rfl;rfl;rfl;all_goals(intro hb;first|(cases hb;done)|((try simp only[Bool.not_true,Bool.not_false] at hb);(first|((with_reducible intro K hK);simp only[go_sem,W];((repeat(refine ndI (by first|assumption) ?_));refine hK _ ?_;clear hK K))))))|((with_reducible apply Q0e);rfl;rfl;all_goals(intro hc;first|(cases hc;done)|(try simp only at hc)))))))
 refine AWE.seqI ?_
 intro J hJ hJ'
 refine AWE.of ?_
 (repeat(any_goals(first|((with_reducible refine Q0b ?_ ?_);rfl;intro K hK;simp only[go_sem,hxr];((repeat(refine ndI (by first|assumption) ?_));refine hK _ ?_;clear hK K))|(with_reducible first|(refine Q0c ?_;refine hR _ ?_;clear hR R)|(refine Q0a ?_;intro R hR)|(refine hJ _ ?_;clear hJ hJ' J)))))
 refine AWE.seqI ?_
 intro J hJ hJ'
 refine AWE.to (St.to.of_le (τ:=⟨[.any,.ptr 1 0,vb false,.ptr 22 0,.any,.any,.any,.any,.any,.any,.any,.any,.any,.any,.any,.any,.any,.any,.any,.any,.any,.any,.any,.any,.any,.any,.any,.any,.any,.any,.any,.any,.any,.any,.any,.any,.any,.any,.any,.any,.any,.any,.any,.any,.any,.any,.any,.any,.any,.any,.any,.any,.any,.any,.any,.any,.any,.any,.any,.any,.any,.any,.any],[(1,c14 k d s t o a0 a1 a2 a3 v0 v1 v2 v3 x),(22,c14 k d s t o a0 a1 a2 a3 v0 v1 v2 v3 x)]⟩) (St.le_of (by simp[leT]) (by simp[leH,hget]))) ?_
 dsimp only
 refine AWE.regionL ?_
 refine ALE.one rfl (Q8r rfl fun mb hmb=>?_)
 simp only[go_sem]
 have hH:Q7t [(1,c14 k d s t o a0 a1 a2 a3 v0 v1 v2 v3 x),(22,c14 k d s t o a0 a1 a2 a3 v0 v1 v2 v3 x)]=false:=by simp[Q7t,AV.hasMpA,AV.hasMp,PV.hasMp,hxm]
 refine ALE.oneA rfl ?_
 simp only[go_sem]
 (repeat(refine ndI rfl ?_))
 refine ALE.one rfl (OpA.toW (Q1m rfl rfl ?_))
 simp only[go_sem]
 refine ALE.one rfl (Q2a (kl:=[]) rfl rfl rfl rfl rfl Tryz.underlying167 Tryz.underlying3 rfl rfl rfl rfl hmb hH rfl ?_)
 simp only[AV.amU,AV.hasMp,AV.hasMpA,PV.hasMp,List.map_cons,List.map_nil,List.cons_append,List.nil_append,eq_self,if_true,Bool.false_eq_true,if_false,Bool.or_false]
 refine ALE.oneA rfl ?_
 simp only[go_sem]
 (repeat(refine ndI rfl ?_))
 refine ALE.one rfl (OpA.toW (Q1m rfl rfl ?_))
 simp only[go_sem]
 refine ALE.one rfl (Q2a (kl:=[1]) rfl rfl rfl rfl rfl Tryz.underlying167 Tryz.underlying3 rfl rfl rfl rfl hmb hH rfl ?_)
 simp only[AV.amU,AV.hasMp,AV.hasMpA,PV.hasMp,List.map_cons,List.map_nil,List.cons_append,List.nil_append,eq_self,if_true,Bool.false_eq_true,if_false,Bool.or_false]
 refine ALE.oneA rfl ?_
 simp only[go_sem]
 (repeat(refine ndI rfl ?_))
 refine ALE.one rfl (OpA.toW (Q1m rfl rfl ?_))
 simp only[go_sem]
 refine ALE.one rfl (Q2a (kl:=[1,2]) rfl rfl rfl rfl rfl Tryz.underlying167 Tryz.underlying3 rfl rfl rfl rfl hmb hH rfl ?_)
 simp only[AV.amU,AV.hasMp,AV.hasMpA,PV.hasMp,List.map_cons,List.map_nil,List.cons_append,List.nil_append,eq_self,if_true,Bool.false_eq_true,if_false,Bool.or_false]
 refine ALE.oneA rfl ?_
 simp only[go_sem]
 (repeat(refine ndI rfl ?_))
 refine ALE.one rfl (OpA.toW (Q1m rfl rfl ?_))
 simp only[go_sem]
 refine ALE.one rfl (Q2a (kl:=[1,2,3]) rfl rfl rfl rfl rfl Tryz.underlying167 Tryz.underlying3 rfl rfl rfl rfl hmb hH rfl ?_)
 simp only[AV.amU,AV.hasMp,AV.hasMpA,PV.hasMp,List.map_cons,List.map_nil,List.cons_append,List.nil_append,eq_self,if_true,Bool.false_eq_true,if_false,Bool.or_false]
 refine ALE.oneA rfl ?_
 simp only[go_sem]
 (repeat(refine ndI rfl ?_))
 refine ALE.one rfl (OpA.toW (Q1m rfl rfl ?_))
 simp only[go_sem]
 refine ALE.one rfl (Q2a (kl:=[1,2,3,4]) rfl rfl rfl rfl rfl Tryz.underlying167 Tryz.underlying3 rfl rfl rfl rfl hmb hH rfl ?_)
 simp only[AV.amU,AV.hasMp,AV.hasMpA,PV.hasMp,List.map_cons,List.map_nil,List.cons_append,List.nil_append,eq_self,if_true,Bool.false_eq_true,if_false,Bool.or_false]
 refine ALE.oneA rfl ?_
 simp only[go_sem]
 (repeat(refine ndI rfl ?_))
 refine ALE.one rfl (OpA.toW (Q1m rfl rfl ?_))
 simp only[go_sem]
 refine ALE.one rfl (Q2a (kl:=[1,2,3,4,5]) rfl rfl rfl rfl rfl Tryz.underlying167 Tryz.underlying3 rfl rfl rfl rfl hmb hH rfl ?_)
 simp only[AV.amU,AV.hasMp,AV.hasMpA,PV.hasMp,List.map_cons,List.map_nil,List.cons_append,List.nil_append,eq_self,if_true,Bool.false_eq_true,if_false,Bool.or_false]
 refine ALE.oneA rfl ?_
 simp only[go_sem]
 (repeat(refine ndI rfl ?_))
 refine ALE.oneA rfl ?_
 simp only[go_sem]
 (repeat(refine ndI rfl ?_))
 refine ALE.nil ?_
 refine hJ _ ?_
 clear hJ hJ' J
 refine AWE.seqI ?_
 intro J hJ hJ'
 refine AWE.of ?_
 (repeat(any_goals(first|((with_reducible refine Q0b ?_ ?_);rfl;intro K hK;simp only[go_sem,hxr];((repeat(refine ndI (by first|assumption) ?_));refine hK _ ?_;clear hK K))|(with_reducible first|(refine Q0a ?_;intro R hR)))))
 refine Q2t rfl fun K hK=>?_
 refine X6v (kl:=[1,2,3,4,5,6]) (k:=k) (z:=.nilFunc) rfl rfl rfl Tryz.underlying167 Tryz.underlying3 (by kernel_rfl) rfl rfl rfl hj ?_
 simp only[go_sem]
 refine hK _ ?_
 clear hK K
 (repeat(any_goals(first|((with_reducible refine Q0b ?_ ?_);rfl;intro K hK;simp only[go_sem];((repeat(refine ndI (by first|assumption) ?_));refine hK _ ?_;clear hK K))|(with_reducible first|(refine Q0c ?_;refine hR _ ?_;clear hR R)|(refine hJ _ ?_;clear hJ hJ' J)))))
 refine AWE.to (St.to.of_le (τ:=⟨[.any,.ptr 1 0,vb false,.ptr 22 0,.any,.any,vb false,.any,.any,.any,.any,.any,.any,.any,.any,.any,.any,.any,.any,.any,.any,.any,.any,.any,.any,.any,.any,.any,.any,.any,.any,.any,.any,.any,.any,.any,.any,.any,.any,.any,.any,.any,.any,.any,.any,.any,.any,.any,.any,.any,.any,.any,.any,.any,.any,.any,.any,.any,.any,.any,.any,.any,.any],[]⟩) (St.le_of (by simp[leT]) (by simp[leH]))) ?_
 dsimp only
 refine AWE.seqI ?_
 intro J hJ hJ'
 refine AWE.of ?_
 (repeat(any_goals(fail)))
 ((with_reducible refine Q0y ?_ ?_ ?_ ?_))
 · kernel_rfl
 · kernel_rfl
 · kernel_rfl
 intro R hR
 iterate 20 ((first|((first|((with_reducible apply Q4p);rfl;rfl;rfl;rfl)|((first|((with_reducible apply Q0x);rfl;rfl));(simp only[rdE,rdOf,go_sem];rfl);(intro τ hA hQ hN;((try simp only[Q1o,Op.operands,Call.operands,go_sem,List.mem_cons,List.not_mem_nil,forall_eq_or_imp,forall_eq,List.append_toArray,Option.toArray] at hA);(try simp only[go_sem,List.mem_cons,List.not_mem_nil,forall_eq_or_imp,forall_eq] at hQ hN);(first|(revert hA;intro hA));(first|(revert hQ;intro hQ));(first|(revert hN;intro hN));simp only[go_sem,hA,hQ,hN];(repeat(refine ndI (by first|assumption) ?_));(first|apply Q1f)))));(simp only[St.eff,setO,Q0r,go_sem]))))
 (with_reducible refine Q0z ?_ ?_)
 · kernel_rfl
 refine hR _ ?_
 refine hJ _ ?_
 refine AWE.of (Q0k ?_)
 (refine⟨by simp,⟨_,?_,AV.le_refl _⟩,Q0h (by simp[leH,hget])⟩;simp only[Tryz.results85,resL,ldA,Q0q,go_sem])
end
end Go.Proofs.YtgdjkkapgghdbaaGreatDoor
