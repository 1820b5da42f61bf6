/-
  Maker, coded, creates, touch, as the document has them. Reckoned.
-/
import Derived.Test.YtgdjkkapgghdbaaGreatDoorDi
import Derived.Test.YtgdjkkapgghdbaaGreatDoorYe
import Derived.Test.YtgdjkkapgghdbaaGreatDoorAvO
namespace Go.Proofs.YtgdjkkapgghdbaaGreatDoor
set_option linter.unusedSimpArgs false
set_option linter.unusedVariables false
section
open Go.RowKit
open Nat (reduceBEq)
attribute [-go_sem] IntKind.bits
set_option maxRecDepth 20000
set_option maxHeartbeats 2000000
theorem X7t(e1 e2:Bool)(l m:List Int)(hl:l.length≤1000000)(hm:m.length≤1000000):Fn Tryz.prog 18 [asl e1 l,asl e2 m] [] (vb (decide (l=m))) []:=by
 by_cases hlen:l.length=m.length
 · have k0:((l.length:Int) != (m.length:Int))=false:=by rw[hlen];simp
   obtain⟨r,hr⟩:∃r,decide (l=m)=r:=⟨_,rfl⟩
   rw[hr]
   (refine Q0t Tryz.func18 rfl (by rfl) ?_;simp only[Tryz.ntmps18,List.length_cons,List.length_nil,Nat.reduceAdd,Nat.reduceSub,List.replicate,List.cons_append,List.nil_append])
   (repeat(any_goals(first|((with_reducible refine Q0b ?_ ?_);rfl;intro K hK;simp only[go_sem,k0];((repeat(refine ndI (by first|assumption) ?_));refine hK _ ?_;clear hK K))|(with_reducible first|(refine Q0c ?_;refine hR _ ?_;clear hR R)|((first|refine Q0e ?_|refine Q0f ?_);intro J hJ hJ')|(refine Q0a ?_;intro R hR)|(refine hJ _ ?_;clear hJ hJ' J)|refine Q0h ?_)|((with_reducible apply Q0d);rfl;rfl;all_goals(intro hc;first|(cases hc;done)|(try simp only at hc))))))
   refine Q1p (α:={i:Nat // i≤l.length∧∀j,j<i→l[j]? = m[j]?}) (fun p=>⟨[asl e1 l,asl e2 m,.any,.any,vb false,vi .i64 (p.1:Int),.any,.any,.any,.any,.any,.any,.any,.any,.any,.any,.any,.any,.any,.any,.any,.any,.any,.any,.any,.any],[]⟩) (fun p=>l.length-p.1) ⟨0,Nat.zero_le _,fun j hj=>by omega⟩ (St.le_of (by simp[leT]) (by simp[leH])) ?_
   rintro ⟨i,hi,hno⟩ J hJ hJ'
   (try dsimp only at hi hJ ⊢)
   rcases Nat.lt_or_ge i l.length with hlt|hge
   · have k1:(decide ((i:Int)<(l.length:Int)))=true:=decide_eq_true (by omega)
     have k7:(i:Int)+1=((i+1:Nat):Int):=by omega
     obtain⟨x,hx⟩:∃x,l[i]? = some x:=⟨_,List.getElem?_eq_getElem hlt⟩
     obtain⟨y,hy⟩:∃y,m[i]? = some y:=⟨_,List.getElem?_eq_getElem (by omega)⟩
     have hlm:i<m.length:=by omega
     have k2:=Q6f hx
     have k3:=Q6f hy
     have k4:=a_ne x y
     by_cases hxy:x=y
     · rw[decide_eq_true hxy,Bool.not_true] at k4
       (have W:=ndI k1 (ndI k2 (ndI k3 (ndI k4 (ndI k7 @wrI))));(repeat(any_goals(first|((with_reducible refine Q0b ?_ ?_);rfl;intro K hK;simp(disch:=omega) only[go_sem,W,Nat.mul_one];((repeat(refine ndI (by first|assumption|rfl) ?_));refine hK _ ?_;clear hK K))|(with_reducible first|(refine Q0c ?_;refine hR _ ?_;clear hR R)|((first|refine Q0e ?_|refine Q0f ?_);intro J hJ hJ')|(refine Q0a ?_;intro R hR)|(refine hJ _ ?_;clear hJ hJ' J)|refine Q0h ?_)|((with_reducible refine hJ' _ _ ?_ ?_);(focus(simp;done));clear hJ hJ' J)|((with_reducible apply Q0d);rfl;rfl;all_goals(intro hc;first|(cases hc;done)|(try simp only at hc)))|((with_reducible refine Q0z ?_ ?_);kernel_rfl;(with_reducible refine hR _ ?_);clear hR R)|(((with_reducible apply Q0x);rfl;rfl;(simp(disch:=omega) only[rdE,rdOf,go_sem,W,Nat.mul_one];rfl);(intro τ hA hQ hN;((try simp only[Q1i,Op.operands,Call.operands,go_sem,W,Nat.mul_one,go_sem,List.mem_cons,List.not_mem_nil,forall_eq_or_imp,forall_eq,List.append_toArray,Option.toArray] at hA);(try simp only[go_sem,W,Nat.mul_one,List.mem_cons,List.not_mem_nil,forall_eq_or_imp,forall_eq] at hQ hN);(first|(revert hA;intro hA));(first|(revert hQ;intro hQ));(first|(revert hN;intro hN));simp(disch:=omega) only[go_sem,W,Nat.mul_one,go_sem,hA,hQ,hN];(repeat(refine ndI (by first|assumption|omega|rfl) ?_));(first|apply Q1b))));(simp(disch:=omega) only[St.eff,setO,Q0u,go_sem,W,Nat.mul_one]))|((with_reducible refine Q0w ?_ ?_ ?_ ?_);kernel_rfl;kernel_rfl;(first|kernel_rfl);intro R hR)))))
       all_goals exact hJ _ ⟨i+1,hlt,fun j hj=>by
        rcases Nat.lt_or_ge j i with h'|h'
        · exact hno j h'
        · obtain rfl:j=i:=by omega
          rw[hx,hy,hxy]⟩ (by simp only;omega) (St.le_of (by simp[leT]) (by simp[leH]))
     · rw[decide_eq_false hxy,Bool.not_false] at k4
       have hrf:r=false:=by
        rw[←hr,decide_eq_false_iff_not]
        intro e;rw[e,hy] at hx;cases hx;exact hxy rfl
       (have W:=ndI k1 (ndI k2 (ndI k3 (ndI k4 (ndI k7 @wrI))));(repeat(any_goals(first|((with_reducible refine Q0b ?_ ?_);rfl;intro K hK;simp(disch:=omega) only[go_sem,W,Nat.mul_one];((repeat(refine ndI (by first|assumption|rfl) ?_));refine hK _ ?_;clear hK K))|(with_reducible first|(refine Q0c ?_;refine hR _ ?_;clear hR R)|((first|refine Q0e ?_|refine Q0f ?_);intro J hJ hJ')|(refine Q0a ?_;intro R hR)|(refine hJ _ ?_;clear hJ hJ' J)|refine Q0h ?_|refine Q0j ?_)|((with_reducible refine hJ' _ _ ?_ ?_);(focus(simp;done));clear hJ hJ' J)|((with_reducible apply Q0d);rfl;rfl;all_goals(intro hc;first|(cases hc;done)|(try simp only at hc)))|((with_reducible refine Q0z ?_ ?_);kernel_rfl;(with_reducible refine hR _ ?_);clear hR R)|(((with_reducible apply Q0x);rfl;rfl;(simp(disch:=omega) only[rdE,rdOf,go_sem,W,Nat.mul_one];rfl);(intro τ hA hQ hN;((try simp only[Q1i,Op.operands,Call.operands,go_sem,W,Nat.mul_one,go_sem,List.mem_cons,List.not_mem_nil,forall_eq_or_imp,forall_eq,List.append_toArray,Option.toArray] at hA);(try simp only[go_sem,W,Nat.mul_one,List.mem_cons,List.not_mem_nil,forall_eq_or_imp,forall_eq] at hQ hN);(first|(revert hA;intro hA));(first|(revert hQ;intro hQ));(first|(revert hN;intro hN));simp(disch:=omega) only[go_sem,W,Nat.mul_one,go_sem,hA,hQ,hN];(repeat(refine ndI (by first|assumption|omega|rfl) ?_));(first|apply Q1b))));(simp(disch:=omega) only[St.eff,setO,Q0u,go_sem,W,Nat.mul_one]))|((with_reducible refine Q0w ?_ ?_ ?_ ?_);kernel_rfl;kernel_rfl;(first|kernel_rfl);intro R hR)))))
       all_goals rw[hrf]
       all_goals(refine⟨by simp,⟨_,?_,AV.le_refl _⟩,Q0g (by simp[leH,hget])⟩;simp only[Tryz.results18,resL,ldA,Q0m,go_sem])
   · have k1:(decide ((i:Int)<(l.length:Int)))=false:=decide_eq_false (by omega)
     have hrt:r=true:=by
      rw[←hr,decide_eq_true_iff]
      refine List.ext_getElem? fun j=>?_
      rcases Nat.lt_or_ge j l.length with h|h
      · exact hno j (by omega)
      · rw[List.getElem?_eq_none h,List.getElem?_eq_none (by omega)]
     (repeat(any_goals(first|((with_reducible refine Q0b ?_ ?_);rfl;intro K hK;simp only[go_sem,k1];((repeat(refine ndI (by first|assumption) ?_));refine hK _ ?_;clear hK K))|(with_reducible first|(refine Q0c ?_;refine hR _ ?_;clear hR R)|((first|refine Q0e ?_);intro J hJ hJ')|(refine Q0a ?_;intro R hR)|(refine hJ _ ?_;clear hJ hJ' J)|refine Q0j ?_|refine Q0q ?_)|((with_reducible refine hJ' _ _ ?_ ?_);(focus(simp;done));clear hJ hJ' J)|((with_reducible apply Q0d);rfl;rfl;all_goals(intro hc;first|(cases hc;done)|(try simp only at hc))))))
     all_goals rw[hrt]
     all_goals(refine⟨by simp,⟨_,?_,AV.le_refl _⟩,Q0g (by simp[leH,hget])⟩;simp only[Tryz.results18,resL,ldA,Q0m,go_sem])
 · have k0:((l.length:Int) != (m.length:Int))=true:=by simp;omega
   have he:decide (l=m)=false:=by rw[decide_eq_false_iff_not];intro e;exact hlen (by rw[e])
   rw[he]
   (refine Q0t Tryz.func18 rfl (by rfl) ?_;simp only[Tryz.ntmps18,List.length_cons,List.length_nil,Nat.reduceAdd,Nat.reduceSub,List.replicate,List.cons_append,List.nil_append])
   (repeat(any_goals(first|((with_reducible refine Q0b ?_ ?_);rfl;intro K hK;simp only[go_sem,k0];((repeat(refine ndI (by first|assumption) ?_));refine hK _ ?_;clear hK K))|(with_reducible first|(refine Q0c ?_;refine hR _ ?_;clear hR R)|((first|refine Q0e ?_);intro J hJ hJ')|(refine Q0a ?_;intro R hR)|(refine hJ _ ?_;clear hJ hJ' J)|refine Q0j ?_)|((with_reducible refine hJ' _ _ ?_ ?_);(focus(simp;done));clear hJ hJ' J)|((with_reducible apply Q0d);rfl;rfl;all_goals(intro hc;first|(cases hc;done)|(try simp only at hc))))))
   all_goals(refine⟨by simp,⟨_,?_,AV.le_refl _⟩,Q0g (by simp[leH,hget])⟩;simp only[Tryz.results18,resL,ldA,Q0m,go_sem])
theorem X8o{a:Nat}(h:a+1<18446744073709551616):IntKind.u64.wrap ((a:Int)+1)=((a+1:Nat):Int)∧(((a+1:Nat):Int) != 0)=true:=by
 refine⟨?_,?_⟩
 · rw[show(a:Int)+1=((a+1:Nat):Int) by omega]
   exact wrU (by omega) (by omega)
 · rw[bne_iff_ne];omega
theorem Q8v{a:Nat}(h:a+1=18446744073709551616):IntKind.u64.wrap ((a:Int)+1)=0:=by
 obtain rfl:a=18446744073709551615:=by omega
 rfl
theorem inc_cases{n:Nat}(h:n<WW) :
 (∃x,(IntKind.u64.wrap (l0 n+1)=x∧(x != 0)=true)∧n+1<WW∧l0 (n+1)=x∧l1 (n+1)=l1 n∧l2 (n+1)=l2 n∧l3 (n+1)=l3 n) ∨
 (∃x,(IntKind.u64.wrap (l0 n+1)=0∧IntKind.u64.wrap (l1 n+1)=x∧(x != 0)=true)∧n+1<WW∧l0 (n+1)=0∧l1 (n+1)=x∧l2 (n+1)=l2 n∧l3 (n+1)=l3 n) ∨
 (∃x,(IntKind.u64.wrap (l0 n+1)=0∧IntKind.u64.wrap (l1 n+1)=0∧IntKind.u64.wrap (l2 n+1)=x∧(x != 0)=true)∧n+1<WW∧l0 (n+1)=0∧l1 (n+1)=0∧l2 (n+1)=x∧l3 (n+1)=l3 n) ∨
 (∃x,(IntKind.u64.wrap (l0 n+1)=0∧IntKind.u64.wrap (l1 n+1)=0∧IntKind.u64.wrap (l2 n+1)=0∧IntKind.u64.wrap (l3 n+1)=x∧(x != 0)=true)∧n+1<WW∧l0 (n+1)=0∧l1 (n+1)=0∧l2 (n+1)=0∧l3 (n+1)=x) ∨
 ((IntKind.u64.wrap (l0 n+1)=0∧IntKind.u64.wrap (l1 n+1)=0∧IntKind.u64.wrap (l2 n+1)=0∧IntKind.u64.wrap (l3 n+1)=0)∧n+1=WW):=by
 obtain⟨a,b,c,d,e,ha,hb,hc,hd,e0,e1,e2,e3⟩:=Q7p h
 have hW:WW=115792089237316195423570985008687907853269984665640564039457584007913129639936:=rfl
 rw[e0,e1,e2,e3]
 rcases Nat.lt_or_ge (a+1) 18446744073709551616 with h0|h0
 · obtain⟨f0,f1,f2,f3⟩:=Q4p (n:=n+1) (s0:=a+1) (s1:=b) (s2:=c) (s3:=d) (by omega) h0 hb hc hd
   exact .inl ⟨_,X8o h0,by omega,f0,f1,f2,f3⟩
 have h0:a+1=18446744073709551616:=by omega
 refine .inr ?_
 rw[Q8v h0]
 rcases Nat.lt_or_ge (b+1) 18446744073709551616 with h1|h1
 · obtain⟨f0,f1,f2,f3⟩:=Q4p (n:=n+1) (s0:=0) (s1:=b+1) (s2:=c) (s3:=d) (by omega) (by omega) h1 hc hd
   exact .inl ⟨_,⟨rfl,X8o h1⟩,by omega,f0,f1,f2,f3⟩
 have h1:b+1=18446744073709551616:=by omega
 refine .inr ?_
 rw[Q8v h1]
 rcases Nat.lt_or_ge (c+1) 18446744073709551616 with h2|h2
 · obtain⟨f0,f1,f2,f3⟩:=Q4p (n:=n+1) (s0:=0) (s1:=0) (s2:=c+1) (s3:=d) (by omega) (by omega) (by omega) h2 hd
   exact .inl ⟨_,⟨rfl,rfl,X8o h2⟩,by omega,f0,f1,f2,f3⟩
 have h2:c+1=18446744073709551616:=by omega
 refine .inr ?_
 rw[Q8v h2]
 rcases Nat.lt_or_ge (d+1) 18446744073709551616 with h3|h3
 · obtain⟨f0,f1,f2,f3⟩:=Q4p (n:=n+1) (s0:=0) (s1:=0) (s2:=0) (s3:=d+1) (by omega) (by omega) (by omega) (by omega) h3
   exact .inl ⟨_,⟨rfl,rfl,rfl,X8o h3⟩,by omega,f0,f1,f2,f3⟩
 have h3:d+1=18446744073709551616:=by omega
 refine .inr ⟨⟨rfl,rfl,rfl,Q8v h3⟩,by omega⟩
abbrev cN(x:Nat):List AV:=[vi .u64 (l0 x),vi .u64 (l1 x),vi .u64 (l2 x),vi .u64 (l3 x)]
theorem nearR_fn(s t:Nat)(hs:s<WW)(ht:t<WW):Fn Tryz.prog 82 [wN s,wN t] [] (vb (Q4z s t)) []:=by
 have hN:Q4z s t=(decide (t≤s)&&decide (s-t<128)):=rfl
 generalize Q4z s t=r at hN ⊢
 (refine Q0t Tryz.func82 rfl (by rfl) ?_;simp only[Tryz.ntmps82,List.length_cons,List.length_nil,Nat.reduceAdd,Nat.reduceSub,List.replicate,List.cons_append,List.nil_append])
 (repeat(any_goals(first|((with_reducible refine Q0b ?_ ?_);rfl;intro K hK;simp only[go_sem];((repeat(refine ndI (by first|assumption) ?_));refine hK _ ?_;clear hK K))|(with_reducible first|(refine Q0c ?_;refine hR _ ?_;clear hR R)|((first|refine Q0e ?_|refine Q0f ?_);intro J hJ hJ')|(refine Q0a ?_;intro R hR)|(refine hJ _ ?_;clear hJ hJ' J)))))
 refine Q1p (α:={i:Nat // i≤128∧t+i<WW∧(s<t∨t+i≤s)}) (fun x=>⟨[.any,.any,.ptr 2 0,.ptr 3 0,vb false,vi .i64 (x.1:Int),.any,.any,.any,.any,.any,.any,.any,.any,.any,.any,.any,.any,.any,.any,.any,.any,.any,.any,.any,.any,.any,.any,.any,.any,.any,.any,.any],[(2,cN s),(3,[vi .u64 (l0 (t+x.1)),vi .u64 (l1 (t+x.1)),vi .u64 (l2 (t+x.1)),vi .u64 (l3 (t+x.1))])]⟩) (fun x=>128-x.1) ⟨0,by omega,by omega,by omega⟩ (St.le_of (by simp[leT]) (by simp[leH,hget])) ?_
 rintro ⟨i,hi,hti,hst⟩ J hJ hJ'
 (try dsimp only at hJ ⊢)
 rcases Nat.lt_or_ge i 128 with hlt|hge
 · have k1:(decide ((i:Int)<128))=true:=by simp;omega
   have k7:(i:Int)+1=((i+1:Nat):Int):=by omega
   have hil:(i+1:Nat)≤128:=hlt
   have hneq:=X5w hs hti
   by_cases hq:s=t+i
   · rw[decide_eq_true hq] at hneq
     have hr:r=true:=by rw[hN,decide_eq_true (by omega),decide_eq_true (by omega)];rfl
     (repeat(any_goals(first|((with_reducible refine Q0b ?_ ?_);rfl;intro K hK;simp only[go_sem,k1,hneq];((repeat(refine ndI (by first|assumption) ?_));refine hK _ ?_;clear hK K))|(with_reducible first|(refine Q0c ?_;refine hR _ ?_;clear hR R)|((first|refine Q0e ?_|refine Q0f ?_);intro J hJ hJ')|(refine Q0a ?_;intro R hR)|(refine hJ _ ?_;clear hJ hJ' J)|refine Q0h ?_|refine Q0j ?_)|((with_reducible refine hJ' _ _ ?_ ?_);(focus(simp;done));clear hJ hJ' J)|((with_reducible apply Q0d);rfl;rfl;all_goals(intro hc;first|(cases hc;done)|(try simp only at hc))))))
     all_goals rw[hr]
     all_goals(refine⟨by simp,⟨_,?_,AV.le_refl _⟩,Q0g (by simp[leH,hget])⟩;simp only[Tryz.results82,resL,ldA,Q0m,go_sem])
   · rw[decide_eq_false hq] at hneq
     have hr5:t+i+1=WW→r=false:=by intro h;rw[hN,decide_eq_false (by omega)];rfl
     rcases inc_cases hti with⟨x,kk,hn,f0,f1,f2,f3⟩|⟨x,kk,hn,f0,f1,f2,f3⟩|⟨x,kk,hn,f0,f1,f2,f3⟩|⟨x,kk,hn,f0,f1,f2,f3⟩|⟨kk,hn⟩
     all_goals first|(have hJ1:=fun σ'=>hJ σ' ⟨i+1,hil,hn,by omega⟩ (by dsimp only;omega);dsimp only at hJ1;rw[←Nat.add_assoc,f0,f1,f2,f3] at hJ1)|skip
     all_goals(have W:=ndI k1 (ndI k7 @wrI);(repeat(any_goals(first|((with_reducible refine Q0b ?_ ?_);rfl;intro K hK;simp(disch:=omega) only[go_sem,W,hneq,kk,Int.reduceAdd];((repeat(refine ndI (by first|assumption|omega|rfl) ?_));refine hK _ ?_;clear hK K))|(with_reducible first|(refine Q0c ?_;refine hR _ ?_;clear hR R)|((first|refine Q0e ?_|refine Q0f ?_);intro J hJ hJ')|(refine Q0a ?_;intro R hR)|(refine hJ _ ?_;clear hJ hJ' J)|refine Q0h ?_|refine Q0j ?_|refine Q0q ?_)|((with_reducible refine hJ' _ _ ?_ ?_);(focus(simp;done));clear hJ hJ' J)|((with_reducible apply Q0d);rfl;rfl;all_goals(intro hc;first|(cases hc;done)|(try simp only at hc)))|(with_reducible refine Q3d 5 ?_)|((with_reducible refine Q3v ?_);intro J hJ hJ')))))
     all_goals first|exact hJ1 _ (St.le_of (by simp[leT]) (by simp[leH,hget]))|(rw[hr5 hn];(refine⟨by simp,⟨_,?_,AV.le_refl _⟩,Q0g (by simp[leH,hget])⟩;simp only[Tryz.results82,resL,ldA,Q0m,go_sem]))
 · have k1:(decide ((i:Int)<128))=false:=by simp;omega
   obtain rfl:i=128:=by omega
   have hr:r=false:=by
    rw[hN]
    rcases hst with h|h
    · rw[decide_eq_false (by omega)];rfl
    · rw[decide_eq_false (by omega:¬s-t<128)];simp
   (repeat(any_goals(first|((with_reducible refine Q0b ?_ ?_);rfl;intro K hK;simp only[go_sem,k1];((repeat(refine ndI (by first|assumption) ?_));refine hK _ ?_;clear hK K))|(with_reducible first|(refine Q0c ?_;refine hR _ ?_;clear hR R)|((first|refine Q0e ?_);intro J hJ hJ')|(refine Q0a ?_;intro R hR)|(refine hJ _ ?_;clear hJ hJ' J)|refine Q0j ?_|refine Q0q ?_)|((with_reducible refine hJ' _ _ ?_ ?_);(focus(simp;done));clear hJ hJ' J)|((with_reducible apply Q0d);rfl;rfl;all_goals(intro hc;first|(cases hc;done)|(try simp only at hc))))))
   all_goals rw[hr]
   all_goals(refine⟨by simp,⟨_,?_,AV.le_refl _⟩,Q0g (by simp[leH,hget])⟩;simp only[Tryz.results82,resL,ldA,Q0m,go_sem])
theorem rnone_fn(x:Nat)(hx:x<WW):Fn Tryz.prog 97 [wN x] [] (vb (decide (x=0))) []:=by
 have f:=wN_zero hx
 obtain⟨q,hq⟩:∃q,decide (x=0)=q:=⟨_,rfl⟩
 rw[hq] at f ⊢
 clear hq hx
 (refine Q0t Tryz.func97 rfl (by rfl) ?_;simp only[Tryz.ntmps97,List.length_cons,List.length_nil,Nat.reduceAdd,Nat.reduceSub,List.replicate,List.cons_append,List.nil_append])
 (repeat(any_goals(first|((with_reducible refine Q0b ?_ ?_);rfl;intro K hK;simp only[go_sem];((repeat(refine ndI (by first|assumption|omega) ?_));refine hK _ ?_;clear hK K))|(with_reducible first|(refine Q0c ?_;refine hR _ ?_;clear hR R)|((first|refine Q0e ?_);intro J hJ hJ')|(refine Q0a ?_;intro R hR)|(refine hJ _ ?_;clear hJ hJ' J)|refine Q0j ?_)|((with_reducible apply Q0p);rfl;rfl;rfl;all_goals(intro hb;first|(cases hb;done)|((try simp only[Bool.not_true,Bool.not_false] at hb);(first|((with_reducible intro K hK);simp only[go_sem];((repeat(refine ndI (by first|assumption|omega) ?_));refine hK _ ?_;clear hK K))|((fail_if_success (with_reducible intro _));simp only[go_sem]))))))))
 all_goals(refine⟨by simp,⟨_,?_,AV.le_refl _⟩,Q0g (by simp[leH,hget])⟩;simp only[Tryz.results97,resL,ldA,Q0m,go_sem])
 all_goals simp_all
end
section
open Go.RowKit
open Nat (reduceBEq)
attribute [-go_sem] IntKind.bits
set_option maxRecDepth 20000
set_option maxHeartbeats 4000000
theorem X0x(x:Nat)(hx:x<WW):Fn Tryz.prog 113 [wN x] [] (vb (decide (x=0))) []:=by
 have f:=z4 hx
 obtain⟨q,hq⟩:∃q,decide (x=0)=q:=⟨_,rfl⟩
 rw[hq] at f ⊢
 clear hq hx
 (refine Q0t Tryz.func113 rfl (by rfl) ?_;simp only[Tryz.ntmps113,List.length_cons,List.length_nil,Nat.reduceAdd,Nat.reduceSub,List.replicate,List.cons_append,List.nil_append])
 (repeat(any_goals(first|((with_reducible refine Q0b ?_ ?_);rfl;intro K hK;simp only[go_sem,f];((repeat(refine ndI (by first|assumption) ?_));refine hK _ ?_;clear hK K))|(with_reducible first|(refine Q0c ?_;refine hR _ ?_;clear hR R)|((first|refine Q0e ?_);intro J hJ hJ')|(refine Q0a ?_;intro R hR)|(refine hJ _ ?_;clear hJ hJ' J)|refine Q0j ?_))))
 all_goals(refine⟨by simp,⟨_,?_,AV.le_refl _⟩,Q0g (by simp[leH,hget])⟩;simp only[Tryz.results113,resL,ldA,Q0m,go_sem])
theorem rtold_fn(x:Nat):Fn Tryz.prog 114 [vi .u8 x] [] (vb (Q7n x)) []:=by
 have e:Q7n x=(((x:Int)==50)||(((x:Int)==49)||(((x:Int)==66)||(((x:Int)==67)||(((x:Int)==71)||(((x:Int)==72)||((x:Int)==254))))))):=by
  unfold Q7n
  have k:∀n:Nat,(x==n)=((x:Int)==(n:Int)):=fun n=>by rw[Bool.eq_iff_iff];simp;omega
  rw[k 50,k 49,k 66,k 67,k 71,k 72,k 254]
  simp[Bool.or_assoc]
 rw[e]
 obtain⟨b1,h1⟩:∃b,((x:Int)==50)=b:=⟨_,rfl⟩
 obtain⟨b2,h2⟩:∃b,((x:Int)==49)=b:=⟨_,rfl⟩
 obtain⟨b3,h3⟩:∃b,((x:Int)==66)=b:=⟨_,rfl⟩
 obtain⟨b4,h4⟩:∃b,((x:Int)==67)=b:=⟨_,rfl⟩
 obtain⟨b5,h5⟩:∃b,((x:Int)==71)=b:=⟨_,rfl⟩
 obtain⟨b6,h6⟩:∃b,((x:Int)==72)=b:=⟨_,rfl⟩
 obtain⟨b7,h7⟩:∃b,((x:Int)==254)=b:=⟨_,rfl⟩
 rw[h1,h2,h3,h4,h5,h6,h7]
 (refine Q0t Tryz.func114 rfl (by rfl) ?_;simp only[Tryz.ntmps114,List.length_cons,List.length_nil,Nat.reduceAdd,Nat.reduceSub,List.replicate,List.cons_append,List.nil_append])
 (have W:=ndI h1 (ndI h2 (ndI h3 (ndI h4 (ndI h5 (ndI h6 h7)))));(repeat(any_goals(first|((with_reducible refine Q0b ?_ ?_);rfl;intro K hK;simp only[go_sem,W];((repeat(refine ndI (by first|assumption) ?_));refine hK _ ?_;clear hK K))|(with_reducible first|(refine Q0c ?_;refine hR _ ?_;clear hR R)|((first|refine Q0e ?_);intro J hJ hJ')|(refine Q0a ?_;intro R hR)|(refine hJ _ ?_;clear hJ hJ' J)|refine Q0j ?_)|((with_reducible apply Q0p);rfl;rfl;rfl;all_goals(intro hb;first|(cases hb;done)|((try simp only[Bool.not_true,Bool.not_false] at hb);(first|((with_reducible intro K hK);simp only[go_sem,W];((repeat(refine ndI (by first|assumption) ?_));refine hK _ ?_;clear hK K))|((fail_if_success (with_reducible intro _));simp only[go_sem,W])))))))))
 all_goals(refine⟨by simp,⟨_,?_,AV.le_refl _⟩,Q0g (by simp[leH,hget])⟩;simp only[Tryz.results114,resL,ldA,Q0m,go_sem])
 all_goals clear h1 h2 h3 h4 h5 h6 h7
 all_goals simp_all
theorem beqI(x:Int)(n:Int):(x==n)=decide (x=n):=by rw[Bool.eq_iff_iff];simp
theorem beqN(x n:Nat):((x:Int)==(n:Int))=decide (x=n):=by rw[Bool.eq_iff_iff,beq_iff_eq,decide_eq_true_iff];omega
theorem nilB(l:List Nat):((l.length:Int)==0)=decide (l=[]):=by rw[Bool.eq_iff_iff];simp
theorem X9u(e:Ev)(a1 a2 a3:Bool)(h1:decide (e.dep<0)=a1)(h2:decide (e.dep≥6)=a2)(h3:(e.self==0)=a3)(h:(a1||a2||a3)=true):Fn Tryz.prog 70 [evA e] [] (vb false) []:=by
 cases a1 with
 |true=>
  (refine Q0t Tryz.func70 rfl (by rfl) ?_;simp only[Tryz.ntmps70,List.length_cons,List.length_nil,Nat.reduceAdd,Nat.reduceSub,List.replicate,List.cons_append,List.nil_append])
  (repeat(any_goals(first|((with_reducible refine Q0b ?_ ?_);rfl;intro K hK;simp only[go_sem,h1];((repeat(refine ndI (by first|assumption) ?_));refine hK _ ?_;clear hK K))|(with_reducible first|(refine Q0c ?_;refine hR _ ?_;clear hR R)|((first|refine Q0e ?_);intro J hJ hJ')|(refine Q0a ?_;intro R hR)|(refine hJ _ ?_;clear hJ hJ' J)|refine Q0j ?_)|((with_reducible refine hJ' _ _ ?_ ?_);(focus(simp;done));clear hJ hJ' J)|((with_reducible apply Q0p);rfl;rfl;rfl;all_goals(intro hb;first|(cases hb;done)|((try simp only[Bool.not_true,Bool.not_false] at hb);(first|((fail_if_success (with_reducible intro _));simp only[go_sem,h1])))))|((with_reducible apply Q0d);rfl;rfl;all_goals(intro hc;first|(cases hc;done)|(try simp only at hc))))))
  all_goals(refine⟨by simp,⟨_,?_,AV.le_refl _⟩,Q0g (by simp[leH,hget])⟩;simp only[Tryz.results70,resL,ldA,Q0m,go_sem])
 |false=>
 cases a2 with
 |true=>
  (refine Q0t Tryz.func70 rfl (by rfl) ?_;simp only[Tryz.ntmps70,List.length_cons,List.length_nil,Nat.reduceAdd,Nat.reduceSub,List.replicate,List.cons_append,List.nil_append])
  (repeat(any_goals(first|((with_reducible refine Q0b ?_ ?_);rfl;intro K hK;simp only[go_sem,h1,h2];((repeat(refine ndI (by first|assumption) ?_));refine hK _ ?_;clear hK K))|(with_reducible first|(refine Q0c ?_;refine hR _ ?_;clear hR R)|((first|refine Q0e ?_);intro J hJ hJ')|(refine Q0a ?_;intro R hR)|(refine hJ _ ?_;clear hJ hJ' J)|refine Q0j ?_)|((with_reducible refine hJ' _ _ ?_ ?_);(focus(simp;done));clear hJ hJ' J)|((with_reducible apply Q0p);rfl;rfl;rfl;all_goals(intro hb;first|(cases hb;done)|((try simp only[Bool.not_true,Bool.not_false] at hb);(first|((with_reducible intro K hK);simp only[go_sem,h1,h2];((repeat(refine ndI (by first|assumption) ?_));refine hK _ ?_;clear hK K))|((fail_if_success (with_reducible intro _));simp only[go_sem,h1,h2])))))|((with_reducible apply Q0d);rfl;rfl;all_goals(intro hc;first|(cases hc;done)|(try simp only at hc))))))
  all_goals(refine⟨by simp,⟨_,?_,AV.le_refl _⟩,Q0g (by simp[leH,hget])⟩;simp only[Tryz.results70,resL,ldA,Q0m,go_sem])
 |false=>
 cases a3 with
 |true=>
  (refine Q0t Tryz.func70 rfl (by rfl) ?_;simp only[Tryz.ntmps70,List.length_cons,List.length_nil,Nat.reduceAdd,Nat.reduceSub,List.replicate,List.cons_append,List.nil_append])
  (have W:=ndI h1 (ndI h2 h3);(repeat(any_goals(first|((with_reducible refine Q0b ?_ ?_);rfl;intro K hK;simp only[go_sem,W];((repeat(refine ndI (by first|assumption) ?_));refine hK _ ?_;clear hK K))|(with_reducible first|(refine Q0c ?_;refine hR _ ?_;clear hR R)|((first|refine Q0e ?_);intro J hJ hJ')|(refine Q0a ?_;intro R hR)|(refine hJ _ ?_;clear hJ hJ' J)|refine Q0j ?_)|((with_reducible refine hJ' _ _ ?_ ?_);(focus(simp;done));clear hJ hJ' J)|((with_reducible apply Q0p);rfl;rfl;rfl;all_goals(intro hb;first|(cases hb;done)|((try simp only[Bool.not_true,Bool.not_false] at hb);(first|((with_reducible intro K hK);simp only[go_sem,W];((repeat(refine ndI (by first|assumption) ?_));refine hK _ ?_;clear hK K))))))|((with_reducible apply Q0d);rfl;rfl;all_goals(intro hc;first|(cases hc;done)|(try simp only at hc)))))))
  all_goals(refine⟨by simp,⟨_,?_,AV.le_refl _⟩,Q0g (by simp[leH,hget])⟩;simp only[Tryz.results70,resL,ldA,Q0m,go_sem])
 |false=>cases h
theorem rright_in(e:Ev)(he:e.ok)(h1:decide (e.dep<0)=false)(h2:decide (e.dep≥6)=false)(h3:(e.self==0)=false):Fn Tryz.prog 70 [evA e] [] (vb (Q2l e)) []:=by
 obtain⟨hk,hv,hl,hb,hs,ht⟩:=he
 have er:Q2l e=(if e.kind=1 then decide (e.data.length=64∧e.val=dgN e.data)&&decide (e.to=0∧e.op=0∧e.key=0)
  else if e.kind=2∨e.kind=3 then decide (e.to=0∧e.op=0∧e.val=0∧e.data=[])
  else if e.kind=4 then(Q6d e.op&&decide (e.data.length≤1))&&decide (e.key=0)
  else if e.kind=5 then Q7n e.op&&X3n e
  else if e.kind=6 then X3n e
  else false):=by
   have hg:(decide (e.dep<0)||decide (e.dep≥6)||(e.self==0))=false:=by rw[h1,h2,h3];rfl
   unfold Q2l
   rw[hg]
   simp
 have n5:=X0x e.key hk
 have n6:=X0x e.val hv
 have dg:=rdigN_fn false e.data hl hb
 have tl:=rtold_fn e.op
 have w6:=X5w hv (dgN_lt e.data)
 have f3:=beqI e.to 0
 have f4:=beqN e.op 0
 have f7:=nilB e.data
 have f64:=beqN e.data.length 64
 have g1:=beqN e.op 241
 have g2:=beqN e.op 244
 have g3:=beqN e.op 245
 have g4:=beqN e.op 250
 have fc:Q6d e.op=(decide (e.op=241)||decide (e.op=244)||decide (e.op=245)||decide (e.op=250)):=by
  unfold Q6d
  rw[Bool.eq_iff_iff]
  simp
  omega
 have f1:decide ((e.data.length:Int)≤1)=decide (e.data.length≤1):=decide_eq_decide.2 (by omega)
 unfold X3n at er
 simp only[Bool.decide_and,fc] at er
 generalize dgN e.data=D at *
 generalize decide (e.to=0)=b3 at *
 generalize decide (e.op=0)=b4 at *
 generalize decide (e.key=0)=b5 at *
 generalize decide (e.val=0)=b6 at *
 generalize decide (e.data=[])=b7 at *
 generalize decide (e.data.length=64)=b64 at *
 generalize decide (e.val=D)=bD at *
 generalize decide (e.op=241)=o1 at *
 generalize decide (e.op=244)=o2 at *
 generalize decide (e.op=245)=o3 at *
 generalize decide (e.op=250)=o4 at *
 generalize Q7n e.op=bt at *
 generalize decide (e.data.length≤1)=b1 at *
 generalize Q2l e=r at *
 clear hk hv hl hb hs ht fc
 by_cases k1:e.kind=1
 · have er:r=(b64&&bD&&(b3&&(b4&&b5))):=by rw[er];rw[if_pos (by omega)]
   rw[er]
   clear er
   have q1:(e.kind==1)=true:=by rw[k1];rfl
   (refine Q0t Tryz.func70 rfl (by rfl) ?_;simp only[Tryz.ntmps70,List.length_cons,List.length_nil,Nat.reduceAdd,Nat.reduceSub,List.replicate,List.cons_append,List.nil_append])
   (have W:=ndI h1 (ndI h2 (ndI h3 (ndI f3 (ndI f4 (ndI f64 (ndI w6 q1))))));(repeat(any_goals(first|((with_reducible refine Q0b ?_ ?_);rfl;intro K hK;simp only[go_sem,W];((repeat(refine ndI (by first|assumption) ?_));refine hK _ ?_;clear hK K))|(with_reducible first|(refine Q0c ?_;refine hR _ ?_;clear hR R)|((first|refine Q0e ?_|refine Q0f ?_);intro J hJ hJ')|(refine Q0a ?_;intro R hR)|(refine hJ _ ?_;clear hJ hJ' J)|refine Q0h ?_|refine Q0j ?_)|((with_reducible refine hJ' _ _ ?_ ?_);(focus(simp;done));clear hJ hJ' J)|((with_reducible apply Q0p);rfl;rfl;rfl;all_goals(intro hb;first|(cases hb;done)|((try simp only[Bool.not_true,Bool.not_false] at hb);(first|((with_reducible intro K hK);(first|skip);simp only[go_sem,W];((repeat(refine ndI (by first|assumption) ?_));refine hK _ ?_;clear hK K))))))|((with_reducible apply Q0d);rfl;rfl;all_goals(intro hc;first|(cases hc;done)|(try simp only at hc)))|((with_reducible refine Q0z ?_ ?_);kernel_rfl;(with_reducible refine hR _ ?_);clear hR R)|((first|((with_reducible apply Q3q);rfl;rfl;rfl;rfl)|((first|((with_reducible apply Q3i);rfl;rfl;rfl;rfl;rfl));(first|((first|(apply Q0y (dg);rfl;rfl;rfl;rfl;exact Tryz.func112));kernel_rfl;rfl;(focus((simp only[go_sem,W]);(try rfl);done));(first|rfl))|((apply Q0y (n5);rfl;rfl;rfl;rfl;exact Tryz.func113);kernel_rfl;rfl;(focus((simp only[go_sem,W]);(try rfl);done));(first|rfl))))|((first|((with_reducible apply Q0x);rfl;rfl)|((with_reducible apply Q3c);rfl;rfl;rfl;rfl;rfl));(simp only[rdE,rdOf,go_sem,W];rfl);(intro τ hA hQ hN;((try simp only[Q1i,Op.operands,Call.operands,go_sem,W,go_sem,List.mem_cons,List.not_mem_nil,forall_eq_or_imp,forall_eq,List.append_toArray,Option.toArray] at hA);(try simp only[go_sem,W,List.mem_cons,List.not_mem_nil,forall_eq_or_imp,forall_eq] at hQ hN);(first|(revert hA;intro hA));(first|(revert hQ;intro hQ));(first|(revert hN;intro hN));simp only[go_sem,W,go_sem,hA,hQ,hN];(repeat(refine ndI (by first|assumption) ?_));(first|apply Q1b)))));(simp only[St.eff,setO,Q0u,go_sem,W]))|((with_reducible apply X5a);rfl;rfl;rfl;all_goals intro hb;all_goals(simp only[St.eff,setO,Q0u,go_sem,W]))|((with_reducible refine Q0w ?_ ?_ ?_ ?_);kernel_rfl;kernel_rfl;(first|kernel_rfl);intro R hR)))))
   all_goals(refine⟨by simp,⟨_,?_,AV.le_refl _⟩,Q0g (by simp[leH,hget])⟩;simp only[Tryz.results70,resL,ldA,Q0m,go_sem])
   all_goals clear n5 n6 dg tl h1 h2 h3 w6 f3 f4 f7 f64 g1 g2 g3 g4 f1
   all_goals simp_all
 by_cases k2:e.kind=2
 · have er:r=(b3&&(b4&&(b6&&b7))):=by rw[er];rw[if_neg (by omega)];rw[if_pos (by omega)]
   rw[er]
   clear er
   have q1:(e.kind==1)=false:=by rw[k2];rfl
   have q2:(e.kind==2)=true:=by rw[k2];rfl
   (refine Q0t Tryz.func70 rfl (by rfl) ?_;simp only[Tryz.ntmps70,List.length_cons,List.length_nil,Nat.reduceAdd,Nat.reduceSub,List.replicate,List.cons_append,List.nil_append])
   (have W:=ndI h1 (ndI h2 (ndI h3 (ndI f3 (ndI f4 (ndI f7 (ndI q1 q2))))));(repeat(any_goals(first|((with_reducible refine Q0b ?_ ?_);rfl;intro K hK;simp only[go_sem,W];((repeat(refine ndI (by first|assumption) ?_));refine hK _ ?_;clear hK K))|(with_reducible first|(refine Q0c ?_;refine hR _ ?_;clear hR R)|((first|refine Q0e ?_|refine Q0f ?_);intro J hJ hJ')|(refine Q0a ?_;intro R hR)|(refine hJ _ ?_;clear hJ hJ' J)|refine Q0h ?_|refine Q0j ?_)|((with_reducible refine hJ' _ _ ?_ ?_);(focus(simp;done));clear hJ hJ' J)|((with_reducible apply Q0p);rfl;rfl;rfl;all_goals(intro hb;first|(cases hb;done)|((try simp only[Bool.not_true,Bool.not_false] at hb);(first|((with_reducible intro K hK);(first|((apply Q0i (n6);rfl;rfl;rfl;rfl;exact Tryz.func113);kernel_rfl;rfl;(focus((simp only[go_sem,W]);(try rfl);done));(first|rfl))|skip);simp only[go_sem,W];((repeat(refine ndI (by first|assumption) ?_));refine hK _ ?_;clear hK K))|((fail_if_success (with_reducible intro _));simp only[go_sem,W])))))|((with_reducible apply Q0d);rfl;rfl;all_goals(intro hc;first|(cases hc;done)|(try simp only at hc)))))))
   all_goals(refine⟨by simp,⟨_,?_,AV.le_refl _⟩,Q0g (by simp[leH,hget])⟩;simp only[Tryz.results70,resL,ldA,Q0m,go_sem])
   all_goals clear n5 n6 dg tl h1 h2 h3 w6 f3 f4 f7 f64 g1 g2 g3 g4 f1
   all_goals simp_all
 by_cases k3:e.kind=3
 · have er:r=(b3&&(b4&&(b6&&b7))):=by rw[er];rw[if_neg (by omega)];rw[if_pos (by omega)]
   rw[er]
   clear er
   have q1:(e.kind==1)=false:=by rw[k3];rfl
   have q2:(e.kind==2)=false:=by rw[k3];rfl
   have q3:(e.kind==3)=true:=by rw[k3];rfl
   (refine Q0t Tryz.func70 rfl (by rfl) ?_;simp only[Tryz.ntmps70,List.length_cons,List.length_nil,Nat.reduceAdd,Nat.reduceSub,List.replicate,List.cons_append,List.nil_append])
   (have W:=ndI h1 (ndI h2 (ndI h3 (ndI f3 (ndI f4 (ndI f7 (ndI q1 (ndI q2 q3)))))));(repeat(any_goals(first|((with_reducible refine Q0b ?_ ?_);rfl;intro K hK;simp only[go_sem,W];((repeat(refine ndI (by first|assumption) ?_));refine hK _ ?_;clear hK K))|(with_reducible first|(refine Q0c ?_;refine hR _ ?_;clear hR R)|((first|refine Q0e ?_|refine Q0f ?_);intro J hJ hJ')|(refine Q0a ?_;intro R hR)|(refine hJ _ ?_;clear hJ hJ' J)|refine Q0h ?_|refine Q0j ?_)|((with_reducible refine hJ' _ _ ?_ ?_);(focus(simp;done));clear hJ hJ' J)|((with_reducible apply Q0p);rfl;rfl;rfl;all_goals(intro hb;first|(cases hb;done)|((try simp only[Bool.not_true,Bool.not_false] at hb);(first|((with_reducible intro K hK);(first|((apply Q0i (n6);rfl;rfl;rfl;rfl;exact Tryz.func113);kernel_rfl;rfl;(focus((simp only[go_sem,W]);(try rfl);done));(first|rfl))|skip);simp only[go_sem,W];((repeat(refine ndI (by first|assumption) ?_));refine hK _ ?_;clear hK K))|((fail_if_success (with_reducible intro _));simp only[go_sem,W])))))|((with_reducible apply Q0d);rfl;rfl;all_goals(intro hc;first|(cases hc;done)|(try simp only at hc)))))))
   all_goals(refine⟨by simp,⟨_,?_,AV.le_refl _⟩,Q0g (by simp[leH,hget])⟩;simp only[Tryz.results70,resL,ldA,Q0m,go_sem])
   all_goals clear n5 n6 dg tl h1 h2 h3 w6 f3 f4 f7 f64 g1 g2 g3 g4 f1
   all_goals simp_all
 by_cases k4:e.kind=4
 · have er:r=((o1||o2||o3||o4)&&b1&&b5):=by rw[er];rw[if_neg (by omega)];rw[if_neg (by omega)];rw[if_pos (by omega)]
   rw[er]
   clear er
   have q1:(e.kind==1)=false:=by rw[k4];rfl
   have q2:(e.kind==2)=false:=by rw[k4];rfl
   have q3:(e.kind==3)=false:=by rw[k4];rfl
   have q4:(e.kind==4)=true:=by rw[k4];rfl
   (refine Q0t Tryz.func70 rfl (by rfl) ?_;simp only[Tryz.ntmps70,List.length_cons,List.length_nil,Nat.reduceAdd,Nat.reduceSub,List.replicate,List.cons_append,List.nil_append])
   (have W:=ndI h1 (ndI h2 (ndI h3 (ndI g1 (ndI g2 (ndI g3 (ndI g4 (ndI f1 (ndI q1 (ndI q2 (ndI q3 q4))))))))));(repeat(any_goals(first|((with_reducible refine Q0b ?_ ?_);rfl;intro K hK;simp only[go_sem,W];((repeat(refine ndI (by first|assumption) ?_));refine hK _ ?_;clear hK K))|(with_reducible first|(refine Q0c ?_;refine hR _ ?_;clear hR R)|((first|refine Q0e ?_|refine Q0f ?_);intro J hJ hJ')|(refine Q0a ?_;intro R hR)|(refine hJ _ ?_;clear hJ hJ' J)|refine Q0h ?_|refine Q0j ?_)|((with_reducible refine hJ' _ _ ?_ ?_);(focus(simp;done));clear hJ hJ' J)|((with_reducible apply Q0p);rfl;rfl;rfl;all_goals(intro hb;first|(cases hb;done)|((try simp only[Bool.not_true,Bool.not_false] at hb);(first|((with_reducible intro K hK);(first|((apply Q0i (n5);rfl;rfl;rfl;rfl;exact Tryz.func113);kernel_rfl;rfl;(focus((simp only[go_sem,W]);(try rfl);done));(first|rfl))|skip);simp only[go_sem,W];((repeat(refine ndI (by first|assumption) ?_));refine hK _ ?_;clear hK K))|((fail_if_success (with_reducible intro _));simp only[go_sem,W])))))|((with_reducible apply Q0d);rfl;rfl;all_goals(intro hc;first|(cases hc;done)|(try simp only at hc)))))))
   all_goals(refine⟨by simp,⟨_,?_,AV.le_refl _⟩,Q0g (by simp[leH,hget])⟩;simp only[Tryz.results70,resL,ldA,Q0m,go_sem])
   all_goals clear n5 n6 dg tl h1 h2 h3 w6 f3 f4 f7 f64 g1 g2 g3 g4 f1
   all_goals simp_all
 by_cases k5:e.kind=5
 · have er:r=(bt&&(b3&&(b5&&(b6&&b7)))):=by rw[er];rw[if_neg (by omega)];rw[if_neg (by omega)];rw[if_neg (by omega)];rw[if_pos (by omega)]
   rw[er]
   clear er
   have q1:(e.kind==1)=false:=by rw[k5];rfl
   have q2:(e.kind==2)=false:=by rw[k5];rfl
   have q3:(e.kind==3)=false:=by rw[k5];rfl
   have q4:(e.kind==4)=false:=by rw[k5];rfl
   have q5:(e.kind==5)=true:=by rw[k5];rfl
   (refine Q0t Tryz.func70 rfl (by rfl) ?_;simp only[Tryz.ntmps70,List.length_cons,List.length_nil,Nat.reduceAdd,Nat.reduceSub,List.replicate,List.cons_append,List.nil_append])
   (have W:=ndI h1 (ndI h2 (ndI h3 (ndI f3 (ndI f7 (ndI q1 (ndI q2 (ndI q3 (ndI q4 q5))))))));(repeat(any_goals(first|((with_reducible refine Q0l ?_ ?_ ?_);rfl;rfl;intro K hK;(first|((first|(apply Q0i (tl);rfl;rfl;rfl;rfl;exact Tryz.func114));kernel_rfl;rfl;(focus((simp only[go_sem,W]);(try rfl);done));(first|rfl)));(simp only[go_sem,W];refine hK _ ?_;clear hK K))|((with_reducible refine Q0b ?_ ?_);rfl;intro K hK;simp only[go_sem,W];((repeat(refine ndI (by first|assumption) ?_));refine hK _ ?_;clear hK K))|(with_reducible first|(refine Q0c ?_;refine hR _ ?_;clear hR R)|((first|refine Q0e ?_|refine Q0f ?_);intro J hJ hJ')|(refine Q0a ?_;intro R hR)|(refine hJ _ ?_;clear hJ hJ' J)|refine Q0h ?_|refine Q0j ?_)|((with_reducible refine hJ' _ _ ?_ ?_);(focus(simp;done));clear hJ hJ' J)|((with_reducible apply Q0p);rfl;rfl;rfl;all_goals(intro hb;first|(cases hb;done)|((try simp only[Bool.not_true,Bool.not_false] at hb);(first|((with_reducible intro K hK);(first|((apply Q0i (n5);rfl;rfl;rfl;rfl;exact Tryz.func113);kernel_rfl;rfl;(focus((simp only[go_sem,W]);(try rfl);done));(first|rfl))|((apply Q0i (n6);rfl;rfl;rfl;rfl;exact Tryz.func113);kernel_rfl;rfl;(focus((simp only[go_sem,W]);(try rfl);done));(first|rfl))|skip);simp only[go_sem,W];((repeat(refine ndI (by first|assumption) ?_));refine hK _ ?_;clear hK K))|((fail_if_success (with_reducible intro _));simp only[go_sem,W])))))|((with_reducible apply Q0d);rfl;rfl;all_goals(intro hc;first|(cases hc;done)|(try simp only at hc)))))))
   all_goals(refine⟨by simp,⟨_,?_,AV.le_refl _⟩,Q0g (by simp[leH,hget])⟩;simp only[Tryz.results70,resL,ldA,Q0m,go_sem])
   all_goals clear n5 n6 dg tl h1 h2 h3 w6 f3 f4 f7 f64 g1 g2 g3 g4 f1
   all_goals simp_all
 by_cases k6:e.kind=6
 · have er:r=(b3&&(b5&&(b6&&b7))):=by rw[er];rw[if_neg (by omega)];rw[if_neg (by omega)];rw[if_neg (by omega)];rw[if_neg (by omega)];rw[if_pos (by omega)]
   rw[er]
   clear er
   have q1:(e.kind==1)=false:=by rw[k6];rfl
   have q2:(e.kind==2)=false:=by rw[k6];rfl
   have q3:(e.kind==3)=false:=by rw[k6];rfl
   have q4:(e.kind==4)=false:=by rw[k6];rfl
   have q5:(e.kind==5)=false:=by rw[k6];rfl
   have q6:(e.kind==6)=true:=by rw[k6];rfl
   (refine Q0t Tryz.func70 rfl (by rfl) ?_;simp only[Tryz.ntmps70,List.length_cons,List.length_nil,Nat.reduceAdd,Nat.reduceSub,List.replicate,List.cons_append,List.nil_append])
   (have W:=ndI h1 (ndI h2 (ndI h3 (ndI f3 (ndI f7 (ndI q1 (ndI q2 (ndI q3 (ndI q4 (ndI q5 q6)))))))));(repeat(any_goals(first|((with_reducible refine Q0b ?_ ?_);rfl;intro K hK;simp only[go_sem,W];((repeat(refine ndI (by first|assumption) ?_));refine hK _ ?_;clear hK K))|(with_reducible first|(refine Q0c ?_;refine hR _ ?_;clear hR R)|((first|refine Q0e ?_|refine Q0f ?_);intro J hJ hJ')|(refine Q0a ?_;intro R hR)|(refine hJ _ ?_;clear hJ hJ' J)|refine Q0h ?_|refine Q0j ?_)|((with_reducible refine hJ' _ _ ?_ ?_);(focus(simp;done));clear hJ hJ' J)|((with_reducible apply Q0p);rfl;rfl;rfl;all_goals(intro hb;first|(cases hb;done)|((try simp only[Bool.not_true,Bool.not_false] at hb);(first|((with_reducible intro K hK);(first|((apply Q0i (n5);rfl;rfl;rfl;rfl;exact Tryz.func113);kernel_rfl;rfl;(focus((simp only[go_sem,W]);(try rfl);done));(first|rfl))|((apply Q0i (n6);rfl;rfl;rfl;rfl;exact Tryz.func113);kernel_rfl;rfl;(focus((simp only[go_sem,W]);(try rfl);done));(first|rfl))|skip);simp only[go_sem,W];((repeat(refine ndI (by first|assumption) ?_));refine hK _ ?_;clear hK K))|((fail_if_success (with_reducible intro _));simp only[go_sem,W])))))|((with_reducible apply Q0d);rfl;rfl;all_goals(intro hc;first|(cases hc;done)|(try simp only at hc)))))))
   all_goals(refine⟨by simp,⟨_,?_,AV.le_refl _⟩,Q0g (by simp[leH,hget])⟩;simp only[Tryz.results70,resL,ldA,Q0m,go_sem])
   all_goals clear n5 n6 dg tl h1 h2 h3 w6 f3 f4 f7 f64 g1 g2 g3 g4 f1
   all_goals simp_all
 have er:r=false:=by rw[er,if_neg k1,if_neg (by omega),if_neg k4,if_neg k5,if_neg k6]
 rw[er]
 have q1:(e.kind==1)=false:=by simpa using k1
 have q2:(e.kind==2)=false:=by simpa using k2
 have q3:(e.kind==3)=false:=by simpa using k3
 have q4:(e.kind==4)=false:=by simpa using k4
 have q5:(e.kind==5)=false:=by simpa using k5
 have q6:(e.kind==6)=false:=by simpa using k6
 (refine Q0t Tryz.func70 rfl (by rfl) ?_;simp only[Tryz.ntmps70,List.length_cons,List.length_nil,Nat.reduceAdd,Nat.reduceSub,List.replicate,List.cons_append,List.nil_append])
 (have W:=ndI h1 (ndI h2 (ndI h3 (ndI q1 (ndI q2 (ndI q3 (ndI q4 (ndI q5 q6)))))));(repeat(any_goals(first|((with_reducible refine Q0b ?_ ?_);rfl;intro K hK;simp only[go_sem,W];((repeat(refine ndI (by first|assumption) ?_));refine hK _ ?_;clear hK K))|(with_reducible first|(refine Q0c ?_;refine hR _ ?_;clear hR R)|((first|refine Q0e ?_|refine Q0f ?_);intro J hJ hJ')|(refine Q0a ?_;intro R hR)|(refine hJ _ ?_;clear hJ hJ' J)|refine Q0h ?_|refine Q0j ?_)|((with_reducible refine hJ' _ _ ?_ ?_);(focus(simp;done));clear hJ hJ' J)|((with_reducible apply Q0p);rfl;rfl;rfl;all_goals(intro hb;first|(cases hb;done)|((try simp only[Bool.not_true,Bool.not_false] at hb);(first|((with_reducible intro K hK);simp only[go_sem,W];((repeat(refine ndI (by first|assumption) ?_));refine hK _ ?_;clear hK K))))))|((with_reducible apply Q0d);rfl;rfl;all_goals(intro hc;first|(cases hc;done)|(try simp only at hc)))))))
 all_goals(refine⟨by simp,⟨_,?_,AV.le_refl _⟩,Q0g (by simp[leH,hget])⟩;simp only[Tryz.results70,resL,ldA,Q0m,go_sem])
end
section
open Go.RowKit
open Nat (reduceBEq)
attribute [-go_sem] IntKind.bits
set_option maxRecDepth 20000
set_option maxHeartbeats 4000000
theorem X6a(e:Ev)(he:e.ok):Fn Tryz.prog 70 [evA e] [] (vb (Q2l e)) []:=by
 by_cases hg:(decide (e.dep<0)||decide (e.dep≥6)||(e.self==0))=true
 · rw[show Q2l e=false by unfold Q2l;rw[hg];rfl]
   exact X9u e _ _ _ rfl rfl rfl hg
 · have hg':(decide (e.dep<0)||decide (e.dep≥6)||(e.self==0))=false:=by simpa using hg
   rw[Bool.or_eq_false_iff,Bool.or_eq_false_iff] at hg'
   exact rright_in e he hg'.1.1 hg'.1.2 hg'.2
theorem rRight_fn(l:List Ev)(hl:l.length≤1000000)(ho:∀e∈l,e.ok):Fn Tryz.prog 39 [evs false l] [] (vb (trB l)) []:=by
 obtain⟨b,hb⟩:∃b,decide (l.length≤2000)=b:=⟨_,rfl⟩
 have k0:decide ((l.length:Int)≤2000)=b:=by rw[←hb];exact decide_eq_decide.2 (by omega)
 obtain⟨r,hr⟩:∃r,l.all Q2l=r:=⟨_,rfl⟩
 have et:trB l=(b&&r):=by unfold trB;rw[hb,hr]
 rw[et]
 clear et hb
 (refine Q0t Tryz.func39 rfl (by rfl) ?_;simp only[Tryz.ntmps39,List.length_cons,List.length_nil,Nat.reduceAdd,Nat.reduceSub,List.replicate,List.cons_append,List.nil_append])
 (repeat(any_goals(first|((with_reducible refine Q0b ?_ ?_);rfl;intro K hK;simp only[go_sem];((repeat(refine ndI (by first|assumption) ?_));refine hK _ ?_;clear hK K))|(with_reducible first|(refine Q0c ?_;refine hR _ ?_;clear hR R)|((first|refine Q0e ?_|refine Q0f ?_);intro J hJ hJ')|(refine Q0a ?_;intro R hR)|(refine hJ _ ?_;clear hJ hJ' J)))))
 refine Q1p (α:={i:Nat // i≤l.length∧(l.drop i).all Q2l=r}) (fun q=>⟨[evs false l,.any,vb false,vi .i64 (q.1:Int),.any,.any,.any,.any,.any,.any,.any,.any,.any,.any,.any,.any,.any,.any,.any],[]⟩) (fun q=>l.length-q.1) ⟨0,Nat.zero_le _,hr⟩ (St.le_of (by simp[leT]) (by simp[leH])) ?_
 rintro ⟨i,hi,hd⟩ J hJ hJ'
 (try dsimp only at hJ ⊢)
 rcases Nat.lt_or_ge i l.length with hlt|hge
 · obtain⟨y,hy⟩:∃y,l[i]? = some y:=⟨_,List.getElem?_eq_getElem hlt⟩
   have k1:(decide ((i:Int)<(l.length:Int)))=true:=by simp;omega
   have k2:=Q8k hy
   have k7:(i:Int)+1=((i+1:Nat):Int):=by omega
   have hdr:l.drop i=y::l.drop (i+1):=by
    rw[List.drop_eq_getElem_cons hlt]
    rw[List.getElem?_eq_getElem hlt] at hy
    rw[Option.some.inj hy]
   have hp1:=X6a y (ho y (List.mem_of_getElem? hy))
   rw[hdr,List.all_cons] at hd
   cases hxy:Q2l y
   · rw[hxy] at hp1 hd
     have hd:r=false:=hd.symm
     (have W:=ndI k1 (ndI k2 (ndI k7 @wrI));(repeat(any_goals(first|((with_reducible refine Q0l ?_ ?_ ?_);rfl;rfl;intro K hK;((apply Q0i (hp1);rfl;rfl;rfl;rfl;exact Tryz.func70);kernel_rfl;rfl;(focus((simp(disch:=omega) only[go_sem,W,Nat.mul_one]);(try rfl);done));(first|rfl));(simp(disch:=omega) only[go_sem,W,Nat.mul_one];refine hK _ ?_;clear hK K))|((with_reducible refine Q0b ?_ ?_);rfl;intro K hK;simp(disch:=omega) only[go_sem,W,Nat.mul_one];((repeat(refine ndI (by first|assumption|omega|rfl) ?_));refine hK _ ?_;clear hK K))|(with_reducible first|(refine Q0c ?_;refine hR _ ?_;clear hR R)|((first|refine Q0e ?_|refine Q0f ?_);intro J hJ hJ')|(refine Q0a ?_;intro R hR)|(refine hJ _ ?_;clear hJ hJ' J)|refine Q0h ?_|refine Q0j ?_)|((with_reducible refine hJ' _ _ ?_ ?_);(focus(simp;done));clear hJ hJ' J)|((with_reducible apply Q0d);rfl;rfl;all_goals(intro hc;first|(cases hc;done)|(try simp only at hc)))))))
     all_goals rw[hd,Bool.and_false]
     all_goals(refine⟨by simp,⟨_,?_,AV.le_refl _⟩,Q0g (by simp[leH,hget])⟩;simp only[Tryz.results39,resL,ldA,Q0m,go_sem])
   · rw[hxy,Bool.true_and] at hd
     rw[hxy] at hp1
     have hJ1:=fun σ'=>hJ σ' ⟨i+1,hlt,hd⟩ (by dsimp only;omega)
     dsimp only at hJ1
     (have W:=ndI k1 (ndI k2 (ndI k7 @wrI));(repeat(any_goals(first|((with_reducible refine Q0l ?_ ?_ ?_);rfl;rfl;intro K hK;((apply Q0i (hp1);rfl;rfl;rfl;rfl;exact Tryz.func70);kernel_rfl;rfl;(focus((simp(disch:=omega) only[go_sem,W,Nat.mul_one]);(try rfl);done));(first|rfl));(simp(disch:=omega) only[go_sem,W,Nat.mul_one];refine hK _ ?_;clear hK K))|((with_reducible refine Q0b ?_ ?_);rfl;intro K hK;simp(disch:=omega) only[go_sem,W,Nat.mul_one];((repeat(refine ndI (by first|assumption|omega|rfl) ?_));refine hK _ ?_;clear hK K))|(with_reducible first|(refine Q0c ?_;refine hR _ ?_;clear hR R)|((first|refine Q0e ?_|refine Q0f ?_);intro J hJ hJ')|(refine Q0a ?_;intro R hR)|(refine hJ _ ?_;clear hJ hJ' J)|refine Q0h ?_)|((with_reducible refine hJ' _ _ ?_ ?_);(focus(simp;done));clear hJ hJ' J)|((with_reducible apply Q0d);rfl;rfl;all_goals(intro hc;first|(cases hc;done)|(try simp only at hc)))))))
     all_goals exact hJ1 _ (St.le_of (by simp[leT]) (by simp[leH]))
 · have k1:(decide ((i:Int)<(l.length:Int)))=false:=by simp;omega
   rw[List.drop_eq_nil_of_le hge] at hd
   have hd:r=true:=hd.symm
   (repeat(any_goals(first|((with_reducible refine Q0b ?_ ?_);rfl;intro K hK;simp only[go_sem,k1,k0];((repeat(refine ndI (by first|assumption) ?_));refine hK _ ?_;clear hK K))|(with_reducible first|(refine Q0c ?_;refine hR _ ?_;clear hR R)|((first|refine Q0e ?_);intro J hJ hJ')|(refine Q0a ?_;intro R hR)|(refine hJ _ ?_;clear hJ hJ' J)|refine Q0j ?_|refine Q0q ?_)|((with_reducible refine hJ' _ _ ?_ ?_);(focus(simp;done));clear hJ hJ' J)|((with_reducible apply Q0d);rfl;rfl;all_goals(intro hc;first|(cases hc;done)|(try simp only at hc))))))
   all_goals rw[hd,Bool.and_true]
   all_goals(refine⟨by simp,⟨_,?_,AV.le_refl _⟩,Q0g (by simp[leH,hget])⟩;simp only[Tryz.results39,resL,ldA,Q0m,go_sem])
theorem rsev_fnE(k d s t o a0 a1 a2 a3 v0 v1 v2 v3 k' d' s' t' o' a0' a1' a2' a3' v0' v1' v2' v3':Int)(x y:List Nat)(hl:x.length≤1000000)(b1 b2 b3 b4 b5 b6 b7:Bool)(h1:(k==k')=b1)(h2:(d==d')=b2)(h3:(s==s')=b3)(h4:(t==t')=b4)(h5:(o==o')=b5)
 (h6:(a0==a0'&&(a1==a1'&&(a2==a2'&&a3==a3')))=b6) (h7:(v0==v0'&&(v1==v1'&&(v2==v2'&&v3==v3')))=b7) :
 Fn Tryz.prog 92 [.agg (c14 k d s t o a0 a1 a2 a3 v0 v1 v2 v3 (bsl false x)),.agg (c14 k' d' s' t' o' a0' a1' a2' a3' v0' v1' v2' v3' (bsl false y))] [] (vb (decide (x=y)&&(b1&&(b2&&(b3&&(b4&&(b5&&(b6&&b7)))))))) []:=by
 by_cases hlen:x.length=y.length
 · have k0:((x.length:Int) != (y.length:Int))=false:=by rw[hlen];simp
   obtain⟨r,hr⟩:∃r,decide (x=y)=r:=⟨_,rfl⟩
   obtain⟨f,hf⟩:∃f,(r&&(b1&&(b2&&(b3&&(b4&&(b5&&(b6&&b7)))))))=f:=⟨_,rfl⟩
   rw[hr,hf]
   (refine Q0t Tryz.func92 rfl (by rfl) ?_;simp only[Tryz.ntmps92,List.length_cons,List.length_nil,Nat.reduceAdd,Nat.reduceSub,List.replicate,List.cons_append,List.nil_append])
   (repeat(any_goals(first|((with_reducible refine Q0b ?_ ?_);rfl;intro K hK;simp only[go_sem,k0];((repeat(refine ndI (by first|assumption) ?_));refine hK _ ?_;clear hK K))|(with_reducible first|(refine Q0c ?_;refine hR _ ?_;clear hR R)|((first|refine Q0e ?_|refine Q0f ?_);intro J hJ hJ')|(refine Q0a ?_;intro R hR)|(refine hJ _ ?_;clear hJ hJ' J)|refine Q0h ?_)|((with_reducible apply Q0d);rfl;rfl;all_goals(intro hc;first|(cases hc;done)|(try simp only at hc))))))
   refine Q1p (α:={i:Nat // i≤x.length∧∀j,j<i→x[j]? = y[j]?}) (fun p=>⟨[.any,.any,.ptr 2 0,.ptr 3 0,vb false,vi .i64 (p.1:Int),.any,.any,.any,.any,.any,.any,.any,.any,.any,.any,.any,.any,.any,.any,.any,.any,.any,.any,.any,.any,.any,.any,.any,.any,.any,.any,.any,.any,.any,.any,.any,.any,.any,.any,.any,.any,.any,.any,.any,.any,.any,.any,.any,.any,.any,.any,.any,.any,.any,.any,.any,.any,.any,.any,.any,.any,.any,.any,.any,.any,.any,.any,.any,.any,.any,.any,.any,.any,.any,.any,.any,.any],[(2,c14 k d s t o a0 a1 a2 a3 v0 v1 v2 v3 (bsl false x)),(3,c14 k' d' s' t' o' a0' a1' a2' a3' v0' v1' v2' v3' (bsl false y))]⟩) (fun p=>x.length-p.1) ⟨0,Nat.zero_le _,fun j hj=>by omega⟩ (St.le_of (by simp[leT]) (by simp[leH,hget])) ?_
   rintro ⟨i,hi,hno⟩ J hJ hJ'
   (try dsimp only at hi hJ ⊢)
   rcases Nat.lt_or_ge i x.length with hlt|hge
   · have k1:(decide ((i:Int)<(x.length:Int)))=true:=decide_eq_true (by omega)
     have k7:(i:Int)+1=((i+1:Nat):Int):=by omega
     obtain⟨p,hx⟩:∃p,x[i]? = some p:=⟨_,List.getElem?_eq_getElem hlt⟩
     obtain⟨q,hy⟩:∃q,y[i]? = some q:=⟨_,List.getElem?_eq_getElem (by omega)⟩
     have hly:i<y.length:=by omega
     have k2:=Q7x hx
     have k3:=Q7x hy
     by_cases hxy:p=q
     · have k4:((p:Int) != (q:Int))=false:=by rw[hxy];simp
       clear h1 h2 h3 h4 h5 h6 h7
       (have W:=ndI k1 (ndI k2 (ndI k3 (ndI k4 (ndI k7 @wrI))));(repeat(any_goals(first|((with_reducible refine Q0b ?_ ?_);rfl;intro K hK;simp(disch:=omega) only[go_sem,W,Nat.mul_one];((repeat(refine ndI (by first|assumption|rfl) ?_));refine hK _ ?_;clear hK K))|(with_reducible first|(refine Q0c ?_;refine hR _ ?_;clear hR R)|((first|refine Q0e ?_|refine Q0f ?_);intro J hJ hJ')|(refine Q0a ?_;intro R hR)|(refine hJ _ ?_;clear hJ hJ' J)|refine Q0h ?_)|((with_reducible refine hJ' _ _ ?_ ?_);(focus(simp;done));clear hJ hJ' J)|((with_reducible apply Q0d);rfl;rfl;all_goals(intro hc;first|(cases hc;done)|(try simp only at hc)))|((with_reducible refine Q0z ?_ ?_);kernel_rfl;(with_reducible refine hR _ ?_);clear hR R)|(((with_reducible apply Q0x);rfl;rfl;(simp(disch:=omega) only[rdE,rdOf,go_sem,W,Nat.mul_one];rfl);(intro τ hA hQ hN;((try simp only[Q1i,Op.operands,Call.operands,go_sem,W,Nat.mul_one,go_sem,List.mem_cons,List.not_mem_nil,forall_eq_or_imp,forall_eq,List.append_toArray,Option.toArray] at hA);(try simp only[go_sem,W,Nat.mul_one,List.mem_cons,List.not_mem_nil,forall_eq_or_imp,forall_eq] at hQ hN);(first|(revert hA;intro hA));(first|(revert hQ;intro hQ));(first|(revert hN;intro hN));simp(disch:=omega) only[go_sem,W,Nat.mul_one,go_sem,hA,hQ,hN];(repeat(refine ndI (by first|assumption|omega|rfl) ?_));(first|apply Q1b))));(simp(disch:=omega) only[St.eff,setO,Q0u,go_sem,W,Nat.mul_one]))|((with_reducible refine Q0w ?_ ?_ ?_ ?_);kernel_rfl;kernel_rfl;(first|kernel_rfl);intro R hR)))))
       all_goals exact hJ _ ⟨i+1,hlt,fun j hj=>by
        rcases Nat.lt_or_ge j i with h'|h'
        · exact hno j h'
        · obtain rfl:j=i:=by omega
          rw[hx,hy,hxy]⟩ (by simp only;omega) (St.le_of (by simp[leT]) (by simp[leH,hget]))
     · have k4:((p:Int) != (q:Int))=true:=by rw[bne_iff_ne];omega
       have hrf:r=false:=by
        rw[←hr,decide_eq_false_iff_not]
        intro e;rw[e,hy] at hx;cases hx;exact hxy rfl
       have hff:f=false:=by rw[←hf,hrf,Bool.false_and]
       clear h1 h2 h3 h4 h5 h6 h7
       (have W:=ndI k1 (ndI k2 (ndI k3 (ndI k4 (ndI k7 @wrI))));(repeat(any_goals(first|((with_reducible refine Q0b ?_ ?_);rfl;intro K hK;simp(disch:=omega) only[go_sem,W,Nat.mul_one];((repeat(refine ndI (by first|assumption|rfl) ?_));refine hK _ ?_;clear hK K))|(with_reducible first|(refine Q0c ?_;refine hR _ ?_;clear hR R)|((first|refine Q0e ?_|refine Q0f ?_);intro J hJ hJ')|(refine Q0a ?_;intro R hR)|(refine hJ _ ?_;clear hJ hJ' J)|refine Q0h ?_|refine Q0j ?_)|((with_reducible refine hJ' _ _ ?_ ?_);(focus(simp;done));clear hJ hJ' J)|((with_reducible apply Q0d);rfl;rfl;all_goals(intro hc;first|(cases hc;done)|(try simp only at hc)))|((with_reducible refine Q0z ?_ ?_);kernel_rfl;(with_reducible refine hR _ ?_);clear hR R)|(((with_reducible apply Q0x);rfl;rfl;(simp(disch:=omega) only[rdE,rdOf,go_sem,W,Nat.mul_one];rfl);(intro τ hA hQ hN;((try simp only[Q1i,Op.operands,Call.operands,go_sem,W,Nat.mul_one,go_sem,List.mem_cons,List.not_mem_nil,forall_eq_or_imp,forall_eq,List.append_toArray,Option.toArray] at hA);(try simp only[go_sem,W,Nat.mul_one,List.mem_cons,List.not_mem_nil,forall_eq_or_imp,forall_eq] at hQ hN);(first|(revert hA;intro hA));(first|(revert hQ;intro hQ));(first|(revert hN;intro hN));simp(disch:=omega) only[go_sem,W,Nat.mul_one,go_sem,hA,hQ,hN];(repeat(refine ndI (by first|assumption|omega|rfl) ?_));(first|apply Q1b))));(simp(disch:=omega) only[St.eff,setO,Q0u,go_sem,W,Nat.mul_one]))|((with_reducible refine Q0w ?_ ?_ ?_ ?_);kernel_rfl;kernel_rfl;(first|kernel_rfl);intro R hR)))))
       all_goals rw[hff]
       all_goals(refine⟨by simp,⟨_,?_,AV.le_refl _⟩,Q0g (by simp[leH,hget])⟩;simp only[Tryz.results92,resL,ldA,Q0m,go_sem])
   · have k1:(decide ((i:Int)<(x.length:Int)))=false:=decide_eq_false (by omega)
     have hrt:r=true:=by
      rw[←hr,decide_eq_true_iff]
      refine List.ext_getElem? fun j=>?_
      rcases Nat.lt_or_ge j x.length with h|h
      · exact hno j (by omega)
      · rw[List.getElem?_eq_none h,List.getElem?_eq_none (by omega)]
     have hff:f=(b1&&(b2&&(b3&&(b4&&(b5&&(b6&&b7)))))):=by rw[←hf,hrt,Bool.true_and]
     clear hr hno hf hrt
     (have W:=ndI k1 (ndI h1 (ndI h2 (ndI h3 (ndI h4 (ndI h5 (ndI h6 h7))))));(repeat(any_goals(first|((with_reducible refine Q0b ?_ ?_);rfl;intro K hK;simp only[go_sem,W];((repeat(refine ndI (by first|assumption) ?_));refine hK _ ?_;clear hK K))|(with_reducible first|(refine Q0c ?_;refine hR _ ?_;clear hR R)|((first|refine Q0e ?_);intro J hJ hJ')|(refine Q0a ?_;intro R hR)|(refine hJ _ ?_;clear hJ hJ' J)|refine Q0j ?_|refine Q0q ?_)|((with_reducible refine hJ' _ _ ?_ ?_);(focus(simp;done));clear hJ hJ' J)|((with_reducible apply Q0p);rfl;rfl;rfl;all_goals(intro hb;first|(cases hb;done)|((try simp only[Bool.not_true,Bool.not_false] at hb);(first|((with_reducible intro K hK);simp only[go_sem,W];((repeat(refine ndI (by first|assumption) ?_));refine hK _ ?_;clear hK K))|((fail_if_success (with_reducible intro _));simp only[go_sem,W])))))|((with_reducible apply Q0d);rfl;rfl;all_goals(intro hc;first|(cases hc;done)|(try simp only at hc)))))))
     all_goals rw[hff]
     all_goals(refine⟨by simp,⟨_,?_,AV.le_refl _⟩,Q0g (by simp[leH,hget])⟩;simp only[Tryz.results92,resL,ldA,Q0m,go_sem])
     all_goals clear k0 k1 hlen hl h1 h2 h3 h4 h5 h6 h7
     all_goals simp_all
 · have k0:((x.length:Int) != (y.length:Int))=true:=by simp;omega
   have he:decide (x=y)=false:=by rw[decide_eq_false_iff_not];intro e;exact hlen (by rw[e])
   rw[he,Bool.false_and]
   clear h1 h2 h3 h4 h5 h6 h7
   (refine Q0t Tryz.func92 rfl (by rfl) ?_;simp only[Tryz.ntmps92,List.length_cons,List.length_nil,Nat.reduceAdd,Nat.reduceSub,List.replicate,List.cons_append,List.nil_append])
   (repeat(any_goals(first|((with_reducible refine Q0b ?_ ?_);rfl;intro K hK;simp only[go_sem,k0];((repeat(refine ndI (by first|assumption) ?_));refine hK _ ?_;clear hK K))|(with_reducible first|(refine Q0c ?_;refine hR _ ?_;clear hR R)|((first|refine Q0e ?_);intro J hJ hJ')|(refine Q0a ?_;intro R hR)|(refine hJ _ ?_;clear hJ hJ' J)|refine Q0j ?_)|((with_reducible refine hJ' _ _ ?_ ?_);(focus(simp;done));clear hJ hJ' J)|((with_reducible apply Q0d);rfl;rfl;all_goals(intro hc;first|(cases hc;done)|(try simp only at hc))))))
   all_goals(refine⟨by simp,⟨_,?_,AV.le_refl _⟩,Q0g (by simp[leH,hget])⟩;simp only[Tryz.results92,resL,ldA,Q0m,go_sem])
theorem rsev_fn(x y:Ev)(hx:x.ok)(hy:y.ok):Fn Tryz.prog 92 [evA x,evA y] [] (vb (decide (x=y))) []:=by
 have h:=rsev_fnE x.kind x.dep x.self x.to (x.op:Int) (l0 x.key) (l1 x.key) (l2 x.key) (l3 x.key) (l0 x.val) (l1 x.val) (l2 x.val) (l3 x.val) y.kind y.dep y.self y.to (y.op:Int) (l0 y.key) (l1 y.key) (l2 y.key) (l3 y.key) (l0 y.val) (l1 y.val) (l2 y.val) (l3 y.val) x.data y.data (Nat.le_trans hx.2.2.1 (by omega)) _ _ _ _ _ _ _ rfl rfl rfl rfl rfl (X5w hx.1 hy.1) (X5w hx.2.1 hy.2.1)
 have e:(decide (x.data=y.data)&&((x.kind==y.kind)&&((x.dep==y.dep)&&((x.self==y.self)&&((x.to==y.to)&&(((x.op:Int)==(y.op:Int))&&(decide (x.key=y.key)&&decide (x.val=y.val))))))))=decide (x=y):=by
  rw[Bool.eq_iff_iff]
  obtain⟨a1,a2,a3,a4,a5,a6,a7,a8⟩:=x
  obtain⟨b1,b2,b3,b4,b5,b6,b7,b8⟩:=y
  simp[and_assoc]
  constructor
  · rintro ⟨g1,g2,g3,g4,g5,g6,g7,g8⟩
    exact⟨g2,g3,g4,g5,by omega,g7,g8,g1⟩
  · rintro ⟨g2,g3,g4,g5,g6,g7,g8,g1⟩
    exact⟨g1,g2,g3,g4,g5,by omega,g7,g8⟩
 rw[e] at h
 exact h
theorem rSame_fn(a b:List Ev)(hl:a.length≤1000000)(ha:∀e∈a,e.ok)(hb:∀e∈b,e.ok):Fn Tryz.prog 59 [evs false a,evs false b] [] (vb (decide (a=b))) []:=by
 by_cases hlen:a.length=b.length
 · have k0:((a.length:Int) != (b.length:Int))=false:=by rw[hlen];simp
   obtain⟨r,hr⟩:∃r,decide (a=b)=r:=⟨_,rfl⟩
   rw[hr]
   (refine Q0t Tryz.func59 rfl (by rfl) ?_;simp only[Tryz.ntmps59,List.length_cons,List.length_nil,Nat.reduceAdd,Nat.reduceSub,List.replicate,List.cons_append,List.nil_append])
   (repeat(any_goals(first|((with_reducible refine Q0b ?_ ?_);rfl;intro K hK;simp only[go_sem,k0];((repeat(refine ndI (by first|assumption) ?_));refine hK _ ?_;clear hK K))|(with_reducible first|(refine Q0c ?_;refine hR _ ?_;clear hR R)|((first|refine Q0e ?_|refine Q0f ?_);intro J hJ hJ')|(refine Q0a ?_;intro R hR)|(refine hJ _ ?_;clear hJ hJ' J)|refine Q0h ?_)|((with_reducible apply Q0d);rfl;rfl;all_goals(intro hc;first|(cases hc;done)|(try simp only at hc))))))
   refine Q1p (α:={i:Nat // i≤a.length∧∀j,j<i→a[j]? = b[j]?}) (fun p=>⟨[evs false a,evs false b,.any,.any,vb false,vi .i64 (p.1:Int),.any,.any,.any,.any,.any,.any,.any,.any,.any,.any,.any,.any,.any,.any,.any,.any,.any,.any,.any,.any,.any],[]⟩) (fun p=>a.length-p.1) ⟨0,Nat.zero_le _,fun j hj=>by omega⟩ (St.le_of (by simp[leT]) (by simp[leH])) ?_
   rintro ⟨i,hi,hno⟩ J hJ hJ'
   (try dsimp only at hi hJ ⊢)
   rcases Nat.lt_or_ge i a.length with hlt|hge
   · have k1:(decide ((i:Int)<(a.length:Int)))=true:=decide_eq_true (by omega)
     have k7:(i:Int)+1=((i+1:Nat):Int):=by omega
     obtain⟨x,hx⟩:∃x,a[i]? = some x:=⟨_,List.getElem?_eq_getElem hlt⟩
     obtain⟨y,hy⟩:∃y,b[i]? = some y:=⟨_,List.getElem?_eq_getElem (by omega)⟩
     have hlb:i<b.length:=by omega
     have k2:=Q8k hx
     have k3:=Q8k hy
     have hp1:=rsev_fn x y (ha x (List.mem_of_getElem? hx)) (hb y (List.mem_of_getElem? hy))
     by_cases hxy:x=y
     · rw[decide_eq_true hxy] at hp1
       have hno1:∀j,j<i+1→a[j]? = b[j]?:=fun j hj=>by
        rcases Nat.lt_or_ge j i with h'|h'
        · exact hno j h'
        · obtain rfl:j=i:=by omega
          rw[hx,hy,hxy]
       have hJ1:=fun σ'=>hJ σ' ⟨i+1,hlt,hno1⟩ (by dsimp only;omega)
       dsimp only at hJ1
       clear hno hno1 hxy
       (have W:=ndI k1 (ndI k2 (ndI k3 (ndI k7 @wrI)));(repeat(any_goals(first|((with_reducible refine Q0b ?_ ?_);rfl;intro K hK;simp(disch:=omega) only[go_sem,W,Nat.mul_one];((repeat(refine ndI (by first|assumption|rfl) ?_));refine hK _ ?_;clear hK K))|(with_reducible first|(refine Q0c ?_;refine hR _ ?_;clear hR R)|((first|refine Q0e ?_|refine Q0f ?_);intro J hJ hJ')|(refine Q0a ?_;intro R hR)|(refine hJ _ ?_;clear hJ hJ' J)|refine Q0h ?_)|((with_reducible refine hJ' _ _ ?_ ?_);(focus(simp;done));clear hJ hJ' J)|((with_reducible apply Q0d);rfl;rfl;all_goals(intro hc;first|(cases hc;done)|(try simp only at hc)))|((with_reducible refine Q0z ?_ ?_);kernel_rfl;(with_reducible refine hR _ ?_);clear hR R)|((first|((with_reducible apply Q1h);rfl;rfl;((apply Q0y (hp1);rfl;rfl;rfl;rfl;exact Tryz.func92);kernel_rfl;rfl;(focus((simp(disch:=omega) only[go_sem,W,Nat.mul_one]);(try rfl);done));(first|rfl)))|((with_reducible apply Q0x);rfl;rfl;(simp(disch:=omega) only[rdE,rdOf,go_sem,W,Nat.mul_one];rfl);(intro τ hA hQ hN;((try simp only[Q1i,Op.operands,Call.operands,go_sem,W,Nat.mul_one,go_sem,List.mem_cons,List.not_mem_nil,forall_eq_or_imp,forall_eq,List.append_toArray,Option.toArray] at hA);(try simp only[go_sem,W,Nat.mul_one,List.mem_cons,List.not_mem_nil,forall_eq_or_imp,forall_eq] at hQ hN);(first|(revert hA;intro hA));(first|(revert hQ;intro hQ));(first|(revert hN;intro hN));simp(disch:=omega) only[go_sem,W,Nat.mul_one,go_sem,hA,hQ,hN];(repeat(refine ndI (by first|assumption|omega|rfl) ?_));(first|apply Q1b)))));(simp(disch:=omega) only[St.eff,setO,Q0u,go_sem,W,Nat.mul_one]))|((with_reducible refine Q0w ?_ ?_ ?_ ?_);kernel_rfl;kernel_rfl;(first|kernel_rfl);intro R hR)))))
       all_goals exact hJ1 _ (St.le_of (by simp[leT]) (by simp[leH]))
     · rw[decide_eq_false hxy] at hp1
       have hrf:r=false:=by
        rw[←hr,decide_eq_false_iff_not]
        intro e;rw[e,hy] at hx;cases hx;exact hxy rfl
       clear hno hr
       (have W:=ndI k1 (ndI k2 (ndI k3 (ndI k7 @wrI)));(repeat(any_goals(first|((with_reducible refine Q0b ?_ ?_);rfl;intro K hK;simp(disch:=omega) only[go_sem,W,Nat.mul_one];((repeat(refine ndI (by first|assumption|rfl) ?_));refine hK _ ?_;clear hK K))|(with_reducible first|(refine Q0c ?_;refine hR _ ?_;clear hR R)|((first|refine Q0e ?_|refine Q0f ?_);intro J hJ hJ')|(refine Q0a ?_;intro R hR)|(refine hJ _ ?_;clear hJ hJ' J)|refine Q0h ?_|refine Q0j ?_)|((with_reducible refine hJ' _ _ ?_ ?_);(focus(simp;done));clear hJ hJ' J)|((with_reducible apply Q0d);rfl;rfl;all_goals(intro hc;first|(cases hc;done)|(try simp only at hc)))|((with_reducible refine Q0z ?_ ?_);kernel_rfl;(with_reducible refine hR _ ?_);clear hR R)|((first|((with_reducible apply Q1h);rfl;rfl;((apply Q0y (hp1);rfl;rfl;rfl;rfl;exact Tryz.func92);kernel_rfl;rfl;(focus((simp(disch:=omega) only[go_sem,W,Nat.mul_one]);(try rfl);done));(first|rfl)))|((with_reducible apply Q0x);rfl;rfl;(simp(disch:=omega) only[rdE,rdOf,go_sem,W,Nat.mul_one];rfl);(intro τ hA hQ hN;((try simp only[Q1i,Op.operands,Call.operands,go_sem,W,Nat.mul_one,go_sem,List.mem_cons,List.not_mem_nil,forall_eq_or_imp,forall_eq,List.append_toArray,Option.toArray] at hA);(try simp only[go_sem,W,Nat.mul_one,List.mem_cons,List.not_mem_nil,forall_eq_or_imp,forall_eq] at hQ hN);(first|(revert hA;intro hA));(first|(revert hQ;intro hQ));(first|(revert hN;intro hN));simp(disch:=omega) only[go_sem,W,Nat.mul_one,go_sem,hA,hQ,hN];(repeat(refine ndI (by first|assumption|omega|rfl) ?_));(first|apply Q1b)))));(simp(disch:=omega) only[St.eff,setO,Q0u,go_sem,W,Nat.mul_one]))|((with_reducible refine Q0w ?_ ?_ ?_ ?_);kernel_rfl;kernel_rfl;(first|kernel_rfl);intro R hR)))))
       all_goals rw[hrf]
       all_goals(refine⟨by simp,⟨_,?_,AV.le_refl _⟩,Q0g (by simp[leH,hget])⟩;simp only[Tryz.results59,resL,ldA,Q0m,go_sem])
   · have k1:(decide ((i:Int)<(a.length:Int)))=false:=decide_eq_false (by omega)
     have hrt:r=true:=by
      rw[←hr,decide_eq_true_iff]
      refine List.ext_getElem? fun j=>?_
      rcases Nat.lt_or_ge j a.length with h|h
      · exact hno j (by omega)
      · rw[List.getElem?_eq_none h,List.getElem?_eq_none (by omega)]
     clear hr hno
     (repeat(any_goals(first|((with_reducible refine Q0b ?_ ?_);rfl;intro K hK;simp only[go_sem,k1];((repeat(refine ndI (by first|assumption) ?_));refine hK _ ?_;clear hK K))|(with_reducible first|(refine Q0c ?_;refine hR _ ?_;clear hR R)|((first|refine Q0e ?_);intro J hJ hJ')|(refine Q0a ?_;intro R hR)|(refine hJ _ ?_;clear hJ hJ' J)|refine Q0j ?_|refine Q0q ?_)|((with_reducible refine hJ' _ _ ?_ ?_);(focus(simp;done));clear hJ hJ' J)|((with_reducible apply Q0d);rfl;rfl;all_goals(intro hc;first|(cases hc;done)|(try simp only at hc))))))
     all_goals rw[hrt]
     all_goals(refine⟨by simp,⟨_,?_,AV.le_refl _⟩,Q0g (by simp[leH,hget])⟩;simp only[Tryz.results59,resL,ldA,Q0m,go_sem])
 · have k0:((a.length:Int) != (b.length:Int))=true:=by simp;omega
   have he:decide (a=b)=false:=by rw[decide_eq_false_iff_not];intro e;exact hlen (by rw[e])
   rw[he]
   (refine Q0t Tryz.func59 rfl (by rfl) ?_;simp only[Tryz.ntmps59,List.length_cons,List.length_nil,Nat.reduceAdd,Nat.reduceSub,List.replicate,List.cons_append,List.nil_append])
   (repeat(any_goals(first|((with_reducible refine Q0b ?_ ?_);rfl;intro K hK;simp only[go_sem,k0];((repeat(refine ndI (by first|assumption) ?_));refine hK _ ?_;clear hK K))|(with_reducible first|(refine Q0c ?_;refine hR _ ?_;clear hR R)|((first|refine Q0e ?_);intro J hJ hJ')|(refine Q0a ?_;intro R hR)|(refine hJ _ ?_;clear hJ hJ' J)|refine Q0j ?_)|((with_reducible refine hJ' _ _ ?_ ?_);(focus(simp;done));clear hJ hJ' J)|((with_reducible apply Q0d);rfl;rfl;all_goals(intro hc;first|(cases hc;done)|(try simp only at hc))))))
   all_goals(refine⟨by simp,⟨_,?_,AV.le_refl _⟩,Q0g (by simp[leH,hget])⟩;simp only[Tryz.results59,resL,ldA,Q0m,go_sem])
end
section
open Go.RowKit
theorem X4w(y:Int)(l:List Int)(x:Int):insD (y::l) x=if y<x then y::insD l x else if y=x then y::l else x::y::l:=by
 by_cases h:y<x
 · rw[if_pos h]
   unfold insD
   have e:posD (y::l) x=posD l x+1:=by show(if y<x then _ else _)=_;rw[if_pos h]
   rw[e,List.getElem?_cons_succ]
   split<;>simp
 · rw[if_neg h]
   unfold insD
   have e:posD (y::l) x=0:=by show(if y<x then _ else _)=_;rw[if_neg h]
   rw[e,List.getElem?_cons_zero]
   by_cases h2:y=x
   · rw[if_pos (by rw[h2]),if_pos h2]
   · rw[if_neg (fun e=>h2 (Option.some.inj e)),if_neg h2]
     rfl
theorem X2k:∀(l:List Int) (x z:Int),z∈insD l x↔z=x∨z∈l
 |[],x,z=>by simp[insD,posD]
 |y::l,x,z=>by
  have ih:=X2k l x z
  rw[X4w]
  split
  · rw[List.mem_cons,List.mem_cons,ih]
    constructor
    · rintro (h|h|h)
      · exact .inr (.inl h)
      · exact .inl h
      · exact .inr (.inr h)
    · rintro (h|h|h)
      · exact .inr (.inl h)
      · exact .inl h
      · exact .inr (.inr h)
  · split
    · rename_i h
      rw[List.mem_cons,h]
      constructor
      · exact .inr
      · rintro (h|h)
        · exact .inl h
        · exact h
    · rw[List.mem_cons]
theorem insD_lt:∀(l:List Int) (x:Int),l.Pairwise (· < ·)→(insD l x).Pairwise (· < ·)
 |[],x,_=>by simp[insD,posD]
 |y::l,x,h=>by
  rw[List.pairwise_cons] at h
  have ih:=insD_lt l x h.2
  rw[X4w]
  split
  · rename_i hyx
    rw[List.pairwise_cons]
    refine⟨fun z hz=>?_,ih⟩
    rcases(X2k l x z).1 hz with rfl|hz
    · exact hyx
    · exact h.1 z hz
  · split
    · exact List.pairwise_cons.2 h
    · rw[List.pairwise_cons]
      refine⟨fun z hz=>?_,List.pairwise_cons.2 h⟩
      rcases List.mem_cons.1 hz with rfl|hz
      · omega
      · have:=h.1 z hz;omega
theorem X7v(l:List Int):∀i,i≤l.length→(resD l i).Pairwise (· < ·)∧∀x,x∈resD l i↔x∈l.take i
 |0,_=>by simp[resD]
 |i+1,h=>by
  obtain⟨h1,h2⟩:=X7v l i (by omega)
  have hb:l[i]? = some (l[i]'(by omega)):=List.getElem?_eq_getElem (by omega)
  have e:resD l (i+1)=insD (resD l i) (l[i]'(by omega)):=by
   show(match l[i]? with|none=>_|some x=>_)=_
   rw[hb]
  rw[e]
  refine⟨insD_lt _ _ h1,fun x=>?_⟩
  rw[X2k,h2,List.take_add_one,hb,List.mem_append,or_comm]
  simp
end
section
open Go.RowKit
open Nat (reduceBEq)
attribute [-go_sem] IntKind.bits
set_option maxRecDepth 20000
set_option maxHeartbeats 4000000
def rphs(s:Int):List Ph→Int→Bool→Bool
 |[],_,sd=>sd
 |p::l,last,sd=>!(decide (p.role≤last)||(decide (p.role>3)||((p.who==0) || !trB p.tr)))&&rphs s l p.role (if (p.role==2)=true then(p.who==s) else sd)
theorem Q9h(s:Int):∀(l:List Ph) (last:Int) (sd:Bool),2≤last→rphs s l last sd=(phsB s l last&&sd)
 |[],_,_,_=>by simp[rphs,phsB]
 |p::l,last,sd,h=>by
  unfold rphs phsB phB
  by_cases hr:p.role≤last
  · rw[decide_eq_true hr];simp
  · have e2:(p.role==2)=false:=by rw[beq_eq_false_iff_ne];omega
    rw[e2,if_neg (by simp),Q9h s l p.role sd (by omega)]
    simp[Bool.and_assoc]
theorem X0u(s:Int):∀(l:List Ph) (last:Int),last<2→rphs s l last false=(phsB s l last&&l.any fun p=>p.role==2)
 |[],_,_=>by simp[rphs,phsB]
 |p::l,last,h=>by
  unfold rphs phsB phB
  by_cases e:p.role=2
  · have e2:(p.role==2)=true:=by rw[e];rfl
    rw[e2,if_pos rfl,Q9h s l p.role _ (by omega),List.any_cons,e2]
    have:(p.who != s) = !(p.who==s):=rfl
    rw[this]
    cases (p.who==s)<;>simp
  · have e2:(p.role==2)=false:=by rw[beq_eq_false_iff_ne];exact e
    rw[e2,if_neg (by simp),List.any_cons,e2]
    by_cases hl:p.role<2
    · rw[X0u s l p.role hl];simp[Bool.and_assoc]
    · rw[Q9h s l p.role _ (by omega)]
      have hn:∀(l:List Ph) (last:Int),2<last→(phsB s l last&&l.any fun p=>p.role==2)=false:=by
       intro l
       induction l with
       |nil=>intro last _;simp
       |cons q l ih=>
        intro last hla
        unfold phsB phB
        by_cases hq:q.role≤last
        · rw[decide_eq_true hq];simp
        · have e3:(q.role==2)=false:=by rw[beq_eq_false_iff_ne];omega
          rw[List.any_cons,e3,Bool.false_or,Bool.and_assoc,ih q.role (by omega),Bool.and_false]
      rw[Bool.and_false,Bool.and_false,Bool.false_or,Bool.and_assoc,hn l p.role (by omega),Bool.and_false]
theorem X5z(c:Cs)(hc:c.ok):Fn Tryz.prog 10 [csA c] [] (vb (Q2z c)) []:=by
 obtain⟨s,ph,cd⟩:=c
 obtain⟨hs,⟨hpl,hpo⟩,hcl,hco⟩:=hc
 dsimp only at hs hpl hpo hcl hco
 have so:=X9r false cd (by omega)
 have hrl:=X1u cd cd.length
 have he:=X7t false false cd (resD cd cd.length) (by omega) (by omega)
 have hra:=X7v cd cd.length (Nat.le_refl _)
 rw[X4b hra.1 fun x=>by rw[hra.2,List.take_length]] at he
 have e:Q2z ⟨s,ph,cd⟩=(rphs s ph 0 false&&Q9i cd):=by
  rw[X0u s ph 0 (by decide),Bool.and_assoc];rfl
 rw[e]
 generalize resD cd cd.length=r at so he
 generalize Q9i cd=b3 at he ⊢
 clear e hra hrl
 obtain⟨q,hq⟩:∃q,rphs s ph 0 false=q:=⟨_,rfl⟩
 rw[hq]
 (refine Q0t Tryz.func10 rfl (by rfl) ?_;simp only[Tryz.ntmps10,List.length_cons,List.length_nil,Nat.reduceAdd,Nat.reduceSub,List.replicate,List.cons_append,List.nil_append])
 (repeat(any_goals(first|((with_reducible refine Q0b ?_ ?_);rfl;intro K hK;simp only[go_sem];((repeat(refine ndI (by first|assumption) ?_));refine hK _ ?_;clear hK K))|(with_reducible first|(refine Q0c ?_;refine hR _ ?_;clear hR R)|((first|refine Q0e ?_|refine Q0f ?_);intro J hJ hJ')|(refine Q0a ?_;intro R hR)|(refine hJ _ ?_;clear hJ hJ' J)))))
 refine Q1p (α:={p:Nat×Int×Bool // p.1≤ph.length∧rphs s (ph.drop p.1) p.2.1 p.2.2=q}) (fun p=>⟨[.any,.ptr 1 0,vb false,vi .i64 p.1.2.1,vb p.1.2.2,.any,.any,.any,phs false ph,vi .i64 ph.length,vi .i64 (p.1.1:Int),.any,.any,.any,.any,.any,.any,.any,.any,.any,.any,.any,.any,.any,.any,.any,.any,.any,.any,.any,.any,.any,.any,.any,.any,.any,.any,.any,.any,.any,.any,.any,.any,.any,.any,.any,.any,.any,.any,.any,.any,.any,.any,.any],[(1,[vi .u64 s,phs false ph,asl false cd])]⟩) (fun p=>ph.length-p.1.1) ⟨(0,0,false),Nat.zero_le _,hq⟩ (St.le_of (by simp[leT]) (by simp[leH,hget])) ?_
 rintro ⟨⟨i,last,sd⟩,hi,hd⟩ J hJ hJ'
 (try dsimp only at hi hd hJ ⊢)
 rcases Nat.lt_or_ge i ph.length with hlt|hge
 · obtain⟨y,hy⟩:∃y,ph[i]? = some y:=⟨_,List.getElem?_eq_getElem hlt⟩
   have k1:(decide ((i:Int)<(ph.length:Int)))=true:=by simp;omega
   have k2:=Q4x hy
   have k7:(i:Int)+1=((i+1:Nat):Int):=by omega
   have oy:=hpo y (List.mem_of_getElem? hy)
   have ck:=rRight_fn y.tr (by have:=oy.2.1;omega) oy.2.2
   have hdr:ph.drop i=y::ph.drop (i+1):=by
    rw[List.drop_eq_getElem_cons hlt]
    rw[List.getElem?_eq_getElem hlt] at hy
    rw[Option.some.inj hy]
   rw[hdr] at hd
   unfold rphs at hd
   have hJ1:=fun σ' v (h:rphs s (ph.drop (i+1)) y.role v=q)=>hJ σ' ⟨(i+1,y.role,v),hlt,h⟩ (by dsimp only;omega)
   dsimp only at hJ1
   generalize rphs s (ph.drop (i+1)) y.role=g at hd hJ1
   generalize trB y.tr=tb at ck hd
   obtain⟨c1,h1⟩:∃b,decide (y.role≤last)=b:=⟨_,rfl⟩
   obtain⟨c2,h2⟩:∃b,decide (y.role>3)=b:=⟨_,rfl⟩
   obtain⟨c3,h3⟩:∃b,(y.who==0)=b:=⟨_,rfl⟩
   obtain⟨c4,h4⟩:∃b,(y.role==2)=b:=⟨_,rfl⟩
   obtain⟨c5,h5⟩:∃b,(y.who==s)=b:=⟨_,rfl⟩
   rw[h1,h2,h3,h4,h5] at hd
   clear so he hq
   cases c1 with
   |true=>
    have hd:q=false:=hd.symm
    clear hJ1
    (have W:=ndI k1 (ndI k2 (ndI k7 (ndI h1 @wrI)));(repeat(any_goals(first|((with_reducible refine Q0b ?_ ?_);rfl;intro K hK;simp(disch:=omega) only[go_sem,W];((repeat(refine ndI (by first|assumption|omega|rfl) ?_));refine hK _ ?_;clear hK K))|(with_reducible first|(refine Q0c ?_;refine hR _ ?_;clear hR R)|((first|refine Q0e ?_|refine Q0f ?_);intro J hJ hJ')|(refine Q0a ?_;intro R hR)|(refine hJ _ ?_;clear hJ hJ' J)|refine Q0h ?_|refine Q0j ?_)|((with_reducible refine hJ' _ _ ?_ ?_);(focus(simp;done));clear hJ hJ' J)|((with_reducible apply Q0p);rfl;rfl;rfl;all_goals(intro hb;first|(cases hb;done)|((try simp only[Bool.not_true,Bool.not_false] at hb);(first|((fail_if_success (with_reducible intro _));simp(disch:=omega) only[go_sem,W])))))|((with_reducible apply Q0d);rfl;rfl;all_goals(intro hc;first|(cases hc;done)|(try simp only at hc)))))))
    all_goals rw[hd,Bool.false_and]
    all_goals(refine⟨by simp,⟨_,?_,AV.le_refl _⟩,Q0g (by simp[leH,hget])⟩;simp only[Tryz.results10,resL,ldA,Q0m,go_sem])
   |false=>
   cases c2 with
   |true=>
    have hd:q=false:=hd.symm
    clear hJ1
    (have W:=ndI k1 (ndI k2 (ndI k7 (ndI h1 (ndI h2 @wrI))));(repeat(any_goals(first|((with_reducible refine Q0b ?_ ?_);rfl;intro K hK;simp(disch:=omega) only[go_sem,W];((repeat(refine ndI (by first|assumption|omega|rfl) ?_));refine hK _ ?_;clear hK K))|(with_reducible first|(refine Q0c ?_;refine hR _ ?_;clear hR R)|((first|refine Q0e ?_|refine Q0f ?_);intro J hJ hJ')|(refine Q0a ?_;intro R hR)|(refine hJ _ ?_;clear hJ hJ' J)|refine Q0h ?_|refine Q0j ?_)|((with_reducible refine hJ' _ _ ?_ ?_);(focus(simp;done));clear hJ hJ' J)|((with_reducible apply Q0p);rfl;rfl;rfl;all_goals(intro hb;first|(cases hb;done)|((try simp only[Bool.not_true,Bool.not_false] at hb);(first|((with_reducible intro K hK);(first|skip);simp(disch:=omega) only[go_sem,W];((repeat(refine ndI (by first|assumption|rfl) ?_));refine hK _ ?_;clear hK K))|((fail_if_success (with_reducible intro _));simp(disch:=omega) only[go_sem,W])))))|((with_reducible apply Q0d);rfl;rfl;all_goals(intro hc;first|(cases hc;done)|(try simp only at hc)))))))
    all_goals rw[hd,Bool.false_and]
    all_goals(refine⟨by simp,⟨_,?_,AV.le_refl _⟩,Q0g (by simp[leH,hget])⟩;simp only[Tryz.results10,resL,ldA,Q0m,go_sem])
   |false=>
   cases c3 with
   |true=>
    have hd:q=false:=hd.symm
    clear hJ1
    (have W:=ndI k1 (ndI k2 (ndI k7 (ndI h1 (ndI h2 (ndI h3 @wrI)))));(repeat(any_goals(first|((with_reducible refine Q0b ?_ ?_);rfl;intro K hK;simp(disch:=omega) only[go_sem,W];((repeat(refine ndI (by first|assumption|omega|rfl) ?_));refine hK _ ?_;clear hK K))|(with_reducible first|(refine Q0c ?_;refine hR _ ?_;clear hR R)|((first|refine Q0e ?_|refine Q0f ?_);intro J hJ hJ')|(refine Q0a ?_;intro R hR)|(refine hJ _ ?_;clear hJ hJ' J)|refine Q0h ?_|refine Q0j ?_)|((with_reducible refine hJ' _ _ ?_ ?_);(focus(simp;done));clear hJ hJ' J)|((with_reducible apply Q0p);rfl;rfl;rfl;all_goals(intro hb;first|(cases hb;done)|((try simp only[Bool.not_true,Bool.not_false] at hb);(first|((with_reducible intro K hK);(first|skip);simp(disch:=omega) only[go_sem,W];((repeat(refine ndI (by first|assumption|rfl) ?_));refine hK _ ?_;clear hK K))|((fail_if_success (with_reducible intro _));simp(disch:=omega) only[go_sem,W])))))|((with_reducible apply Q0d);rfl;rfl;all_goals(intro hc;first|(cases hc;done)|(try simp only at hc)))))))
    all_goals rw[hd,Bool.false_and]
    all_goals(refine⟨by simp,⟨_,?_,AV.le_refl _⟩,Q0g (by simp[leH,hget])⟩;simp only[Tryz.results10,resL,ldA,Q0m,go_sem])
   |false=>
   cases tb with
   |false=>
    have hd:q=false:=hd.symm
    clear hJ1
    (have W:=ndI k1 (ndI k2 (ndI k7 (ndI h1 (ndI h2 (ndI h3 @wrI)))));(repeat(any_goals(first|((with_reducible refine Q0b ?_ ?_);rfl;intro K hK;simp(disch:=omega) only[go_sem,W];((repeat(refine ndI (by first|assumption|omega|rfl) ?_));refine hK _ ?_;clear hK K))|(with_reducible first|(refine Q0c ?_;refine hR _ ?_;clear hR R)|((first|refine Q0e ?_|refine Q0f ?_);intro J hJ hJ')|(refine Q0a ?_;intro R hR)|(refine hJ _ ?_;clear hJ hJ' J)|refine Q0h ?_|refine Q0j ?_)|((with_reducible refine hJ' _ _ ?_ ?_);(focus(simp;done));clear hJ hJ' J)|((with_reducible apply Q0p);rfl;rfl;rfl;all_goals(intro hb;first|(cases hb;done)|((try simp only[Bool.not_true,Bool.not_false] at hb);(first|((with_reducible intro K hK);(first|((apply Q0i (ck);rfl;rfl;rfl;rfl;exact Tryz.func39);kernel_rfl;rfl;(focus((simp(disch:=omega) only[go_sem,W]);(try rfl);done));(first|rfl))|skip);simp(disch:=omega) only[go_sem,W];((repeat(refine ndI (by first|assumption|rfl) ?_));refine hK _ ?_;clear hK K))))))|((with_reducible apply Q0d);rfl;rfl;all_goals(intro hc;first|(cases hc;done)|(try simp only at hc)))))))
    all_goals rw[hd,Bool.false_and]
    all_goals(refine⟨by simp,⟨_,?_,AV.le_refl _⟩,Q0g (by simp[leH,hget])⟩;simp only[Tryz.results10,resL,ldA,Q0m,go_sem])
   |true=>
   cases c4 with
   |false=>
    have hJ2:=fun σ'=>hJ1 σ' sd hd
    (have W:=ndI k1 (ndI k2 (ndI k7 (ndI h1 (ndI h2 (ndI h3 (ndI h4 @wrI))))));(repeat(any_goals(first|((with_reducible refine Q0b ?_ ?_);rfl;intro K hK;simp(disch:=omega) only[go_sem,W];((repeat(refine ndI (by first|assumption|omega|rfl) ?_));refine hK _ ?_;clear hK K))|(with_reducible first|(refine Q0c ?_;refine hR _ ?_;clear hR R)|((first|refine Q0e ?_|refine Q0f ?_);intro J hJ hJ')|(refine Q0a ?_;intro R hR)|(refine hJ _ ?_;clear hJ hJ' J)|refine Q0h ?_)|((with_reducible refine hJ' _ _ ?_ ?_);(focus(simp;done));clear hJ hJ' J)|((with_reducible apply Q0p);rfl;rfl;rfl;all_goals(intro hb;first|(cases hb;done)|((try simp only[Bool.not_true,Bool.not_false] at hb);(first|((with_reducible intro K hK);(first|((apply Q0i (ck);rfl;rfl;rfl;rfl;exact Tryz.func39);kernel_rfl;rfl;(focus((simp(disch:=omega) only[go_sem,W]);(try rfl);done));(first|rfl))|skip);simp(disch:=omega) only[go_sem,W];((repeat(refine ndI (by first|assumption|rfl) ?_));refine hK _ ?_;clear hK K))))))|((with_reducible apply Q0d);rfl;rfl;all_goals(intro hc;first|(cases hc;done)|(try simp only at hc)))))))
    all_goals exact hJ2 _ (St.le_of (by simp[leT]) (by simp[leH,hget]))
   |true=>
    have hJ2:=fun σ'=>hJ1 σ' c5 hd
    (have W:=ndI k1 (ndI k2 (ndI k7 (ndI h1 (ndI h2 (ndI h3 (ndI h4 (ndI h5 @wrI)))))));(repeat(any_goals(first|((with_reducible refine Q0b ?_ ?_);rfl;intro K hK;simp(disch:=omega) only[go_sem,W];((repeat(refine ndI (by first|assumption|omega|rfl) ?_));refine hK _ ?_;clear hK K))|(with_reducible first|(refine Q0c ?_;refine hR _ ?_;clear hR R)|((first|refine Q0e ?_|refine Q0f ?_);intro J hJ hJ')|(refine Q0a ?_;intro R hR)|(refine hJ _ ?_;clear hJ hJ' J)|refine Q0h ?_)|((with_reducible refine hJ' _ _ ?_ ?_);(focus(simp;done));clear hJ hJ' J)|((with_reducible apply Q0p);rfl;rfl;rfl;all_goals(intro hb;first|(cases hb;done)|((try simp only[Bool.not_true,Bool.not_false] at hb);(first|((with_reducible intro K hK);(first|((apply Q0i (ck);rfl;rfl;rfl;rfl;exact Tryz.func39);kernel_rfl;rfl;(focus((simp(disch:=omega) only[go_sem,W]);(try rfl);done));(first|rfl))|skip);simp(disch:=omega) only[go_sem,W];((repeat(refine ndI (by first|assumption|rfl) ?_));refine hK _ ?_;clear hK K))))))|((with_reducible apply Q0d);rfl;rfl;all_goals(intro hc;first|(cases hc;done)|(try simp only at hc)))))))
    all_goals exact hJ2 _ (St.le_of (by simp[leT]) (by simp[leH,hget]))
 · have k1:(decide ((i:Int)<(ph.length:Int)))=false:=by simp;omega
   rw[List.drop_eq_nil_of_le hge] at hd
   have hd:q=sd:=hd.symm
   clear hq
   cases sd with
   |true=>
    (repeat(any_goals(first|((with_reducible refine Q0b ?_ ?_);rfl;intro K hK;simp only[go_sem,k1];((repeat(refine ndI (by first|assumption) ?_));refine hK _ ?_;clear hK K))|(with_reducible first|(refine Q0c ?_;refine hR _ ?_;clear hR R)|((first|refine Q0e ?_);intro J hJ hJ')|(refine Q0a ?_;intro R hR)|(refine hJ _ ?_;clear hJ hJ' J)|refine Q0j ?_|refine Q0q ?_)|((with_reducible refine hJ' _ _ ?_ ?_);(focus(simp;done));clear hJ hJ' J)|((with_reducible apply Q0d);rfl;rfl;all_goals(intro hc;first|(cases hc;done)|(try simp only at hc)))|((with_reducible refine Q0z ?_ ?_);kernel_rfl;(with_reducible refine hR _ ?_);clear hR R)|((first|((first|((with_reducible apply Q3i);rfl;rfl;rfl;rfl;rfl));((first|(apply Q0y (so);rfl;rfl;rfl;rfl;exact Tryz.func40)|(apply Q0y (he);rfl;rfl;rfl;rfl;exact Tryz.func18));kernel_rfl;rfl;(focus((simp only[go_sem,k1]);(try rfl);done));(first|rfl)))|((first|((with_reducible apply Q0x);rfl;rfl)|((with_reducible apply Q3c);rfl;rfl;rfl;rfl;rfl));(simp only[rdE,rdOf,go_sem,k1];rfl);(intro τ hA hQ hN;((try simp only[Q1i,Op.operands,Call.operands,go_sem,k1,go_sem,List.mem_cons,List.not_mem_nil,forall_eq_or_imp,forall_eq,List.append_toArray,Option.toArray] at hA);(try simp only[go_sem,k1,List.mem_cons,List.not_mem_nil,forall_eq_or_imp,forall_eq] at hQ hN);(first|(revert hA;intro hA));(first|(revert hQ;intro hQ));(first|(revert hN;intro hN));simp only[go_sem,k1,go_sem,hA,hQ,hN];(repeat(refine ndI (by first|assumption) ?_));(first|apply Q1b)))));(simp only[St.eff,setO,Q0u,go_sem,k1]))|((with_reducible refine Q0w ?_ ?_ ?_ ?_);kernel_rfl;kernel_rfl;(first|kernel_rfl);intro R hR))))
    all_goals rw[hd,Bool.true_and]
    all_goals(refine⟨by simp,⟨_,?_,AV.le_refl _⟩,Q0g (by simp[leH,hget])⟩;simp only[Tryz.results10,resL,ldA,Q0m,go_sem])
   |false=>
    (repeat(any_goals(first|((with_reducible refine Q0b ?_ ?_);rfl;intro K hK;simp only[go_sem,k1];((repeat(refine ndI (by first|assumption) ?_));refine hK _ ?_;clear hK K))|(with_reducible first|(refine Q0c ?_;refine hR _ ?_;clear hR R)|((first|refine Q0e ?_);intro J hJ hJ')|(refine Q0a ?_;intro R hR)|(refine hJ _ ?_;clear hJ hJ' J)|refine Q0j ?_|refine Q0q ?_)|((with_reducible refine hJ' _ _ ?_ ?_);(focus(simp;done));clear hJ hJ' J)|((with_reducible apply Q0d);rfl;rfl;all_goals(intro hc;first|(cases hc;done)|(try simp only at hc)))|((with_reducible refine Q0z ?_ ?_);kernel_rfl;(with_reducible refine hR _ ?_);clear hR R)|((first|((with_reducible apply Q3q);rfl;rfl;rfl;rfl)|((first|((with_reducible apply Q0x);rfl;rfl));(simp only[rdE,rdOf,go_sem,k1];rfl);(intro τ hA hQ hN;((try simp only[Q1i,Op.operands,Call.operands,go_sem,k1,go_sem,List.mem_cons,List.not_mem_nil,forall_eq_or_imp,forall_eq,List.append_toArray,Option.toArray] at hA);(try simp only[go_sem,k1,List.mem_cons,List.not_mem_nil,forall_eq_or_imp,forall_eq] at hQ hN);(first|(revert hA;intro hA));(first|(revert hQ;intro hQ));(first|(revert hN;intro hN));simp only[go_sem,k1,go_sem,hA,hQ,hN];(repeat(refine ndI (by first|assumption) ?_));(first|apply Q1b)))));(simp only[St.eff,setO,Q0u,go_sem,k1]))|((with_reducible refine Q0w ?_ ?_ ?_ ?_);kernel_rfl;kernel_rfl;(first|kernel_rfl);intro R hR))))
    all_goals rw[hd,Bool.false_and]
    all_goals(refine⟨by simp,⟨_,?_,AV.le_refl _⟩,Q0g (by simp[leH,hget])⟩;simp only[Tryz.results10,resL,ldA,Q0m,go_sem])
theorem X9s(c d:Cs)(hc:c.ok)(hd:d.ok):Fn Tryz.prog 21 [csA c,csA d] [] (vb (decide (c=d))) []:=by
 obtain⟨s,ph,cd⟩:=c
 obtain⟨s',ph',cd'⟩:=d
 obtain⟨hs,⟨hpl,hpo⟩,hcl,hco⟩:=hc
 obtain⟨hs',⟨hpl',hpo'⟩,hcl',hco'⟩:=hd
 dsimp only at hs hpl hpo hcl hco hs' hpl' hpo' hcl' hco'
 have he:=X7t false false cd cd' (by omega) (by omega)
 obtain⟨r,hr⟩:∃r,decide (Cs.mk s ph cd=⟨s',ph',cd'⟩)=r:=⟨_,rfl⟩
 rw[hr]
 have no:¬(Cs.mk s ph cd=⟨s',ph',cd'⟩)→r=false:=fun h=>by rw[←hr];exact decide_eq_false h
 have yes:s=s'→ph=ph'→cd=cd'→r=true:=fun h1 h2 h3=>by rw[←hr,h1,h2,h3];exact decide_eq_true rfl
 have noph:ph≠ph'→r=false:=fun h=>no fun e=>h (Cs.mk.inj e).2.1
 clear hr
 obtain⟨a1,h1⟩:∃b,(s != s')=b:=⟨_,rfl⟩
 obtain⟨a2,h2⟩:∃b,((ph.length:Int) != (ph'.length:Int))=b:=⟨_,rfl⟩
 cases a1 with
 |true=>
  have hf:r=false:=no fun e=>(bne_iff_ne.1 h1) (Cs.mk.inj e).1
  clear no yes noph
  (refine Q0t Tryz.func21 rfl (by rfl) ?_;simp only[Tryz.ntmps21,List.length_cons,List.length_nil,Nat.reduceAdd,Nat.reduceSub,List.replicate,List.cons_append,List.nil_append])
  (repeat(any_goals(first|((with_reducible refine Q0b ?_ ?_);rfl;intro K hK;simp only[go_sem,h1];((repeat(refine ndI (by first|assumption) ?_));refine hK _ ?_;clear hK K))|(with_reducible first|(refine Q0c ?_;refine hR _ ?_;clear hR R)|((first|refine Q0e ?_);intro J hJ hJ')|(refine Q0a ?_;intro R hR)|(refine hJ _ ?_;clear hJ hJ' J)|refine Q0j ?_)|((with_reducible refine hJ' _ _ ?_ ?_);(focus(simp;done));clear hJ hJ' J)|((with_reducible apply Q0p);rfl;rfl;rfl;all_goals(intro hb;first|(cases hb;done)|((try simp only[Bool.not_true,Bool.not_false] at hb);(first|((fail_if_success (with_reducible intro _));simp only[go_sem,h1])))))|((with_reducible apply Q0d);rfl;rfl;all_goals(intro hc;first|(cases hc;done)|(try simp only at hc))))))
  all_goals rw[hf]
  all_goals(refine⟨by simp,⟨_,?_,AV.le_refl _⟩,Q0g (by simp[leH,hget])⟩;simp only[Tryz.results21,resL,ldA,Q0m,go_sem])
 |false=>
 cases a2 with
 |true=>
  have hf:r=false:=noph fun e=>(bne_iff_ne.1 h2) (by rw[e])
  clear no yes noph
  (refine Q0t Tryz.func21 rfl (by rfl) ?_;simp only[Tryz.ntmps21,List.length_cons,List.length_nil,Nat.reduceAdd,Nat.reduceSub,List.replicate,List.cons_append,List.nil_append])
  (repeat(any_goals(first|((with_reducible refine Q0b ?_ ?_);rfl;intro K hK;simp only[go_sem,h1,h2];((repeat(refine ndI (by first|assumption) ?_));refine hK _ ?_;clear hK K))|(with_reducible first|(refine Q0c ?_;refine hR _ ?_;clear hR R)|((first|refine Q0e ?_);intro J hJ hJ')|(refine Q0a ?_;intro R hR)|(refine hJ _ ?_;clear hJ hJ' J)|refine Q0j ?_)|((with_reducible refine hJ' _ _ ?_ ?_);(focus(simp;done));clear hJ hJ' J)|((with_reducible apply Q0p);rfl;rfl;rfl;all_goals(intro hb;first|(cases hb;done)|((try simp only[Bool.not_true,Bool.not_false] at hb);(first|((with_reducible intro K hK);(first|skip);simp only[go_sem,h1,h2];((repeat(refine ndI (by first|assumption) ?_));refine hK _ ?_;clear hK K))|((fail_if_success (with_reducible intro _));simp only[go_sem,h1,h2])))))|((with_reducible apply Q0d);rfl;rfl;all_goals(intro hc;first|(cases hc;done)|(try simp only at hc))))))
  all_goals rw[hf]
  all_goals(refine⟨by simp,⟨_,?_,AV.le_refl _⟩,Q0g (by simp[leH,hget])⟩;simp only[Tryz.results21,resL,ldA,Q0m,go_sem])
 |false=>
 by_cases hcc:cd=cd'
 case neg=>
  have hf:r=false:=no fun e=>hcc (Cs.mk.inj e).2.2
  rw[decide_eq_false hcc] at he
  clear no yes noph
  (refine Q0t Tryz.func21 rfl (by rfl) ?_;simp only[Tryz.ntmps21,List.length_cons,List.length_nil,Nat.reduceAdd,Nat.reduceSub,List.replicate,List.cons_append,List.nil_append])
  (repeat(any_goals(first|((with_reducible refine Q0b ?_ ?_);rfl;intro K hK;simp only[go_sem,h1,h2];((repeat(refine ndI (by first|assumption) ?_));refine hK _ ?_;clear hK K))|(with_reducible first|(refine Q0c ?_;refine hR _ ?_;clear hR R)|((first|refine Q0e ?_);intro J hJ hJ')|(refine Q0a ?_;intro R hR)|(refine hJ _ ?_;clear hJ hJ' J)|refine Q0j ?_)|((with_reducible refine hJ' _ _ ?_ ?_);(focus(simp;done));clear hJ hJ' J)|((with_reducible apply Q0p);rfl;rfl;rfl;all_goals(intro hb;first|(cases hb;done)|((try simp only[Bool.not_true,Bool.not_false] at hb);(first|((with_reducible intro K hK);(first|((apply Q0i (he);rfl;rfl;rfl;rfl;exact Tryz.func18);kernel_rfl;rfl;(focus((simp only[go_sem,h1,h2]);(try rfl);done));(first|rfl))|skip);simp only[go_sem,h1,h2];((repeat(refine ndI (by first|assumption) ?_));refine hK _ ?_;clear hK K))))))|((with_reducible apply Q0d);rfl;rfl;all_goals(intro hc;first|(cases hc;done)|(try simp only at hc))))))
  all_goals rw[hf]
  all_goals(refine⟨by simp,⟨_,?_,AV.le_refl _⟩,Q0g (by simp[leH,hget])⟩;simp only[Tryz.results21,resL,ldA,Q0m,go_sem])
 rw[decide_eq_true hcc] at he
 have hss:s=s':=by simpa using h1
 have hlen:ph.length=ph'.length:=by
  have:=h2
  simp at this
  omega
 have yes:ph=ph'→r=true:=fun h=>yes hss h hcc
 clear no hss hcc
 (refine Q0t Tryz.func21 rfl (by rfl) ?_;simp only[Tryz.ntmps21,List.length_cons,List.length_nil,Nat.reduceAdd,Nat.reduceSub,List.replicate,List.cons_append,List.nil_append])
 (repeat(any_goals(first|((with_reducible refine Q0b ?_ ?_);rfl;intro K hK;simp only[go_sem,h1,h2];((repeat(refine ndI (by first|assumption) ?_));refine hK _ ?_;clear hK K))|(with_reducible first|(refine Q0c ?_;refine hR _ ?_;clear hR R)|((first|refine Q0e ?_|refine Q0f ?_);intro J hJ hJ')|(refine Q0a ?_;intro R hR)|(refine hJ _ ?_;clear hJ hJ' J)|refine Q0h ?_)|((with_reducible apply Q0p);rfl;rfl;rfl;all_goals(intro hb;first|(cases hb;done)|((try simp only[Bool.not_true,Bool.not_false] at hb);(first|((with_reducible intro K hK);(first|((apply Q0i (he);rfl;rfl;rfl;rfl;exact Tryz.func18);kernel_rfl;rfl;(focus((simp only[go_sem,h1,h2]);(try rfl);done));(first|rfl))|skip);simp only[go_sem,h1,h2];((repeat(refine ndI (by first|assumption) ?_));refine hK _ ?_;clear hK K))))))|((with_reducible apply Q0d);rfl;rfl;all_goals(intro hc;first|(cases hc;done)|(try simp only at hc))))))
 refine Q1p (α:={i:Nat // i≤ph.length∧∀j,j<i→ph[j]? = ph'[j]?}) (fun p=>⟨[.any,.any,.ptr 2 0,.ptr 3 0,vb false,.any,.any,.any,.any,.any,.any,.any,.any,.any,.any,.any,.any,.any,.any,.any,.any,.any,.any,.any,.any,.any,.any,.any,.any,.any,.any,phs false ph,vi .i64 ph.length,vi .i64 (p.1:Int),.any,.any,.any,.any,.any,.any,.any,.any,.any,.any,.any,.any,.any,.any,.any,.any,.any,.any,.any,.any,.any,.any,.any,.any,.any,.any,.any,.any,.any,.any,.any,.any,.any,.any,.any,.any,.any],[(2,[vi .u64 s,phs false ph,asl false cd]),(3,[vi .u64 s',phs false ph',asl false cd'])]⟩) (fun p=>ph.length-p.1) ⟨0,Nat.zero_le _,fun j hj=>by omega⟩ (St.le_of (by simp[leT]) (by simp[leH,hget])) ?_
 rintro ⟨i,hi,hno⟩ J hJ hJ'
 (try dsimp only at hi hJ ⊢)
 rcases Nat.lt_or_ge i ph.length with hlt|hge
 · obtain⟨x,hx⟩:∃x,ph[i]? = some x:=⟨_,List.getElem?_eq_getElem hlt⟩
   obtain⟨y,hy⟩:∃y,ph'[i]? = some y:=⟨_,List.getElem?_eq_getElem (by omega)⟩
   have k1:(decide ((i:Int)<(ph.length:Int)))=true:=by simp;omega
   have k2:=Q4x hx
   have k3:=Q4x hy
   have k7:(i:Int)+1=((i+1:Nat):Int):=by omega
   have hlb:i<ph'.length:=by omega
   have ox:=hpo x (List.mem_of_getElem? hx)
   have oy:=hpo' y (List.mem_of_getElem? hy)
   have ck:=rSame_fn x.tr y.tr (by have:=ox.2.1;omega) ox.2.2 oy.2.2
   have hff:x≠y→r=false:=fun h=>noph fun e=>by
    rw[e,hy] at hx;cases hx;exact h rfl
   have hJ1:=fun σ' (h:x=y)=>hJ σ' ⟨i+1,hlt,fun j hj=>by
         rcases Nat.lt_or_ge j i with h'|h'
         · exact hno j h'
         · obtain rfl:j=i:=by omega
           rw[hx,hy,h]⟩ (by dsimp only;omega)
   dsimp only at hJ1
   clear hno noph yes
   obtain⟨c1,g1⟩:∃b,(x.role != y.role)=b:=⟨_,rfl⟩
   obtain⟨c2,g2⟩:∃b,(x.who != y.who)=b:=⟨_,rfl⟩
   obtain⟨c3,g3⟩:∃b,(x.stk != y.stk)=b:=⟨_,rfl⟩
   cases c1 with
   |true=>
    have hf:=hff fun e=>(bne_iff_ne.1 g1) (by rw[e])
    clear hJ1 hff
    (have W:=ndI k1 (ndI k2 (ndI k3 (ndI k7 (ndI g1 @wrI))));(repeat(any_goals(first|((with_reducible refine Q0b ?_ ?_);rfl;intro K hK;simp(disch:=omega) only[go_sem,W];((repeat(refine ndI (by first|assumption|omega|rfl) ?_));refine hK _ ?_;clear hK K))|(with_reducible first|(refine Q0c ?_;refine hR _ ?_;clear hR R)|((first|refine Q0e ?_|refine Q0f ?_);intro J hJ hJ')|(refine Q0a ?_;intro R hR)|(refine hJ _ ?_;clear hJ hJ' J)|refine Q0h ?_|refine Q0j ?_)|((with_reducible refine hJ' _ _ ?_ ?_);(focus(simp;done));clear hJ hJ' J)|((with_reducible apply Q0p);rfl;rfl;rfl;all_goals(intro hb;first|(cases hb;done)|((try simp only[Bool.not_true,Bool.not_false] at hb);(first|((fail_if_success (with_reducible intro _));simp(disch:=omega) only[go_sem,W])))))|((with_reducible apply Q0d);rfl;rfl;all_goals(intro hc;first|(cases hc;done)|(try simp only at hc)))))))
    all_goals rw[hf]
    all_goals(refine⟨by simp,⟨_,?_,AV.le_refl _⟩,Q0g (by simp[leH,hget])⟩;simp only[Tryz.results21,resL,ldA,Q0m,go_sem])
   |false=>
   cases c2 with
   |true=>
    have hf:=hff fun e=>(bne_iff_ne.1 g2) (by rw[e])
    clear hJ1 hff
    (have W:=ndI k1 (ndI k2 (ndI k3 (ndI k7 (ndI g1 (ndI g2 @wrI)))));(repeat(any_goals(first|((with_reducible refine Q0b ?_ ?_);rfl;intro K hK;simp(disch:=omega) only[go_sem,W];((repeat(refine ndI (by first|assumption|omega|rfl) ?_));refine hK _ ?_;clear hK K))|(with_reducible first|(refine Q0c ?_;refine hR _ ?_;clear hR R)|((first|refine Q0e ?_|refine Q0f ?_);intro J hJ hJ')|(refine Q0a ?_;intro R hR)|(refine hJ _ ?_;clear hJ hJ' J)|refine Q0h ?_|refine Q0j ?_)|((with_reducible refine hJ' _ _ ?_ ?_);(focus(simp;done));clear hJ hJ' J)|((with_reducible apply Q0p);rfl;rfl;rfl;all_goals(intro hb;first|(cases hb;done)|((try simp only[Bool.not_true,Bool.not_false] at hb);(first|((with_reducible intro K hK);(first|skip);simp(disch:=omega) only[go_sem,W];((repeat(refine ndI (by first|assumption|rfl) ?_));refine hK _ ?_;clear hK K))|((fail_if_success (with_reducible intro _));simp(disch:=omega) only[go_sem,W])))))|((with_reducible apply Q0d);rfl;rfl;all_goals(intro hc;first|(cases hc;done)|(try simp only at hc)))))))
    all_goals rw[hf]
    all_goals(refine⟨by simp,⟨_,?_,AV.le_refl _⟩,Q0g (by simp[leH,hget])⟩;simp only[Tryz.results21,resL,ldA,Q0m,go_sem])
   |false=>
   cases c3 with
   |true=>
    have hf:=hff fun e=>(bne_iff_ne.1 g3) (by rw[e])
    clear hJ1 hff
    (have W:=ndI k1 (ndI k2 (ndI k3 (ndI k7 (ndI g1 (ndI g2 (ndI g3 @wrI))))));(repeat(any_goals(first|((with_reducible refine Q0b ?_ ?_);rfl;intro K hK;simp(disch:=omega) only[go_sem,W];((repeat(refine ndI (by first|assumption|omega|rfl) ?_));refine hK _ ?_;clear hK K))|(with_reducible first|(refine Q0c ?_;refine hR _ ?_;clear hR R)|((first|refine Q0e ?_|refine Q0f ?_);intro J hJ hJ')|(refine Q0a ?_;intro R hR)|(refine hJ _ ?_;clear hJ hJ' J)|refine Q0h ?_|refine Q0j ?_)|((with_reducible refine hJ' _ _ ?_ ?_);(focus(simp;done));clear hJ hJ' J)|((with_reducible apply Q0p);rfl;rfl;rfl;all_goals(intro hb;first|(cases hb;done)|((try simp only[Bool.not_true,Bool.not_false] at hb);(first|((with_reducible intro K hK);(first|skip);simp(disch:=omega) only[go_sem,W];((repeat(refine ndI (by first|assumption|rfl) ?_));refine hK _ ?_;clear hK K))|((fail_if_success (with_reducible intro _));simp(disch:=omega) only[go_sem,W])))))|((with_reducible apply Q0d);rfl;rfl;all_goals(intro hc;first|(cases hc;done)|(try simp only at hc)))))))
    all_goals rw[hf]
    all_goals(refine⟨by simp,⟨_,?_,AV.le_refl _⟩,Q0g (by simp[leH,hget])⟩;simp only[Tryz.results21,resL,ldA,Q0m,go_sem])
   |false=>
   by_cases ht:x.tr=y.tr
   · have hxy:x=y:=by
      obtain⟨x1,x2,x3,x4⟩:=x
      obtain⟨y1,y2,y3,y4⟩:=y
      simp at g1 g2 g3 ht
      rw[g1,g2,g3,ht]
     have hJ2:=fun σ'=>hJ1 σ' hxy
     rw[decide_eq_true ht] at ck
     clear hJ1 hff hxy ht
     (have W:=ndI k1 (ndI k2 (ndI k3 (ndI k7 (ndI g1 (ndI g2 (ndI g3 @wrI))))));(repeat(any_goals(first|((with_reducible refine Q0b ?_ ?_);rfl;intro K hK;simp(disch:=omega) only[go_sem,W];((repeat(refine ndI (by first|assumption|omega|rfl) ?_));refine hK _ ?_;clear hK K))|(with_reducible first|(refine Q0c ?_;refine hR _ ?_;clear hR R)|((first|refine Q0e ?_|refine Q0f ?_);intro J hJ hJ')|(refine Q0a ?_;intro R hR)|(refine hJ _ ?_;clear hJ hJ' J)|refine Q0h ?_)|((with_reducible refine hJ' _ _ ?_ ?_);(focus(simp;done));clear hJ hJ' J)|((with_reducible apply Q0p);rfl;rfl;rfl;all_goals(intro hb;first|(cases hb;done)|((try simp only[Bool.not_true,Bool.not_false] at hb);(first|((with_reducible intro K hK);(first|((apply Q0i (ck);rfl;rfl;rfl;rfl;exact Tryz.func59);kernel_rfl;rfl;(focus((simp(disch:=omega) only[go_sem,W]);(try rfl);done));(first|rfl))|skip);simp(disch:=omega) only[go_sem,W];((repeat(refine ndI (by first|assumption|rfl) ?_));refine hK _ ?_;clear hK K))))))|((with_reducible apply Q0d);rfl;rfl;all_goals(intro hc;first|(cases hc;done)|(try simp only at hc)))))))
     all_goals exact hJ2 _ (St.le_of (by simp[leT]) (by simp[leH,hget]))
   · have hf:=hff fun e=>ht (by rw[e])
     rw[decide_eq_false ht] at ck
     clear hJ1 hff ht
     (have W:=ndI k1 (ndI k2 (ndI k3 (ndI k7 (ndI g1 (ndI g2 (ndI g3 @wrI))))));(repeat(any_goals(first|((with_reducible refine Q0b ?_ ?_);rfl;intro K hK;simp(disch:=omega) only[go_sem,W];((repeat(refine ndI (by first|assumption|omega|rfl) ?_));refine hK _ ?_;clear hK K))|(with_reducible first|(refine Q0c ?_;refine hR _ ?_;clear hR R)|((first|refine Q0e ?_|refine Q0f ?_);intro J hJ hJ')|(refine Q0a ?_;intro R hR)|(refine hJ _ ?_;clear hJ hJ' J)|refine Q0h ?_|refine Q0j ?_)|((with_reducible refine hJ' _ _ ?_ ?_);(focus(simp;done));clear hJ hJ' J)|((with_reducible apply Q0p);rfl;rfl;rfl;all_goals(intro hb;first|(cases hb;done)|((try simp only[Bool.not_true,Bool.not_false] at hb);(first|((with_reducible intro K hK);(first|((apply Q0i (ck);rfl;rfl;rfl;rfl;exact Tryz.func59);kernel_rfl;rfl;(focus((simp(disch:=omega) only[go_sem,W]);(try rfl);done));(first|rfl))|skip);simp(disch:=omega) only[go_sem,W];((repeat(refine ndI (by first|assumption|rfl) ?_));refine hK _ ?_;clear hK K))))))|((with_reducible apply Q0d);rfl;rfl;all_goals(intro hc;first|(cases hc;done)|(try simp only at hc)))))))
     all_goals rw[hf]
     all_goals(refine⟨by simp,⟨_,?_,AV.le_refl _⟩,Q0g (by simp[leH,hget])⟩;simp only[Tryz.results21,resL,ldA,Q0m,go_sem])
 · have k1:(decide ((i:Int)<(ph.length:Int)))=false:=by simp;omega
   have hrt:r=true:=yes (by
    refine List.ext_getElem? fun j=>?_
    rcases Nat.lt_or_ge j ph.length with h|h
    · exact hno j (by omega)
    · rw[List.getElem?_eq_none h,List.getElem?_eq_none (by omega)])
   clear hno yes noph
   (repeat(any_goals(first|((with_reducible refine Q0b ?_ ?_);rfl;intro K hK;simp only[go_sem,k1];((repeat(refine ndI (by first|assumption) ?_));refine hK _ ?_;clear hK K))|(with_reducible first|(refine Q0c ?_;refine hR _ ?_;clear hR R)|((first|refine Q0e ?_);intro J hJ hJ')|(refine Q0a ?_;intro R hR)|(refine hJ _ ?_;clear hJ hJ' J)|refine Q0j ?_|refine Q0q ?_)|((with_reducible refine hJ' _ _ ?_ ?_);(focus(simp;done));clear hJ hJ' J)|((with_reducible apply Q0d);rfl;rfl;all_goals(intro hc;first|(cases hc;done)|(try simp only at hc))))))
   all_goals rw[hrt]
   all_goals(refine⟨by simp,⟨_,?_,AV.le_refl _⟩,Q0g (by simp[leH,hget])⟩;simp only[Tryz.results21,resL,ldA,Q0m,go_sem])
end
section
open Go.RowKit
open Nat (reduceBEq)
attribute [-go_sem] IntKind.bits
set_option maxRecDepth 20000
set_option maxHeartbeats 4000000
theorem X4g{l:List Nat}(hb:∀b∈l,b<256):∀k,k≤l.length→∀i,i<k→l.getD i 0=rdN l k/256 ^ (k-1-i)%256
 |0,_,i,h=>by omega
 |k+1,hk,i,h=>by
  rw[rdN_s (by omega)]
  have hx:l.getD k 0<256:=by
   rw[List.getD_eq_getElem?_getD,List.getElem?_eq_getElem (by omega)]
   exact hb _ (List.getElem_mem _)
  rcases Nat.lt_or_ge i k with h1|h1
  · rw[X4g hb k (by omega) i h1,show k+1-1-i=(k-1-i)+1 by omega,Nat.pow_succ,Nat.mul_comm (256 ^ _),←Nat.div_div_eq_div_mul]
    congr 2
    omega
  · obtain rfl:i=k:=by omega
    rw[show i+1-1-i=0 by omega]
    omega
theorem rdN_of{l:List Nat}{A n:Nat}(hn:n≤l.length)(hA:A<256 ^ n)(h:∀i,i<n→l.getD i 0=A/256 ^ (n-1-i)%256):∀k,k≤n→rdN l k=A/256 ^ (n-k)
 |0,_=>by rw[Nat.sub_zero,Nat.div_eq_of_lt hA];rfl
 |k+1,hk=>by
  rw[rdN_s (by omega),rdN_of hn hA h k (by omega),h k (by omega),show n-k=(n-(k+1))+1 by omega,Nat.pow_succ,←Nat.div_div_eq_div_mul,show n-1-k=n-(k+1) by omega]
  omega
theorem X7k(W:List UInt64):∀k i,i<k→(wdT W k).getD i 0=wdB W i
 |0,i,h=>by omega
 |k+1,i,h=>by
  unfold wdT
  have hl:=X1p W k
  rcases Nat.lt_or_ge i k with h1|h1
  · rw[List.getD_eq_getElem?_getD,List.getElem?_append_left (by omega),←List.getD_eq_getElem?_getD,X7k W k i h1]
  · obtain rfl:i=k:=by omega
    rw[List.getD_eq_getElem?_getD,List.getElem?_append_right (by omega),hl,Nat.sub_self]
    rfl
def hitB(a:Int)(D:List Nat):Bool:=((D.take 24).all fun b=>b==0)&&((rdN ((D.drop 24).take 8) 8:Int)==a)
theorem ext_getD{l m:List Nat}{n:Nat}(hl:l.length=n)(hm:m.length=n)(h:∀i,i<n→l.getD i 0=m.getD i 0):l=m:=by
 refine List.ext_getElem (by omega) fun i h1 h2=>?_
 have:=h i (by omega)
 rw[List.getD_eq_getElem?_getD,List.getD_eq_getElem?_getD,List.getElem?_eq_getElem h1,List.getElem?_eq_getElem h2] at this
 exact this
theorem Q5h{l:List Nat}{n i:Nat}(h:i<n):(l.take n).getD i 0=l.getD i 0:=by
 rw[List.getD_eq_getElem?_getD,List.getD_eq_getElem?_getD,List.getElem?_take_of_lt h]
theorem hit_own{a:Int}(ha:U a){e:Ev}(hl:32≤e.data.length)(hb:∀b∈e.data,b<256):hitB a e.data=ownB (ownL a) e:=by
 unfold hitB ownB
 generalize e.data=D at hl hb ⊢
 obtain⟨A,hA⟩:∃A,a.toNat=A:=⟨_,rfl⟩
 have hAa:(A:Int)=a:=by rw[←hA];exact Int.toNat_of_nonneg ha.1
 have hlt:A<256 ^ 8:=by have:=ha.2;have:(256:Nat) ^ 8=18446744073709551616:=rfl;omega
 have w0:(UInt64.ofNat A).toNat=A:=UInt64.toNat_ofNat_of_lt' (by simpa [UInt64.size] using hlt)
 have wb:∀i,i<32→(ownL a).getD i 0=if i<24 then 0 else A/256 ^ (31-i)%256:=fun i hi=>by
  unfold ownL wdL
  rw[X7k _ 32 i hi,hA]
  unfold wdB
  split
  · have:(31-i)/8=1∨(31-i)/8=2∨(31-i)/8=3:=by omega
    rcases this with e|e|e<;>(rw[e];simp)
  · rw[show(31-i)/8=0 by omega,show(31-i)%8=31-i by omega]
    show(UInt64.ofNat A).toNat/_%_=_
    rw[w0]
 have hB:∀j,j<8→((D.drop 24).take 8).getD j 0=D.getD (24+j) 0:=fun j hj=>by
  rw[Q5h hj,List.getD_eq_getElem?_getD,List.getD_eq_getElem?_getD,List.getElem?_drop]
 have hBl:((D.drop 24).take 8).length=8:=by rw[List.length_take,List.length_drop];omega
 have hBb:∀b∈(D.drop 24).take 8,b<256:=fun b h=>hb b (List.mem_of_mem_drop (List.mem_of_mem_take h))
 generalize (D.drop 24).take 8=B at hB hBl hBb ⊢
 rw[Bool.eq_iff_iff,Bool.and_eq_true_iff,beq_iff_eq,decide_eq_true_iff,List.all_eq_true]
 constructor
 · rintro ⟨h1,h2⟩
   have h2:rdN B 8=A:=by omega
   refine ext_getD (n:=32) (by rw[List.length_take];omega) (X8i a) fun i hi=>?_
   rw[Q5h hi,wb i hi]
   split
   · rename_i h24
     have hm:D.getD i 0∈D.take 24:=by
      rw[←Q5h h24,List.getD_eq_getElem?_getD,List.getElem?_eq_getElem (by rw[List.length_take];omega)]
      exact List.getElem_mem _
     exact beq_iff_eq.1 (h1 _ hm)
   · have h3:=X4g hBb 8 (by omega) (i-24) (by omega)
     rw[hB _ (by omega),h2,show 24+(i-24)=i by omega,show 8-1-(i-24)=31-i by omega] at h3
     exact h3
 · intro h
   have hd:∀i,i<32→D.getD i 0=if i<24 then 0 else A/256 ^ (31-i)%256:=fun i hi=>by
    rw[←wb i hi,←h,Q5h hi]
   refine⟨fun b hbm=>?_,?_⟩
   · obtain⟨i,hi,rfl⟩:=List.mem_iff_getElem.1 hbm
     have hi2:i<24:=by rw[List.length_take] at hi;omega
     have h3:=hd i (by omega)
     rw[if_pos hi2,←Q5h hi2,List.getD_eq_getElem?_getD,List.getElem?_eq_getElem hi] at h3
     exact beq_iff_eq.2 h3
   · have h3:=rdN_of (l:=B) (A:=A) (n:=8) (by omega) hlt (fun j hj=>by
      rw[hB j hj,hd _ (by omega),if_neg (by omega),show 31-(24+j)=8-1-j by omega]) 8 (Nat.le_refl _)
     rw[h3,Nat.sub_self,Nat.pow_zero,Nat.div_one]
     exact hAa
theorem arg8{D:List Nat}(h:D.length=64):bsl false ((D.drop 24).take 8) = .c (.sl false 1 8 (((D.flatMap bpv).drop 24).take 8)):=by
 have e:((D.drop 24).take 8).length=8:=by rw[List.length_take,List.length_drop,h];rfl
 have f:((D.flatMap bpv).drop (24*1)).take (8*1)=((D.drop 24).take 8).flatMap bpv:=by
  rw[Q9t Q2x,Q4l Q2x]
 rw[bsl,e,←f]
abbrev bsR(l:List Ev)(a:Int)(r:Nat)(out:List Nat)(i:Nat):St:=⟨[evs false l,vi .u64 a,.any,.any,.c (.v (.slice none 0 0)),.row r 35 4 out.length,vi .i64 i,.any,.any,.any,.any,.any,.any,.any,.any,.any,.any,.any,.any,.any,.any,.any,.any,.any,.any,.any,.any,.any,.any,.any,.any,.any,.any,.any,.any,.any,.any,.any,.any,.any,.any,.any,.any,.any,.any,.any,.any,.any,.any,.any,.any,.any,.any,.any,.any,.any,.any,.any],[(r,raG lpv out)]⟩
theorem bsR_rn(l:List Ev)(a:Int)(out:List Nat)(i:Nat):(bsR l a 56 out i).to (bsR l a 500 out i):=by
 have h:=St.to.rn (σ:=bsR l a 56 out i) (fun r=>if r=56 then 500 else r) (fun r=>if r=500 then 56 else r) [56] (by simp[AV.inNL,AV.inN]) (by simp) (by simp[inH,AV.inNL,AV.inN,Q0v]) (by simp) (by simp)
 simpa [AV.renL,AV.ren,renH] using h
theorem all_snoc{l:List Nat}{k x:Nat}(h:l[k]? = some x):((l.take (k+1)).all fun b=>b==0)=(((l.take k).all fun b=>b==0)&&((x:Int)==0)):=by
 rw[List.take_add_one,h,List.all_append]
 have:(x==0)=((x:Int)==0):=by rw[Bool.eq_iff_iff];simp
 simp[this]
theorem rbases_fn(l:List Ev)(hl:l.length≤1000)(ho:∀e∈l,e.ok)(hr:trB l=true)(a:Int)(ha:U a):Fn Tryz.prog 81 [evs false l,vi .u64 a] [] (wsl false (Q2g (ownL a) l)) []:=by
 have hrow:Fn Tryz.prog 81 [evs false l,vi .u64 a] [] (.row 500 35 4 (Q2g (ownL a) l).length) [(500,raG lpv (Q2g (ownL a) l))]:=by
  (refine Q0t Tryz.func81 rfl (by rfl) ?_;simp only[Tryz.ntmps81,List.length_cons,List.length_nil,Nat.reduceAdd,Nat.reduceSub,List.replicate,List.cons_append,List.nil_append])
  (repeat(any_goals(first|((with_reducible refine Q0b ?_ ?_);rfl;intro K hK;simp only[go_sem];((repeat(refine ndI (by first|assumption) ?_));refine hK _ ?_;clear hK K))|(with_reducible first|(refine Q0c ?_;refine hR _ ?_;clear hR R)|((first|refine Q0e ?_|refine Q0f ?_);intro J hJ hJ')|(refine Q0a ?_;intro R hR)|(refine hJ _ ?_;clear hJ hJ' J)))))
  refine Q3r l.length (fun i=>bsR l a 500 (Q2g (ownL a) (l.take i)) i) ?_ ?_
  · refine St.to.trans (St.to.of_le (τ:=⟨[evs false l,vi .u64 a,.any,.any,.c (.v (.slice none 0 0)),.c (.v (.slice none 0 0)),vi .i64 0,.any,.any,.any,.any,.any,.any,.any,.any,.any,.any,.any,.any,.any,.any,.any,.any,.any,.any,.any,.any,.any,.any,.any,.any,.any,.any,.any,.any,.any,.any,.any,.any,.any,.any,.any,.any,.any,.any,.any,.any,.any,.any,.any,.any,.any,.any,.any,.any,.any,.any,.any],[]⟩) (St.le_of (by simp[leT]) (by simp[leH,hget]))) ?_
    refine St.to.trans (St.to.nilrow 5 500 35 4 rfl (by simp) (by simp[St.free,Q1z,AV.refsL,AV.refs]) (by decide)) (St.to.of_le (St.le_of (by simp[leT,Q2g,selG]) (by simp[leH,hget,hput,Q2g,selG])))
  intro i hi J hJ hJ'
  (try dsimp only at hJ ⊢)
  rcases Nat.lt_or_ge i l.length with hlt|hge
  · obtain⟨y,hy⟩:∃y,l[i]? = some y:=⟨_,List.getElem?_eq_getElem hlt⟩
    have k1:(decide ((i:Int)<(l.length:Int)))=true:=by simpa using hlt
    have k2:=Q8k hy
    have k7:(i:Int)+1=((i+1:Nat):Int):=by omega
    have hm:=List.mem_of_getElem? hy
    have oy:=ho y hm
    have hsn:=X3v (X0p (ownL a)) [1] hy
    have hbl:(Q2g (ownL a) (l.take i)).length≤1000:=by have:=X0g (ownL a) (l.take i);rw[List.length_take] at this;omega
    have fin:=fun τ=>hJ τ hlt
    change selG (X0p (ownL a)) [1] (l.take (i+1))=_ at hsn
    unfold Q2g at fin hbl ⊢
    rw[hsn] at fin
    clear hsn hJ
    generalize selG (X0p (ownL a)) [1] (l.take i)=out at fin hbl ⊢
    have k4:(raG lpv out).length=out.length*4:=by rw[List.length_map,Q0s Q7t]
    have k9:∀r,AV.refsL r (raG lpv out)=false:=fun r=>Q0o r _
    dsimp only[bsR]
    by_cases hk1:y.kind=1
    · have q1:(y.kind != 1)=false:=by rw[hk1];rfl
      have dl:=X2r hr hm hk1
      have hho:=hit_own ha (e:=y) (by omega) oy.2.2.2.1
      have rd:=X7u false ((y.data.drop 24).take 8) (by rw[List.length_take,List.length_drop];omega) fun b h=>oy.2.2.2.1 b (List.mem_of_mem_drop (List.mem_of_mem_take h))
      rw[arg8 dl] at rd
      rw[if_pos (by simp[hk1])] at fin
      unfold X0p at fin
      rw[←hho] at fin
      unfold hitB at fin
      generalize (rdN ((y.data.drop 24).take 8) 8:Int)=rv at fin rd
      obtain⟨b2,h2⟩:∃b,(rv==a)=b:=⟨_,rfl⟩
      rw[h2] at fin
      clear hho hr ho
      (have W:=ndI k1 (ndI k2 (ndI q1 @wrI));(repeat(any_goals(first|((with_reducible refine Q0b ?_ ?_);rfl;intro K hK;simp(disch:=omega) only[go_sem,W];((repeat(refine ndI (by first|assumption|omega|rfl) ?_));refine hK _ ?_;clear hK K))|(with_reducible first|(refine Q0c ?_;refine hR _ ?_;clear hR R)|((first|refine Q0e ?_|refine Q0f ?_);intro J hJ hJ')|(refine Q0a ?_;intro R hR)|(refine hJ _ ?_;clear hJ hJ' J)|refine Q0h ?_)|((with_reducible apply Q0d);rfl;rfl;all_goals(intro hc;first|(cases hc;done)|(try simp only at hc)))))))
      refine Q1t 24 (fun k=>⟨[evs false l,vi .u64 a,.any,.any,.c (.v (.slice none 0 0)),.row 500 35 4 out.length,vi .i64 (i:Int),vb ((y.data.take k).all fun b=>b==0),vi .i64 (k:Int),.any,.any,.any,.any,.any,.any,.any,.any,.any,.any,.any,.any,.any,.any,.any,.any,.any,.any,.any,.any,.any,.any,.any,.any,.any,.any,.any,.any,.any,.any,.any,.any,.any,.any,.any,.any,.any,.any,.any,.any,.any,.any,.any,.any,.any,.any,.any,.any,.any],[(500,raG lpv out)]⟩) (St.le_of (by simp[leT]) (by simp[leH,hget])) ?_
      intro k hk J hJ hJ'
      (try dsimp only at hJ ⊢)
      rcases Nat.lt_or_ge k 24 with hk24|hk24
      · obtain⟨x,hx⟩:∃x,y.data[k]? = some x:=⟨_,List.getElem?_eq_getElem (by omega)⟩
        have n1:(decide ((k:Int)<24))=true:=by simp;omega
        have n2:=Q7x hx
        have n7:(k:Int)+1=((k+1:Nat):Int):=by omega
        have hkd:k<y.data.length:=by omega
        have hJ1:=fun τ=>hJ τ hk24
        rw[all_snoc hx] at hJ1
        generalize ((y.data.take k).all fun b=>b==0)=own at hJ1 ⊢
        obtain⟨b3,h3⟩:∃b,((x:Int)==0)=b:=⟨_,rfl⟩
        rw[h3] at hJ1
        clear fin rd
        cases own with
        |false=>
         (have W:=ndI n1 (ndI n2 (ndI n7 (ndI k2 (ndI h3 @wrI))));(repeat(any_goals(first|((with_reducible refine Q0b ?_ ?_);rfl;intro K hK;simp(disch:=omega) only[go_sem,W,Nat.mul_one];((repeat(refine ndI (by first|assumption|rfl) ?_));refine hK _ ?_;clear hK K))|(with_reducible first|(refine Q0c ?_;refine hR _ ?_;clear hR R)|((first|refine Q0e ?_|refine Q0f ?_);intro J hJ hJ')|(refine Q0a ?_;intro R hR)|(refine hJ _ ?_;clear hJ hJ' J)|refine Q0h ?_)|((with_reducible refine hJ' _ _ ?_ ?_);(focus(simp;done));clear hJ hJ' J)|((with_reducible apply Q0p);rfl;rfl;rfl;all_goals(intro hb;first|(cases hb;done)|((try simp only[Bool.not_true,Bool.not_false] at hb);(first|((fail_if_success (with_reducible intro _));simp(disch:=omega) only[go_sem,W,Nat.mul_one])))))|((with_reducible apply Q0d);rfl;rfl;all_goals(intro hc;first|(cases hc;done)|(try simp only at hc)))))))
         all_goals exact hJ1 _ (St.le_of (by simp[leT]) (by simp[leH,hget]))
        |true=>
         (have W:=ndI n1 (ndI n2 (ndI n7 (ndI k2 (ndI h3 @wrI))));(repeat(any_goals(first|((with_reducible refine Q0b ?_ ?_);rfl;intro K hK;simp(disch:=omega) only[go_sem,W,Nat.mul_one];((repeat(refine ndI (by first|assumption|rfl) ?_));refine hK _ ?_;clear hK K))|(with_reducible first|(refine Q0c ?_;refine hR _ ?_;clear hR R)|((first|refine Q0e ?_|refine Q0f ?_);intro J hJ hJ')|(refine Q0a ?_;intro R hR)|(refine hJ _ ?_;clear hJ hJ' J)|refine Q0h ?_)|((with_reducible refine hJ' _ _ ?_ ?_);(focus(simp;done));clear hJ hJ' J)|((with_reducible apply Q0p);rfl;rfl;rfl;all_goals(intro hb;first|(cases hb;done)|((try simp only[Bool.not_true,Bool.not_false] at hb);(first|((with_reducible intro K hK);simp(disch:=omega) only[go_sem,W,Nat.mul_one];((repeat(refine ndI (by first|assumption|omega|rfl) ?_));refine hK _ ?_;clear hK K))))))|((with_reducible apply Q0d);rfl;rfl;all_goals(intro hc;first|(cases hc;done)|(try simp only at hc)))))))
         all_goals exact hJ1 _ (St.le_of (by simp[leT]) (by simp[leH,hget]))
      · obtain rfl:k=24:=by omega
        have n1:(decide (((24:Nat):Int)<24))=false:=rfl
        generalize ((y.data.take 24).all fun b=>b==0)=own at fin ⊢
        cases own with
        |false=>
         (have W:=ndI n1 (ndI k2 (ndI k7 (ndI h2 @wrI)));(repeat(any_goals(first|((with_reducible refine Q0b ?_ ?_);rfl;intro K hK;simp(disch:=omega) only[go_sem,W,dl,Nat.mul_one];((repeat(refine ndI (by first|assumption|rfl) ?_));refine hK _ ?_;clear hK K))|(with_reducible first|(refine Q0c ?_;refine hR _ ?_;clear hR R)|((first|refine Q0e ?_);intro J hJ hJ')|(refine Q0a ?_;intro R hR)|(refine hJ _ ?_;clear hJ hJ' J)|refine Q0h ?_|refine Q0q ?_)|((with_reducible refine hJ' _ _ ?_ ?_);(focus(simp;done));clear hJ hJ' J)|((with_reducible apply Q0p);rfl;rfl;rfl;all_goals(intro hb;first|(cases hb;done)|((try simp only[Bool.not_true,Bool.not_false] at hb);(first|((fail_if_success (with_reducible intro _));simp(disch:=omega) only[go_sem,W,dl,Nat.mul_one])))))|((with_reducible apply Q0d);rfl;rfl;all_goals(intro hc;first|(cases hc;done)|(try simp only at hc)))))))
         all_goals exact fin _ (St.to.of_le (St.le_of (by simp[leT]) (by simp[leH,hget])))
        |true=>
        cases b2 with
        |false=>
         (have W:=ndI n1 (ndI k2 (ndI k7 (ndI h2 @wrI)));(repeat(any_goals(first|((with_reducible refine Q0b ?_ ?_);rfl;intro K hK;simp(disch:=omega) only[go_sem,W,dl,Nat.mul_one];((repeat(refine ndI (by first|assumption|rfl) ?_));refine hK _ ?_;clear hK K))|(with_reducible first|(refine Q0c ?_;refine hR _ ?_;clear hR R)|((first|refine Q0e ?_);intro J hJ hJ')|(refine Q0a ?_;intro R hR)|(refine hJ _ ?_;clear hJ hJ' J)|refine Q0h ?_|refine Q0q ?_)|((with_reducible refine hJ' _ _ ?_ ?_);(focus(simp;done));clear hJ hJ' J)|((with_reducible apply Q0p);rfl;rfl;rfl;all_goals(intro hb;first|(cases hb;done)|((try simp only[Bool.not_true,Bool.not_false] at hb);(first|((with_reducible intro K hK);(first|((apply Q0i (rd);rfl;rfl;rfl;rfl;exact Tryz.func133);kernel_rfl;rfl;(focus((simp(disch:=omega) only[go_sem,W,dl,Nat.mul_one]);(try rfl);done));(first|rfl))|skip);simp(disch:=omega) only[go_sem,W,dl,Nat.mul_one];((repeat(refine ndI (by first|assumption|omega|rfl) ?_));refine hK _ ?_;clear hK K))))))|((with_reducible apply Q0d);rfl;rfl;all_goals(intro hc;first|(cases hc;done)|(try simp only at hc)))))))
         all_goals exact fin _ (St.to.of_le (St.le_of (by simp[leT]) (by simp[leH,hget])))
        |true=>
         (have W:=ndI n1 (ndI k2 (ndI k4 (ndI k7 (ndI k9 (ndI h2 (ndI @wrI @Q0o))))));(repeat(any_goals(first|((with_reducible refine Q0b ?_ ?_);rfl;intro K hK;simp(disch:=omega) only[go_sem,W,dl,Q2m,AV.refsL,AV.refs,List.length_append,List.length_cons,List.length_nil,Bool.or_false,Nat.mul_one];((repeat(refine ndI (by first|assumption|omega|rfl) ?_));refine hK _ ?_;clear hK K))|(with_reducible first|(refine Q0c ?_;refine hR _ ?_;clear hR R)|((first|refine Q0e ?_);intro J hJ hJ')|(refine Q0a ?_;intro R hR)|(refine hJ _ ?_;clear hJ hJ' J)|refine Q0q ?_)|((with_reducible refine hJ' _ _ ?_ ?_);(focus(simp;done));clear hJ hJ' J)|((with_reducible apply Q0p);rfl;rfl;rfl;all_goals(intro hb;first|(cases hb;done)|((try simp only[Bool.not_true,Bool.not_false] at hb);(first|((with_reducible intro K hK);(first|((apply Q0i (rd);rfl;rfl;rfl;rfl;exact Tryz.func133);kernel_rfl;rfl;(focus((simp(disch:=omega) only[go_sem,W,dl,Q2m,AV.refsL,AV.refs,List.length_append,List.length_cons,List.length_nil,Bool.or_false,Nat.mul_one]);(try rfl);done));(first|rfl))|skip);simp(disch:=omega) only[go_sem,W,dl,Q2m,AV.refsL,AV.refs,List.length_append,List.length_cons,List.length_nil,Bool.or_false,Nat.mul_one];((repeat(refine ndI (by first|assumption|omega|rfl) ?_));refine hK _ ?_;clear hK K))))))|((with_reducible apply Q0d);rfl;rfl;all_goals(intro hc;first|(cases hc;done)|(try simp only at hc)))))))
         all_goals exact fin _ (St.to.trans (St.to.of_le (τ:=bsR l a 56 (out++[y.val]) (i+1)) (St.le_of (by simp[leT]) (by simp[leH,hget,lpv,raG]))) (bsR_rn l a _ _))
    · have q1:(y.kind != 1)=true:=by simpa using hk1
      rw[if_neg (by simp[hk1])] at fin
      clear hr ho
      (have W:=ndI k1 (ndI k2 (ndI k7 (ndI q1 @wrI)));(repeat(any_goals(first|((with_reducible refine Q0b ?_ ?_);rfl;intro K hK;simp(disch:=omega) only[go_sem,W];((repeat(refine ndI (by first|assumption|omega|rfl) ?_));refine hK _ ?_;clear hK K))|(with_reducible first|(refine Q0c ?_;refine hR _ ?_;clear hR R)|((first|refine Q0e ?_|refine Q0f ?_);intro J hJ hJ')|(refine Q0a ?_;intro R hR)|(refine hJ _ ?_;clear hJ hJ' J)|refine Q0h ?_|refine Q0q ?_)|((with_reducible refine hJ' _ _ ?_ ?_);(focus(simp;done));clear hJ hJ' J)|((with_reducible apply Q0d);rfl;rfl;all_goals(intro hc;first|(cases hc;done)|(try simp only at hc)))))))
      all_goals exact fin _ (St.to.of_le (St.le_of (by simp[leT]) (by simp[leH,hget])))
  · have k1:(decide ((i:Int)<(l.length:Int)))=false:=by simpa using hge
    rw[List.take_of_length_le hge]
    dsimp only[bsR]
    (repeat(any_goals(first|((with_reducible refine Q0b ?_ ?_);rfl;intro K hK;simp only[go_sem,k1];((repeat(refine ndI (by first|assumption) ?_));refine hK _ ?_;clear hK K))|(with_reducible first|(refine Q0c ?_;refine hR _ ?_;clear hR R)|((first|refine Q0e ?_);intro J hJ hJ')|(refine Q0a ?_;intro R hR)|(refine hJ _ ?_;clear hJ hJ' J)|refine Q0j ?_|refine Q0q ?_)|((with_reducible refine hJ' _ _ ?_ ?_);(focus(simp;done));clear hJ hJ' J)|((with_reducible apply Q0d);rfl;rfl;all_goals(intro hc;first|(cases hc;done)|(try simp only at hc))))))
    all_goals exact⟨by simp,⟨_,rfl,AV.le_refl _⟩,Q0g (by simp[leH,hget])⟩
 have h1:=hrow.frzG
 simpa [AV.frz,AV.frzL,Q0s Q7t] using h1
end
section
open Go.RowKit
open Nat (reduceBEq)
attribute [-go_sem] IntKind.bits
set_option maxRecDepth 20000
set_option maxHeartbeats 4000000
theorem rassoc_fn(l:List Ev)(hl:l.length≤1000)(ho:∀e∈l,e.ok)(hr:trB l=true)(a:Int)(ha:U a)(key:Nat)(hk:key<WW):Fn Tryz.prog 50 [evs false l,vi .u64 a,wN key] [] (vb (eqwB a key||(Q2g (ownL a) l).any (Q4z key))) []:=by
 have rb:=rbases_fn l hl ho hr a ha
 have rw':=rword_fn a
 have hbo:=X9j ho (ownL a)
 have hbl:(Q2g (ownL a) l).length≤1000:=by have:=X0g (ownL a) l;omega
 generalize Q2g (ownL a) l=bs at rb hbo hbl ⊢
 obtain⟨b1,h1⟩:∃b,(l0 key==a&&(l1 key==0&&(l2 key==0&&l3 key==0)))=b:=⟨_,rfl⟩
 have e1:eqwB a key=b1:=h1
 rw[e1]
 obtain⟨r,hr'⟩:∃r,bs.any (Q4z key)=r:=⟨_,rfl⟩
 rw[hr']
 clear hr ho e1
 cases b1 with
 |true=>
  rw[Bool.true_or]
  clear hr' rb
  (refine Q0t Tryz.func50 rfl (by rfl) ?_;simp only[Tryz.ntmps50,List.length_cons,List.length_nil,Nat.reduceAdd,Nat.reduceSub,List.replicate,List.cons_append,List.nil_append])
  (repeat(any_goals(first|((with_reducible refine Q0b ?_ ?_);rfl;intro K hK;simp only[go_sem,h1];((repeat(refine ndI (by first|assumption) ?_));refine hK _ ?_;clear hK K))|(with_reducible first|(refine Q0c ?_;refine hR _ ?_;clear hR R)|((first|refine Q0e ?_);intro J hJ hJ')|(refine Q0a ?_;intro R hR)|(refine hJ _ ?_;clear hJ hJ' J)|refine Q0j ?_)|((with_reducible refine hJ' _ _ ?_ ?_);(focus(simp;done));clear hJ hJ' J)|((with_reducible apply Q0d);rfl;rfl;all_goals(intro hc;first|(cases hc;done)|(try simp only at hc)))|((with_reducible refine Q0z ?_ ?_);kernel_rfl;(with_reducible refine hR _ ?_);clear hR R)|((first|((with_reducible apply Q1h);rfl;rfl;((apply Q0y (rw');rfl;rfl;rfl;rfl;exact Tryz.func80);kernel_rfl;rfl;(focus((simp only[go_sem,h1]);(try rfl);done));(first|rfl)))|((with_reducible apply Q0x);rfl;rfl;(simp only[rdE,rdOf,go_sem,h1];rfl);(intro τ hA hQ hN;((try simp only[Q1i,Op.operands,Call.operands,go_sem,h1,go_sem,List.mem_cons,List.not_mem_nil,forall_eq_or_imp,forall_eq,List.append_toArray,Option.toArray] at hA);(try simp only[go_sem,h1,List.mem_cons,List.not_mem_nil,forall_eq_or_imp,forall_eq] at hQ hN);(first|(revert hA;intro hA));(first|(revert hQ;intro hQ));(first|(revert hN;intro hN));simp only[go_sem,h1,go_sem,hA,hQ,hN];(repeat(refine ndI (by first|assumption) ?_));(first|apply Q1b)))));(simp only[St.eff,setO,Q0u,go_sem,h1]))|((with_reducible refine Q0w ?_ ?_ ?_ ?_);kernel_rfl;kernel_rfl;(first|kernel_rfl);intro R hR))))
  all_goals(refine⟨by simp,⟨_,?_,AV.le_refl _⟩,Q0g (by simp[leH,hget])⟩;simp only[Tryz.results50,resL,ldA,Q0m,go_sem])
 |false=>
 rw[Bool.false_or]
 (refine Q0t Tryz.func50 rfl (by rfl) ?_;simp only[Tryz.ntmps50,List.length_cons,List.length_nil,Nat.reduceAdd,Nat.reduceSub,List.replicate,List.cons_append,List.nil_append])
 (repeat(any_goals(first|((with_reducible refine Q0l ?_ ?_ ?_);rfl;rfl;intro K hK;((first|(apply Q0i (rb);rfl;rfl;rfl;rfl;exact Tryz.func81));kernel_rfl;rfl;(focus((simp only[go_sem,h1]);(try rfl);done));(first|rfl));(simp only[go_sem,h1];refine hK _ ?_;clear hK K))|((with_reducible refine Q0b ?_ ?_);rfl;intro K hK;simp only[go_sem,h1];((repeat(refine ndI (by first|assumption) ?_));refine hK _ ?_;clear hK K))|(with_reducible first|(refine Q0c ?_;refine hR _ ?_;clear hR R)|((first|refine Q0e ?_|refine Q0f ?_);intro J hJ hJ')|(refine Q0a ?_;intro R hR)|(refine hJ _ ?_;clear hJ hJ' J)|refine Q0h ?_)|((with_reducible apply Q0d);rfl;rfl;all_goals(intro hc;first|(cases hc;done)|(try simp only at hc)))|((with_reducible refine Q0z ?_ ?_);kernel_rfl;(with_reducible refine hR _ ?_);clear hR R)|((first|((with_reducible apply Q1h);rfl;rfl;((first|(apply Q0y (rw');rfl;rfl;rfl;rfl;exact Tryz.func80));kernel_rfl;rfl;(focus((simp only[go_sem,h1]);(try rfl);done));(first|rfl)))|((with_reducible apply Q0x);rfl;rfl;(simp only[rdE,rdOf,go_sem,h1];rfl);(intro τ hA hQ hN;((try simp only[Q1i,Op.operands,Call.operands,go_sem,h1,go_sem,List.mem_cons,List.not_mem_nil,forall_eq_or_imp,forall_eq,List.append_toArray,Option.toArray] at hA);(try simp only[go_sem,h1,List.mem_cons,List.not_mem_nil,forall_eq_or_imp,forall_eq] at hQ hN);(first|(revert hA;intro hA));(first|(revert hQ;intro hQ));(first|(revert hN;intro hN));simp only[go_sem,h1,go_sem,hA,hQ,hN];(repeat(refine ndI (by first|assumption) ?_));(first|apply Q1b)))));(simp only[St.eff,setO,Q0u,go_sem,h1]))|((with_reducible refine Q0w ?_ ?_ ?_ ?_);kernel_rfl;kernel_rfl;(first|kernel_rfl);intro R hR))))
 refine Q1p (α:={i:Nat // i≤bs.length∧(bs.drop i).any (Q4z key)=r}) (fun q=>⟨[.any,.any,.any,.any,.any,.ptr 5 0,vb false,wsl false bs,vi .i64 (q.1:Int),.any,.any,.any,.any,.any,.any,.any,.any,.any,.any,.any,.any,.any,.any,.any,.any,.any,.any,.any],[(5,cN key)]⟩) (fun q=>bs.length-q.1) ⟨0,Nat.zero_le _,hr'⟩ (St.le_of (by simp[leT]) (by simp[leH,hget])) ?_
 rintro ⟨i,hi,hd⟩ J hJ hJ'
 (try dsimp only at hi hd hJ ⊢)
 clear rb rw'
 rcases Nat.lt_or_ge i bs.length with hlt|hge
 · obtain⟨y,hy⟩:∃y,bs[i]? = some y:=⟨_,List.getElem?_eq_getElem hlt⟩
   have k1:(decide ((i:Int)<(bs.length:Int)))=true:=by simpa using hlt
   have k2:=wsl_at hy
   have k7:(i:Int)+1=((i+1:Nat):Int):=by omega
   have hdr:bs.drop i=y::bs.drop (i+1):=by
    rw[List.drop_eq_getElem_cons hlt]
    rw[List.getElem?_eq_getElem hlt] at hy
    rw[Option.some.inj hy]
   have nr:=nearR_fn key y hk (hbo y (List.mem_of_getElem? hy))
   rw[hdr,List.any_cons] at hd
   cases hxy:Q4z key y
   · rw[hxy,Bool.false_or] at hd
     rw[hxy] at nr
     have hJ1:=fun σ'=>hJ σ' ⟨i+1,hlt,hd⟩ (by dsimp only;omega)
     dsimp only at hJ1
     clear hd hdr hxy
     (have W:=ndI k1 (ndI k2 (ndI k7 @wrI));(repeat(any_goals(first|((with_reducible refine Q0b ?_ ?_);rfl;intro K hK;simp(disch:=omega) only[go_sem,W];((repeat(refine ndI (by first|assumption|rfl) ?_));refine hK _ ?_;clear hK K))|(with_reducible first|(refine Q0c ?_;refine hR _ ?_;clear hR R)|((first|refine Q0e ?_|refine Q0f ?_);intro J hJ hJ')|(refine Q0a ?_;intro R hR)|(refine hJ _ ?_;clear hJ hJ' J)|refine Q0h ?_)|((with_reducible refine hJ' _ _ ?_ ?_);(focus(simp;done));clear hJ hJ' J)|((with_reducible apply Q0d);rfl;rfl;all_goals(intro hc;first|(cases hc;done)|(try simp only at hc)))|((with_reducible refine Q0z ?_ ?_);kernel_rfl;(with_reducible refine hR _ ?_);clear hR R)|((first|((with_reducible apply Q1h);rfl;rfl;((apply Q0y (nr);rfl;rfl;rfl;rfl;exact Tryz.func82);kernel_rfl;rfl;(focus((simp(disch:=omega) only[go_sem,W]);(try rfl);done));(first|rfl)))|((with_reducible apply Q0x);rfl;rfl;(simp(disch:=omega) only[rdE,rdOf,go_sem,W];rfl);(intro τ hA hQ hN;((try simp only[Q1i,Op.operands,Call.operands,go_sem,W,go_sem,List.mem_cons,List.not_mem_nil,forall_eq_or_imp,forall_eq,List.append_toArray,Option.toArray] at hA);(try simp only[go_sem,W,List.mem_cons,List.not_mem_nil,forall_eq_or_imp,forall_eq] at hQ hN);(first|(revert hA;intro hA));(first|(revert hQ;intro hQ));(first|(revert hN;intro hN));simp(disch:=omega) only[go_sem,W,go_sem,hA,hQ,hN];(repeat(refine ndI (by first|assumption|omega|rfl) ?_));(first|apply Q1b)))));(simp(disch:=omega) only[St.eff,setO,Q0u,go_sem,W]))|((with_reducible refine Q0w ?_ ?_ ?_ ?_);kernel_rfl;kernel_rfl;(first|kernel_rfl);intro R hR)))))
     all_goals exact hJ1 _ (St.le_of (by simp[leT]) (by simp[leH,hget]))
   · rw[hxy,Bool.true_or] at hd
     rw[hxy] at nr
     have hd:r=true:=hd.symm
     clear hdr hxy
     (have W:=ndI k1 (ndI k2 (ndI k7 @wrI));(repeat(any_goals(first|((with_reducible refine Q0b ?_ ?_);rfl;intro K hK;simp(disch:=omega) only[go_sem,W];((repeat(refine ndI (by first|assumption|rfl) ?_));refine hK _ ?_;clear hK K))|(with_reducible first|(refine Q0c ?_;refine hR _ ?_;clear hR R)|((first|refine Q0e ?_|refine Q0f ?_);intro J hJ hJ')|(refine Q0a ?_;intro R hR)|(refine hJ _ ?_;clear hJ hJ' J)|refine Q0h ?_|refine Q0j ?_)|((with_reducible refine hJ' _ _ ?_ ?_);(focus(simp;done));clear hJ hJ' J)|((with_reducible apply Q0d);rfl;rfl;all_goals(intro hc;first|(cases hc;done)|(try simp only at hc)))|((with_reducible refine Q0z ?_ ?_);kernel_rfl;(with_reducible refine hR _ ?_);clear hR R)|((first|((with_reducible apply Q1h);rfl;rfl;((apply Q0y (nr);rfl;rfl;rfl;rfl;exact Tryz.func82);kernel_rfl;rfl;(focus((simp(disch:=omega) only[go_sem,W]);(try rfl);done));(first|rfl)))|((with_reducible apply Q0x);rfl;rfl;(simp(disch:=omega) only[rdE,rdOf,go_sem,W];rfl);(intro τ hA hQ hN;((try simp only[Q1i,Op.operands,Call.operands,go_sem,W,go_sem,List.mem_cons,List.not_mem_nil,forall_eq_or_imp,forall_eq,List.append_toArray,Option.toArray] at hA);(try simp only[go_sem,W,List.mem_cons,List.not_mem_nil,forall_eq_or_imp,forall_eq] at hQ hN);(first|(revert hA;intro hA));(first|(revert hQ;intro hQ));(first|(revert hN;intro hN));simp(disch:=omega) only[go_sem,W,go_sem,hA,hQ,hN];(repeat(refine ndI (by first|assumption|omega|rfl) ?_));(first|apply Q1b)))));(simp(disch:=omega) only[St.eff,setO,Q0u,go_sem,W]))|((with_reducible refine Q0w ?_ ?_ ?_ ?_);kernel_rfl;kernel_rfl;(first|kernel_rfl);intro R hR)))))
     all_goals rw[hd]
     all_goals(refine⟨by simp,⟨_,?_,AV.le_refl _⟩,Q0g (by simp[leH,hget])⟩;simp only[Tryz.results50,resL,ldA,Q0m,go_sem])
 · have k1:(decide ((i:Int)<(bs.length:Int)))=false:=by simpa using hge
   rw[List.drop_eq_nil_of_le hge] at hd
   have hd:r=false:=hd.symm
   (repeat(any_goals(first|((with_reducible refine Q0b ?_ ?_);rfl;intro K hK;simp only[go_sem,k1];((repeat(refine ndI (by first|assumption) ?_));refine hK _ ?_;clear hK K))|(with_reducible first|(refine Q0c ?_;refine hR _ ?_;clear hR R)|((first|refine Q0e ?_);intro J hJ hJ')|(refine Q0a ?_;intro R hR)|(refine hJ _ ?_;clear hJ hJ' J)|refine Q0j ?_|refine Q0q ?_)|((with_reducible refine hJ' _ _ ?_ ?_);(focus(simp;done));clear hJ hJ' J)|((with_reducible apply Q0d);rfl;rfl;all_goals(intro hc;first|(cases hc;done)|(try simp only at hc))))))
   all_goals rw[hd]
   all_goals(refine⟨by simp,⟨_,?_,AV.le_refl _⟩,Q0g (by simp[leH,hget])⟩;simp only[Tryz.results50,resL,ldA,Q0m,go_sem])
abbrev alR(c:Cs)(r:Nat)(out:List Ev)(i:Nat):St:=⟨[.any,.ptr 1 0,.c (.v (.slice none 0 0)),.row r evT 14 out.length,.any,.any,.any,phs false c.ph,vi .i64 c.ph.length,vi .i64 i,.any,.any,.any,.any,.any,.any,.any,.any,.any],[(1,[vi .u64 c.snd,phs false c.ph,asl false c.cd]),(r,raE out)]⟩
theorem alR_rn(c:Cs)(out:List Ev)(i:Nat):(alR c 16 out i).to (alR c 500 out i):=by
 have h:=St.to.rn (σ:=alR c 16 out i) (fun r=>if r=16 then 500 else r) (fun r=>if r=500 then 16 else r) [16,1] (by simp[AV.inNL,AV.inN]) (by simp) (by simp[inH,AV.inNL,AV.inN,Q0v]) (by simp) (by simp)
 simpa [AV.renL,AV.ren,renH] using h
theorem rall_fn(c:Cs)(hpl:c.ph.length≤1000)(hal:(c.ph.flatMap Ph.tr).length≤1000):Fn Tryz.prog 42 [csA c] [] (evs false (c.ph.flatMap Ph.tr)) []:=by
 have hrow:Fn Tryz.prog 42 [csA c] [] (.row 500 evT 14 (c.ph.flatMap Ph.tr).length) [(500,raE (c.ph.flatMap Ph.tr))]:=by
  (refine Q0t Tryz.func42 rfl (by rfl) ?_;simp only[Tryz.ntmps42,List.length_cons,List.length_nil,Nat.reduceAdd,Nat.reduceSub,List.replicate,List.cons_append,List.nil_append])
  (repeat(any_goals(first|((with_reducible refine Q0b ?_ ?_);rfl;intro K hK;simp only[go_sem];((repeat(refine ndI (by first|assumption) ?_));refine hK _ ?_;clear hK K))|(with_reducible first|(refine Q0c ?_;refine hR _ ?_;clear hR R)|((first|refine Q0e ?_|refine Q0f ?_);intro J hJ hJ')|(refine Q0a ?_;intro R hR)|(refine hJ _ ?_;clear hJ hJ' J)))))
  refine Q3r c.ph.length (fun i=>alR c 500 ((c.ph.take i).flatMap Ph.tr) i) ?_ ?_
  · refine St.to.trans (St.to.of_le (τ:=⟨[.any,.ptr 1 0,.c (.v (.slice none 0 0)),.c (.v (.slice none 0 0)),.any,.any,.any,phs false c.ph,vi .i64 c.ph.length,vi .i64 0,.any,.any,.any,.any,.any,.any,.any,.any,.any],[(1,[vi .u64 c.snd,phs false c.ph,asl false c.cd])]⟩) (St.le_of (by simp[leT]) (by simp[leH,hget]))) ?_
    refine St.to.trans (St.to.nilrow 3 500 evT 14 rfl (by simp) (by simp[St.free,Q1z,AV.refsL,AV.refs]) (by decide)) (St.to.of_le (St.le_of (by simp[leT]) (by simp[leH,hget,hput])))
  intro i hi J hJ hJ'
  (try dsimp only at hJ ⊢)
  rcases Nat.lt_or_ge i c.ph.length with hlt|hge
  · obtain⟨y,hy⟩:∃y,c.ph[i]? = some y:=⟨_,List.getElem?_eq_getElem hlt⟩
    have c1:(decide ((i:Int)<(c.ph.length:Int)))=true:=by simpa using hlt
    have c2:=Q4x hy
    have c7:(i:Int)+1=((i+1:Nat):Int):=by omega
    have d2:(c.ph.take (i+1)).flatMap Ph.tr=(c.ph.take i).flatMap Ph.tr++y.tr:=by
     rw[List.take_add_one,hy,List.flatMap_append];simp
    have b1:((c.ph.take i).flatMap Ph.tr).length+y.tr.length≤1000:=by
     have h:=congrArg List.length (congrArg (List.flatMap Ph.tr) (List.take_append_drop (i+1) c.ph))
     rw[List.flatMap_append,List.length_append,d2,List.length_append] at h
     omega
    have fin:=fun σ'=>hJ σ' hlt
    rw[d2] at fin
    generalize (c.ph.take i).flatMap Ph.tr=out at b1 fin ⊢
    dsimp only[alR]
    have x1:∀d,AV.refsL d (raE out)=false:=fun d=>Q0o d _
    have x2:=Q9k out
    have x3:(y.tr.flatMap Ev.pv).length=y.tr.length*14:=Q0s Q9v _
    have x4:((y.tr.flatMap Ev.pv).map AV.c).length=y.tr.length*14:=by rw[List.length_map,x3]
    clear d2
    (repeat(any_goals(first|((with_reducible refine Q0b ?_ ?_);rfl;intro K hK;simp(disch:=omega) only[go_sem,c1,c2,c7,x1,x2,x3,x4,Q0o,wrI];((repeat(refine ndI (by first|assumption|omega|rfl) ?_));refine hK _ ?_;clear hK K))|(with_reducible first|(refine Q0c ?_;refine hR _ ?_;clear hR R)|((first|refine Q0e ?_|refine Q0f ?_);intro J hJ hJ')|(refine Q0a ?_;intro R hR)|(refine hJ _ ?_;clear hJ hJ' J)|refine Q0h ?_)|((with_reducible refine hJ' _ _ ?_ ?_);(focus(simp;done));clear hJ hJ' J)|((with_reducible apply Q0d);rfl;rfl;all_goals(intro hc;first|(cases hc;done)|(try simp only at hc))))))
    all_goals exact fin _ (St.to.trans (St.to.of_le (τ:=alR c 16 (out++y.tr) (i+1)) (St.le_of (by simp[leT]) (by simp[leH,hget,raE]))) (alR_rn c _ _))
  · have c1:(decide ((i:Int)<(c.ph.length:Int)))=false:=by simpa using hge
    rw[List.take_of_length_le hge]
    dsimp only[alR]
    (repeat(any_goals(first|((with_reducible refine Q0b ?_ ?_);rfl;intro K hK;simp only[go_sem,c1];((repeat(refine ndI (by first|assumption) ?_));refine hK _ ?_;clear hK K))|(with_reducible first|(refine Q0c ?_;refine hR _ ?_;clear hR R)|((first|refine Q0e ?_);intro J hJ hJ')|(refine Q0a ?_;intro R hR)|(refine hJ _ ?_;clear hJ hJ' J)|refine Q0j ?_|refine Q0q ?_)|((with_reducible refine hJ' _ _ ?_ ?_);(focus(simp;done));clear hJ hJ' J)|((with_reducible apply Q0d);rfl;rfl;all_goals(intro hc;first|(cases hc;done)|(try simp only at hc))))))
    all_goals exact⟨by simp,⟨_,rfl,AV.le_refl _⟩,Q0g (by simp[leH,hget])⟩
 have h1:=hrow.frzG
 generalize c.ph.flatMap Ph.tr=AL at h1 ⊢
 simpa [AV.frz,AV.frzL,Q0s Q9v] using h1
def belB(c:Cs)(s:Sp)(a:Int):Bool:=(s.a==a)||(eqwB a s.k||(Q2g (ownL a) (c.ph.flatMap Ph.tr)).any (Q4z s.k))
theorem rbel_fn(c:Cs)(hc:c.ok)(hr:trB (c.ph.flatMap Ph.tr)=true)(hal:(c.ph.flatMap Ph.tr).length≤1000)(s:Sp)(hs:s.ok)(a:Int)(ha:U a):Fn Tryz.prog 15 [csA c,spA s,vi .u64 a] [] (vb (belB c s a)) []:=by
 have al:=rall_fn c hc.2.1.1 hal
 have as':=rassoc_fn (c.ph.flatMap Ph.tr) hal (all_ok hc) hr a ha s.k hs.2
 unfold belB
 generalize (eqwB a s.k||(Q2g (ownL a) (c.ph.flatMap Ph.tr)).any (Q4z s.k))=b2 at as' ⊢
 obtain⟨b1,h1⟩:∃b,(s.a==a)=b:=⟨_,rfl⟩
 rw[h1]
 generalize c.ph.flatMap Ph.tr=AL at al as'
 clear hr hal
 cases b1 with
 |true=>
  (refine Q0t Tryz.func15 rfl (by rfl) ?_;simp only[Tryz.ntmps15,List.length_cons,List.length_nil,Nat.reduceAdd,Nat.reduceSub,List.replicate,List.cons_append,List.nil_append])
  (repeat(any_goals(first|((with_reducible refine Q0b ?_ ?_);rfl;intro K hK;simp only[go_sem,h1];((repeat(refine ndI (by first|assumption) ?_));refine hK _ ?_;clear hK K))|(with_reducible first|(refine Q0c ?_;refine hR _ ?_;clear hR R)|((first|refine Q0e ?_);intro J hJ hJ')|(refine Q0a ?_;intro R hR)|(refine hJ _ ?_;clear hJ hJ' J)|refine Q0j ?_)|((with_reducible refine Q0z ?_ ?_);kernel_rfl;(with_reducible refine hR _ ?_);clear hR R)|((first|((with_reducible apply Q3q);rfl;rfl;rfl;rfl)|((first|((with_reducible apply Q0x);rfl;rfl));(simp only[rdE,rdOf,go_sem,h1];rfl);(intro τ hA hQ hN;((try simp only[Q1i,Op.operands,Call.operands,go_sem,h1,go_sem,List.mem_cons,List.not_mem_nil,forall_eq_or_imp,forall_eq,List.append_toArray,Option.toArray] at hA);(try simp only[go_sem,h1,List.mem_cons,List.not_mem_nil,forall_eq_or_imp,forall_eq] at hQ hN);(first|(revert hA;intro hA));(first|(revert hQ;intro hQ));(first|(revert hN;intro hN));simp only[go_sem,h1,go_sem,hA,hQ,hN];(repeat(refine ndI (by first|assumption) ?_));(first|apply Q1b)))));(simp only[St.eff,setO,Q0u,go_sem,h1]))|((with_reducible refine Q0w ?_ ?_ ?_ ?_);kernel_rfl;kernel_rfl;(first|kernel_rfl);intro R hR))))
  all_goals(refine⟨by simp,⟨_,?_,AV.le_refl _⟩,Q0g (by simp[leH,hget])⟩;simp only[Tryz.results15,resL,ldA,Q0m,go_sem])
 |false=>
  (refine Q0t Tryz.func15 rfl (by rfl) ?_;simp only[Tryz.ntmps15,List.length_cons,List.length_nil,Nat.reduceAdd,Nat.reduceSub,List.replicate,List.cons_append,List.nil_append])
  (repeat(any_goals(first|((with_reducible refine Q0b ?_ ?_);rfl;intro K hK;simp only[go_sem,h1];((repeat(refine ndI (by first|assumption) ?_));refine hK _ ?_;clear hK K))|(with_reducible first|(refine Q0c ?_;refine hR _ ?_;clear hR R)|((first|refine Q0e ?_);intro J hJ hJ')|(refine Q0a ?_;intro R hR)|(refine hJ _ ?_;clear hJ hJ' J)|refine Q0j ?_)|((with_reducible refine Q0z ?_ ?_);kernel_rfl;(with_reducible refine hR _ ?_);clear hR R)|((first|((first|((with_reducible apply Q3i);rfl;rfl;rfl;rfl;rfl));((first|(apply Q0y (al);rfl;rfl;rfl;rfl;exact Tryz.func42)|(apply Q0y (as');rfl;rfl;rfl;rfl;exact Tryz.func50));kernel_rfl;rfl;(focus((simp only[go_sem,h1]);(try rfl);done));(first|rfl)))|((first|((with_reducible apply Q0x);rfl;rfl)|((with_reducible apply Q3c);rfl;rfl;rfl;rfl;rfl));(simp only[rdE,rdOf,go_sem,h1];rfl);(intro τ hA hQ hN;((try simp only[Q1i,Op.operands,Call.operands,go_sem,h1,go_sem,List.mem_cons,List.not_mem_nil,forall_eq_or_imp,forall_eq,List.append_toArray,Option.toArray] at hA);(try simp only[go_sem,h1,List.mem_cons,List.not_mem_nil,forall_eq_or_imp,forall_eq] at hQ hN);(first|(revert hA;intro hA));(first|(revert hQ;intro hQ));(first|(revert hN;intro hN));simp only[go_sem,h1,go_sem,hA,hQ,hN];(repeat(refine ndI (by first|assumption) ?_));(first|apply Q1b)))));(simp only[St.eff,setO,Q0u,go_sem,h1]))|((with_reducible refine Q0w ?_ ?_ ?_ ?_);kernel_rfl;kernel_rfl;(first|kernel_rfl);intro R hR))))
  all_goals(refine⟨by simp,⟨_,?_,AV.le_refl _⟩,Q0g (by simp[leH,hget])⟩;simp only[Tryz.results15,resL,ldA,Q0m,go_sem])
end
section
open Go.RowKit
open Nat (reduceBEq)
attribute [-go_sem] IntKind.bits
set_option maxRecDepth 20000
set_option maxHeartbeats 4000000
theorem X9z(c:Cs)(p:Ph)(hp:c.ph[0]? = some p)(hr:(p.role==1)=true):Fn Tryz.prog 99 [csA c] [] (.tup [phA p,vb true]) []:=by
 have k2:=Q4x hp
 have hl:0<c.ph.length:=by
  rcases Nat.eq_zero_or_pos c.ph.length with h|h
  · rw[List.eq_nil_of_length_eq_zero h] at hp;cases hp
  · exact h
 simp only[Nat.zero_mul,List.drop_zero] at k2
 (refine Q0t Tryz.func99 rfl (by rfl) ?_;simp only[Tryz.ntmps99,List.length_cons,List.length_nil,Nat.reduceAdd,Nat.reduceSub,List.replicate,List.cons_append,List.nil_append])
 (repeat(any_goals(first|((with_reducible refine Q0b ?_ ?_);rfl;intro K hK;simp(disch:=omega) only[go_sem,k2,hr];((repeat(refine ndI (by first|assumption|omega|rfl) ?_));refine hK _ ?_;clear hK K))|(with_reducible first|(refine Q0c ?_;refine hR _ ?_;clear hR R)|((first|refine Q0e ?_);intro J hJ hJ')|(refine Q0a ?_;intro R hR)|(refine hJ _ ?_;clear hJ hJ' J)|refine Q0j ?_)|((with_reducible refine hJ' _ _ ?_ ?_);(focus(simp;done));clear hJ hJ' J)|((with_reducible apply Q0d);rfl;rfl;all_goals(intro hc;first|(cases hc;done)|(try simp only at hc))))))
 all_goals(refine⟨by simp,⟨_,?_,AV.le_refl _⟩,Q0g (by simp[leH,hget])⟩;simp only[Tryz.results99,resL,ldA,Q0m,go_sem])
theorem rmaker_no(c:Cs)(p:Ph)(hp:c.ph[0]? = some p)(hr:(p.role==1)=false):Fn Tryz.prog 99 [csA c] [] (.tup [.agg [vi .i64 0,vi .u64 0,vb false,nilA],vb false]) []:=by
 have k2:=Q4x hp
 have hl:0<c.ph.length:=by
  rcases Nat.eq_zero_or_pos c.ph.length with h|h
  · rw[List.eq_nil_of_length_eq_zero h] at hp;cases hp
  · exact h
 simp only[Nat.zero_mul,List.drop_zero] at k2
 (refine Q0t Tryz.func99 rfl (by rfl) ?_;simp only[Tryz.ntmps99,List.length_cons,List.length_nil,Nat.reduceAdd,Nat.reduceSub,List.replicate,List.cons_append,List.nil_append])
 (repeat(any_goals(first|((with_reducible refine Q0b ?_ ?_);rfl;intro K hK;simp(disch:=omega) only[go_sem,k2,hr];((repeat(refine ndI (by first|assumption|omega|rfl) ?_));refine hK _ ?_;clear hK K))|(with_reducible first|(refine Q0c ?_;refine hR _ ?_;clear hR R)|((first|refine Q0e ?_);intro J hJ hJ')|(refine Q0a ?_;intro R hR)|(refine hJ _ ?_;clear hJ hJ' J)|refine Q0h ?_|refine Q0j ?_)|((with_reducible apply Q0d);rfl;rfl;all_goals(intro hc;first|(cases hc;done)|(try simp only at hc))))))
 all_goals(refine⟨by simp,⟨_,?_,AV.le_refl _⟩,Q0g (by simp[leH,hget])⟩;simp only[Tryz.results99,resL,ldA,Q0m,go_sem])
def mkP(p:Ph):Ph:=if (p.role==1)=true then p else⟨0,0,false,[]⟩
theorem X4a(c:Cs)(p:Ph)(hp:c.ph[0]? = some p):Fn Tryz.prog 99 [csA c] [] (.tup [phA (mkP p),vb (p.role==1)]) []:=by
 unfold mkP
 cases hr:(p.role==1) with
 |true=>rw[if_pos rfl];exact X9z c p hp hr
 |false=>
  rw[if_neg (by simp)]
  exact(rmaker_no c p hp hr).weaken (AV.le_tupL ⟨AV.le_agg ⟨AV.le_refl _,AV.le_refl _,AV.le_refl _,AV.le_nil false 14,trivial⟩,AV.le_refl _,trivial⟩) fun r cs h=>by cases h
theorem Z0c(c:Cs)(hcl:c.cd.length≤1000)(a:Int)(q:Ph)(b:Bool)(mk:Fn Tryz.prog 99 [csA c] [] (.tup [phA q,vb b]) []):Fn Tryz.prog 98 [csA c,vi .u64 a] [] (vb (Q6c c b a)) []:=by
 obtain⟨q0,q1,q2,q3⟩:=q
 obtain⟨s,ph,cd⟩:=c
 dsimp only at hcl
 change Fn _ _ [.agg [vi .u64 s,phs false ph,asl false cd]] _ _ _ at mk
 obtain⟨r,hr'⟩:∃r,cd.any (fun x=>x==a)=r:=⟨_,rfl⟩
 obtain⟨b2,h2⟩:∃b,(a==s)=b:=⟨_,rfl⟩
 have e:Q6c ⟨s,ph,cd⟩ b a=(r||(b&&b2)):=by
  unfold Q6c
  rw[h2,←hr']
  congr 1
  rw[Bool.eq_iff_iff,decide_eq_true_iff,List.any_eq_true]
  simp
 obtain⟨f,hf⟩:∃f,(r||(b&&b2))=f:=⟨_,rfl⟩
 rw[e,hf]
 clear e
 (refine Q0t Tryz.func98 rfl (by rfl) ?_;simp only[Tryz.ntmps98,List.length_cons,List.length_nil,Nat.reduceAdd,Nat.reduceSub,List.replicate,List.cons_append,List.nil_append])
 (repeat(any_goals(first|((with_reducible refine Q0b ?_ ?_);rfl;intro K hK;simp only[go_sem];((repeat(refine ndI (by first|assumption) ?_));refine hK _ ?_;clear hK K))|(with_reducible first|(refine Q0c ?_;refine hR _ ?_;clear hR R)|((first|refine Q0e ?_|refine Q0f ?_);intro J hJ hJ')|(refine Q0a ?_;intro R hR)|(refine hJ _ ?_;clear hJ hJ' J)))))
 refine Q1p (α:={i:Nat // i≤cd.length∧(cd.drop i).any (fun x=>x==a)=r}) (fun q=>⟨[.any,vi .u64 a,.ptr 2 0,.any,vb false,.any,.any,.any,.any,.any,asl false cd,vi .i64 cd.length,vi .i64 (q.1:Int),.any,.any,.any,.any,.any,.any,.any,.any,.any,.any,.any,.any,.any,.any,.any,.any,.any,.any,.any],[(2,[vi .u64 s,phs false ph,asl false cd])]⟩) (fun q=>cd.length-q.1) ⟨0,Nat.zero_le _,hr'⟩ (St.le_of (by simp[leT]) (by simp[leH,hget])) ?_
 rintro ⟨i,hi,hd⟩ J hJ hJ'
 (try dsimp only at hi hd hJ ⊢)
 rcases Nat.lt_or_ge i cd.length with hlt|hge
 · obtain⟨y,hy⟩:∃y,cd[i]? = some y:=⟨_,List.getElem?_eq_getElem hlt⟩
   have k1:(decide ((i:Int)<(cd.length:Int)))=true:=by simpa using hlt
   have k2:=Q6f hy
   have k7:(i:Int)+1=((i+1:Nat):Int):=by omega
   have hdr:cd.drop i=y::cd.drop (i+1):=by
    rw[List.drop_eq_getElem_cons hlt]
    rw[List.getElem?_eq_getElem hlt] at hy
    rw[Option.some.inj hy]
   rw[hdr,List.any_cons] at hd
   cases hxy:(y==a)
   · rw[hxy,Bool.false_or] at hd
     have hJ1:=fun σ'=>hJ σ' ⟨i+1,hlt,hd⟩ (by dsimp only;omega)
     dsimp only at hJ1
     clear hd hdr
     (have W:=ndI k1 (ndI k2 (ndI k7 @wrI));(repeat(any_goals(first|((with_reducible refine Q0b ?_ ?_);rfl;intro K hK;simp(disch:=omega) only[go_sem,W,hxy,Nat.mul_one];((repeat(refine ndI (by first|assumption|omega|rfl) ?_));refine hK _ ?_;clear hK K))|(with_reducible first|(refine Q0c ?_;refine hR _ ?_;clear hR R)|((first|refine Q0e ?_|refine Q0f ?_);intro J hJ hJ')|(refine Q0a ?_;intro R hR)|(refine hJ _ ?_;clear hJ hJ' J)|refine Q0h ?_)|((with_reducible refine hJ' _ _ ?_ ?_);(focus(simp;done));clear hJ hJ' J)|((with_reducible apply Q0d);rfl;rfl;all_goals(intro hc;first|(cases hc;done)|(try simp only at hc)))))))
     all_goals exact hJ1 _ (St.le_of (by simp[leT]) (by simp[leH,hget]))
   · rw[hxy,Bool.true_or] at hd
     have hd:f=true:=by rw[←hf,←hd,Bool.true_or]
     clear hdr hf
     (have W:=ndI k1 (ndI k2 (ndI k7 @wrI));(repeat(any_goals(first|((with_reducible refine Q0b ?_ ?_);rfl;intro K hK;simp(disch:=omega) only[go_sem,W,hxy,Nat.mul_one];((repeat(refine ndI (by first|assumption|omega|rfl) ?_));refine hK _ ?_;clear hK K))|(with_reducible first|(refine Q0c ?_;refine hR _ ?_;clear hR R)|((first|refine Q0e ?_|refine Q0f ?_);intro J hJ hJ')|(refine Q0a ?_;intro R hR)|(refine hJ _ ?_;clear hJ hJ' J)|refine Q0h ?_|refine Q0j ?_)|((with_reducible refine hJ' _ _ ?_ ?_);(focus(simp;done));clear hJ hJ' J)|((with_reducible apply Q0d);rfl;rfl;all_goals(intro hc;first|(cases hc;done)|(try simp only at hc)))))))
     all_goals rw[hd]
     all_goals(refine⟨by simp,⟨_,?_,AV.le_refl _⟩,Q0g (by simp[leH,hget])⟩;simp only[Tryz.results98,resL,ldA,Q0m,go_sem])
 · have k1:(decide ((i:Int)<(cd.length:Int)))=false:=by simpa using hge
   rw[List.drop_eq_nil_of_le hge] at hd
   have hd:f=(b&&b2):=by rw[←hf,←hd];rfl
   clear hf
   cases b with
   |true=>
    have hd:f=b2:=hd
    (repeat(any_goals(first|((with_reducible refine Q0l ?_ ?_ ?_);rfl;rfl;intro K hK;((apply Q0i (mk);rfl;rfl;rfl;rfl;exact Tryz.func99);kernel_rfl;rfl;(focus((simp only[go_sem,k1,h2]);(try rfl);done));(first|rfl));(simp only[go_sem,k1,h2];refine hK _ ?_;clear hK K))|((with_reducible refine Q0b ?_ ?_);rfl;intro K hK;simp only[go_sem,k1,h2];((repeat(refine ndI (by first|assumption) ?_));refine hK _ ?_;clear hK K))|(with_reducible first|(refine Q0c ?_;refine hR _ ?_;clear hR R)|((first|refine Q0e ?_);intro J hJ hJ')|(refine Q0a ?_;intro R hR)|(refine hJ _ ?_;clear hJ hJ' J)|refine Q0j ?_|refine Q0q ?_)|((with_reducible refine hJ' _ _ ?_ ?_);(focus(simp;done));clear hJ hJ' J)|((with_reducible apply Q0p);rfl;rfl;rfl;all_goals(intro hb;first|(cases hb;done)|((try simp only[Bool.not_true,Bool.not_false] at hb);(first|((with_reducible intro K hK);simp only[go_sem,k1,h2];((repeat(refine ndI (by first|assumption) ?_));refine hK _ ?_;clear hK K))))))|((with_reducible apply Q0d);rfl;rfl;all_goals(intro hc;first|(cases hc;done)|(try simp only at hc))))))
    all_goals rw[hd]
    all_goals(refine⟨by simp,⟨_,?_,AV.le_refl _⟩,Q0g (by simp[leH,hget])⟩;simp only[Tryz.results98,resL,ldA,Q0m,go_sem])
   |false=>
    have hd:f=false:=hd
    (repeat(any_goals(first|((with_reducible refine Q0l ?_ ?_ ?_);rfl;rfl;intro K hK;((apply Q0i (mk);rfl;rfl;rfl;rfl;exact Tryz.func99);kernel_rfl;rfl;(focus((simp only[go_sem,k1,h2]);(try rfl);done));(first|rfl));(simp only[go_sem,k1,h2];refine hK _ ?_;clear hK K))|((with_reducible refine Q0b ?_ ?_);rfl;intro K hK;simp only[go_sem,k1,h2];((repeat(refine ndI (by first|assumption) ?_));refine hK _ ?_;clear hK K))|(with_reducible first|(refine Q0c ?_;refine hR _ ?_;clear hR R)|((first|refine Q0e ?_);intro J hJ hJ')|(refine Q0a ?_;intro R hR)|(refine hJ _ ?_;clear hJ hJ' J)|refine Q0j ?_|refine Q0q ?_)|((with_reducible refine hJ' _ _ ?_ ?_);(focus(simp;done));clear hJ hJ' J)|((with_reducible apply Q0p);rfl;rfl;rfl;all_goals(intro hb;first|(cases hb;done)|((try simp only[Bool.not_true,Bool.not_false] at hb);(first|((fail_if_success (with_reducible intro _));simp only[go_sem,k1,h2])))))|((with_reducible apply Q0d);rfl;rfl;all_goals(intro hc;first|(cases hc;done)|(try simp only at hc))))))
    all_goals rw[hd]
    all_goals(refine⟨by simp,⟨_,?_,AV.le_refl _⟩,Q0g (by simp[leH,hget])⟩;simp only[Tryz.results98,resL,ldA,Q0m,go_sem])
theorem X6h(c:Cs)(p:Ph)(hpl:p.tr.length≤1000)(at_:Nat)(y:Ev)(hy:p.tr[at_]? = some y):Fn Tryz.prog 96 [csA c,phA p,vi .i64 at_] [] (vb (Q7e c p at_ y)) []:=by
 obtain⟨r,hr'⟩:∃r,idxF creB p.tr 0=r:=⟨_,rfl⟩
 obtain⟨b1,h1⟩:∃b,(p.role==1)=b:=⟨_,rfl⟩
 obtain⟨f,hf⟩:∃f,Q7e c p at_ y=f:=⟨_,rfl⟩
 have ef:f=((b1&&(y.to==c.snd))&&(r==(at_:Int))):=by rw[←hf,←h1,←hr'];rfl
 rw[hf]
 clear hf
 obtain⟨ro,wh,sk,tr⟩:=p
 obtain⟨s,ph,cd⟩:=c
 dsimp only at *
 (refine Q0t Tryz.func96 rfl (by rfl) ?_;simp only[Tryz.ntmps96,List.length_cons,List.length_nil,Nat.reduceAdd,Nat.reduceSub,List.replicate,List.cons_append,List.nil_append])
 (repeat(any_goals(first|((with_reducible refine Q0b ?_ ?_);rfl;intro K hK;simp only[go_sem];((repeat(refine ndI (by first|assumption) ?_));refine hK _ ?_;clear hK K))|(with_reducible first|(refine Q0c ?_;refine hR _ ?_;clear hR R)|((first|refine Q0e ?_|refine Q0f ?_);intro J hJ hJ')|(refine Q0a ?_;intro R hR)|(refine hJ _ ?_;clear hJ hJ' J)))))
 refine Q1p (α:={i:Nat // i≤tr.length∧idxF creB (tr.drop i) i=r}) (fun q=>⟨[.any,.any,vi .i64 (at_:Int),.ptr 3 0,.ptr 4 0,.any,vb false,.any,.any,.any,evs false tr,vi .i64 tr.length,vi .i64 (q.1:Int),.any,.any,.any,.any,.any,.any,.any,.any,.any,.any,.any,.any,.any,.any,.any,.any,.any,.any,.any,.any,.any,.any,.any,.any,.any,.any,.any,.any],[(3,[vi .u64 s,phs false ph,asl false cd]),(4,[vi .i64 ro,vi .u64 wh,vb sk,evs false tr])]⟩) (fun q=>tr.length-q.1) ⟨0,Nat.zero_le _,hr'⟩ (St.le_of (by simp[leT]) (by simp[leH,hget])) ?_
 rintro ⟨i,hi,hd⟩ J hJ hJ'
 (try dsimp only at hi hd hJ ⊢)
 clear hr'
 rcases Nat.lt_or_ge i tr.length with hlt|hge
 · obtain⟨x,hx⟩:∃x,tr[i]? = some x:=⟨_,List.getElem?_eq_getElem hlt⟩
   have k1:(decide ((i:Int)<(tr.length:Int)))=true:=by simpa using hlt
   have k2:=Q8k hx
   have k7:(i:Int)+1=((i+1:Nat):Int):=by omega
   have hdr:tr.drop i=x::tr.drop (i+1):=by
    rw[List.drop_eq_getElem_cons hlt]
    rw[List.getElem?_eq_getElem hlt] at hx
    rw[Option.some.inj hx]
   rw[hdr] at hd
   unfold idxF at hd
   obtain⟨c1,g1⟩:∃b,(x.kind==4)=b:=⟨_,rfl⟩
   obtain⟨c2,g2⟩:∃b,((x.op:Int)==245)=b:=⟨_,rfl⟩
   have ec:creB x=(c1&&c2):=by unfold creB;rw[g1,g2]
   rw[ec] at hd
   cases hcc:(c1&&c2) with
   |false=>
    rw[hcc,if_neg (by simp)] at hd
    have hJ1:=fun σ'=>hJ σ' ⟨i+1,hlt,hd⟩ (by dsimp only;omega)
    dsimp only at hJ1
    clear hd hdr ec ef
    cases c1 with
    |false=>
     (have W:=ndI k1 (ndI k2 (ndI k7 (ndI g1 @wrI)));(repeat(any_goals(first|((with_reducible refine Q0b ?_ ?_);rfl;intro K hK;simp(disch:=omega) only[go_sem,W];((repeat(refine ndI (by first|assumption|omega|rfl) ?_));refine hK _ ?_;clear hK K))|(with_reducible first|(refine Q0c ?_;refine hR _ ?_;clear hR R)|((first|refine Q0e ?_|refine Q0f ?_);intro J hJ hJ')|(refine Q0a ?_;intro R hR)|(refine hJ _ ?_;clear hJ hJ' J)|refine Q0h ?_)|((with_reducible refine hJ' _ _ ?_ ?_);(focus(simp;done));clear hJ hJ' J)|((with_reducible apply Q0p);rfl;rfl;rfl;all_goals(intro hb;first|(cases hb;done)|((try simp only[Bool.not_true,Bool.not_false] at hb);(first|((fail_if_success (with_reducible intro _));simp(disch:=omega) only[go_sem,W])))))|((with_reducible apply Q0d);rfl;rfl;all_goals(intro hc;first|(cases hc;done)|(try simp only at hc)))))))
     all_goals exact hJ1 _ (St.le_of (by simp[leT]) (by simp[leH,hget]))
    |true=>
     have g2:((x.op:Int)==245)=false:=by rw[g2];simpa using hcc
     (have W:=ndI k1 (ndI k2 (ndI k7 (ndI g1 (ndI g2 @wrI))));(repeat(any_goals(first|((with_reducible refine Q0b ?_ ?_);rfl;intro K hK;simp(disch:=omega) only[go_sem,W];((repeat(refine ndI (by first|assumption|omega|rfl) ?_));refine hK _ ?_;clear hK K))|(with_reducible first|(refine Q0c ?_;refine hR _ ?_;clear hR R)|((first|refine Q0e ?_|refine Q0f ?_);intro J hJ hJ')|(refine Q0a ?_;intro R hR)|(refine hJ _ ?_;clear hJ hJ' J)|refine Q0h ?_)|((with_reducible refine hJ' _ _ ?_ ?_);(focus(simp;done));clear hJ hJ' J)|((with_reducible apply Q0p);rfl;rfl;rfl;all_goals(intro hb;first|(cases hb;done)|((try simp only[Bool.not_true,Bool.not_false] at hb);(first|((with_reducible intro K hK);simp(disch:=omega) only[go_sem,W];((repeat(refine ndI (by first|assumption|rfl) ?_));refine hK _ ?_;clear hK K))))))|((with_reducible apply Q0d);rfl;rfl;all_goals(intro hc;first|(cases hc;done)|(try simp only at hc)))))))
     all_goals exact hJ1 _ (St.le_of (by simp[leT]) (by simp[leH,hget]))
   |true=>
    rw[hcc,if_pos rfl] at hd
    rw[Bool.and_eq_true_iff] at hcc
    obtain⟨e1,e2⟩:=hcc
    rw[e1] at g1
    rw[e2] at g2
    obtain⟨d1,n1⟩:∃b,((i:Int)==(at_:Int))=b:=⟨_,rfl⟩
    obtain⟨d2,n2⟩:∃b,(x.to==s)=b:=⟨_,rfl⟩
    have ff:f=(d1&&(b1&&d2)):=by
     rw[ef,←hd,n1]
     cases d1 with
     |false=>rw[Bool.and_false,Bool.false_and]
     |true=>
      have:i=at_:=by have:=beq_iff_eq.1 n1;omega
      rw[this,hy] at hx
      cases hx
      rw[n2,Bool.and_true,Bool.true_and]
    clear hd hdr ec ef e1 e2
    cases d1 with
    |false=>
     have ff:f=false:=ff
     (have W:=ndI k1 (ndI k2 (ndI k7 (ndI g1 (ndI g2 (ndI n1 @wrI)))));(repeat(any_goals(first|((with_reducible refine Q0b ?_ ?_);rfl;intro K hK;simp(disch:=omega) only[go_sem,W];((repeat(refine ndI (by first|assumption|omega|rfl) ?_));refine hK _ ?_;clear hK K))|(with_reducible first|(refine Q0c ?_;refine hR _ ?_;clear hR R)|((first|refine Q0e ?_|refine Q0f ?_);intro J hJ hJ')|(refine Q0a ?_;intro R hR)|(refine hJ _ ?_;clear hJ hJ' J)|refine Q0h ?_|refine Q0j ?_)|((with_reducible refine hJ' _ _ ?_ ?_);(focus(simp;done));clear hJ hJ' J)|((with_reducible apply Q0p);rfl;rfl;rfl;all_goals(intro hb;first|(cases hb;done)|((try simp only[Bool.not_true,Bool.not_false] at hb);(first|((with_reducible intro K hK);simp(disch:=omega) only[go_sem,W];((repeat(refine ndI (by first|assumption|rfl) ?_));refine hK _ ?_;clear hK K))|((fail_if_success (with_reducible intro _));simp(disch:=omega) only[go_sem,W])))))|((with_reducible apply Q0d);rfl;rfl;all_goals(intro hc;first|(cases hc;done)|(try simp only at hc)))))))
     all_goals rw[ff]
     all_goals(refine⟨by simp,⟨_,?_,AV.le_refl _⟩,Q0g (by simp[leH,hget])⟩;simp only[Tryz.results96,resL,ldA,Q0m,go_sem])
    |true=>
    cases b1 with
    |false=>
     have ff:f=false:=ff
     (have W:=ndI k1 (ndI k2 (ndI k7 (ndI g1 (ndI g2 (ndI n1 (ndI h1 @wrI))))));(repeat(any_goals(first|((with_reducible refine Q0b ?_ ?_);rfl;intro K hK;simp(disch:=omega) only[go_sem,W];((repeat(refine ndI (by first|assumption|omega|rfl) ?_));refine hK _ ?_;clear hK K))|(with_reducible first|(refine Q0c ?_;refine hR _ ?_;clear hR R)|((first|refine Q0e ?_|refine Q0f ?_);intro J hJ hJ')|(refine Q0a ?_;intro R hR)|(refine hJ _ ?_;clear hJ hJ' J)|refine Q0h ?_|refine Q0j ?_)|((with_reducible refine hJ' _ _ ?_ ?_);(focus(simp;done));clear hJ hJ' J)|((with_reducible apply Q0p);rfl;rfl;rfl;all_goals(intro hb;first|(cases hb;done)|((try simp only[Bool.not_true,Bool.not_false] at hb);(first|((with_reducible intro K hK);simp(disch:=omega) only[go_sem,W];((repeat(refine ndI (by first|assumption|rfl) ?_));refine hK _ ?_;clear hK K))|((fail_if_success (with_reducible intro _));simp(disch:=omega) only[go_sem,W])))))|((with_reducible apply Q0d);rfl;rfl;all_goals(intro hc;first|(cases hc;done)|(try simp only at hc)))))))
     all_goals rw[ff]
     all_goals(refine⟨by simp,⟨_,?_,AV.le_refl _⟩,Q0g (by simp[leH,hget])⟩;simp only[Tryz.results96,resL,ldA,Q0m,go_sem])
    |true=>
     have ff:f=d2:=ff
     (have W:=ndI k1 (ndI k2 (ndI k7 (ndI g1 (ndI g2 (ndI n1 (ndI n2 (ndI h1 @wrI)))))));(repeat(any_goals(first|((with_reducible refine Q0b ?_ ?_);rfl;intro K hK;simp(disch:=omega) only[go_sem,W];((repeat(refine ndI (by first|assumption|omega|rfl) ?_));refine hK _ ?_;clear hK K))|(with_reducible first|(refine Q0c ?_;refine hR _ ?_;clear hR R)|((first|refine Q0e ?_|refine Q0f ?_);intro J hJ hJ')|(refine Q0a ?_;intro R hR)|(refine hJ _ ?_;clear hJ hJ' J)|refine Q0h ?_|refine Q0j ?_)|((with_reducible refine hJ' _ _ ?_ ?_);(focus(simp;done));clear hJ hJ' J)|((with_reducible apply Q0p);rfl;rfl;rfl;all_goals(intro hb;first|(cases hb;done)|((try simp only[Bool.not_true,Bool.not_false] at hb);(first|((with_reducible intro K hK);simp(disch:=omega) only[go_sem,W];((repeat(refine ndI (by first|assumption|rfl) ?_));refine hK _ ?_;clear hK K))))))|((with_reducible apply Q0d);rfl;rfl;all_goals(intro hc;first|(cases hc;done)|(try simp only at hc)))))))
     all_goals rw[ff]
     all_goals(refine⟨by simp,⟨_,?_,AV.le_refl _⟩,Q0g (by simp[leH,hget])⟩;simp only[Tryz.results96,resL,ldA,Q0m,go_sem])
 · have k1:(decide ((i:Int)<(tr.length:Int)))=false:=by simpa using hge
   rw[List.drop_eq_nil_of_le hge] at hd
   have hd:r = -1:=hd.symm
   have ff:f=false:=by
    rw[ef,hd,show((-1:Int)==(at_:Int))=false by rw[beq_eq_false_iff_ne];omega,Bool.and_false]
   clear ef
   (repeat(any_goals(first|((with_reducible refine Q0b ?_ ?_);rfl;intro K hK;simp only[go_sem,k1];((repeat(refine ndI (by first|assumption) ?_));refine hK _ ?_;clear hK K))|(with_reducible first|(refine Q0c ?_;refine hR _ ?_;clear hR R)|((first|refine Q0e ?_);intro J hJ hJ')|(refine Q0a ?_;intro R hR)|(refine hJ _ ?_;clear hJ hJ' J)|refine Q0j ?_|refine Q0q ?_)|((with_reducible refine hJ' _ _ ?_ ?_);(focus(simp;done));clear hJ hJ' J)|((with_reducible apply Q0d);rfl;rfl;all_goals(intro hc;first|(cases hc;done)|(try simp only at hc))))))
   all_goals rw[ff]
   all_goals(refine⟨by simp,⟨_,?_,AV.le_refl _⟩,Q0g (by simp[leH,hget])⟩;simp only[Tryz.results96,resL,ldA,Q0m,go_sem])
def X7n(c:Cs)(f:Bool)(p:Ph)(x:Ev):Bool:=((x.self==c.snd)||(belB c x.sp c.snd&&f))||(p.stk&&((x.kind==2)||belB c x.sp p.who))
theorem rtouch_fn(c:Cs)(hc:c.ok)(hr:trB (c.ph.flatMap Ph.tr)=true)(hal:(c.ph.flatMap Ph.tr).length≤1000)(p0:Ph)(h0:c.ph[0]? = some p0)(p:Ph)(hp:U p.who)(x:Ev)(hx:x.ok):Fn Tryz.prog 67 [csA c,phA p,evA x] [] (vb (X7n c (!(p0.role==1)||(mkP p0).stk) p x)) []:=by
 have so:x.sp.ok:=⟨hx.2.2.2.2.1,hx.1⟩
 have mk:=X4a c p0 h0
 have g1:=rbel_fn c hc hr hal x.sp so c.snd hc.1
 have g2:=rbel_fn c hc hr hal x.sp so p.who hp
 unfold X7n
 generalize belB c x.sp c.snd=q1 at g1 ⊢
 generalize belB c x.sp p.who=q2 at g2 ⊢
 generalize (p0.role==1)=made at mk ⊢
 generalize mkP p0=mq at mk ⊢
 obtain⟨m0,m1,fs,m3⟩:=mq
 obtain⟨b1,h1⟩:∃b,(x.self==c.snd)=b:=⟨_,rfl⟩
 obtain⟨b2,h2⟩:∃b,(x.kind==2)=b:=⟨_,rfl⟩
 dsimp only
 rw[h1,h2]
 obtain⟨pr,pw,ps,pt⟩:=p
 dsimp only at g2 ⊢
 change Fn _ _ [_,.agg [vi .u64 x.self,vi .u64 (l0 x.key),vi .u64 (l1 x.key),vi .u64 (l2 x.key),vi .u64 (l3 x.key)],_] _ _ _ at g1
 change Fn _ _ [_,.agg [vi .u64 x.self,vi .u64 (l0 x.key),vi .u64 (l1 x.key),vi .u64 (l2 x.key),vi .u64 (l3 x.key)],_] _ _ _ at g2
 clear hr hal h0 so
 (refine Q0t Tryz.func67 rfl (by rfl) ?_;simp only[Tryz.ntmps67,List.length_cons,List.length_nil,Nat.reduceAdd,Nat.reduceSub,List.replicate,List.cons_append,List.nil_append])
 (repeat(any_goals(first|((with_reducible refine Q0l ?_ ?_ ?_);rfl;rfl;intro K hK;(first|((apply Q0i (mk);rfl;rfl;rfl;rfl;exact Tryz.func99);kernel_rfl;rfl;(focus((simp only[go_sem,h1,h2]);(try rfl);done));(first|rfl))|((apply Q0i (g1);rfl;rfl;rfl;rfl;exact Tryz.func15);kernel_rfl;rfl;(focus((simp only[go_sem,h1,h2]);(try rfl);done));(first|rfl)));(simp only[go_sem,h1,h2];refine hK _ ?_;clear hK K))|((with_reducible refine Q0b ?_ ?_);rfl;intro K hK;simp only[go_sem,h1,h2];((repeat(refine ndI (by first|assumption) ?_));refine hK _ ?_;clear hK K))|(with_reducible first|(refine Q0c ?_;refine hR _ ?_;clear hR R)|((first|refine Q0e ?_|refine Q0f ?_);intro J hJ hJ')|(refine Q0a ?_;intro R hR)|(refine hJ _ ?_;clear hJ hJ' J)|refine Q0h ?_|refine Q0j ?_)|((with_reducible refine hJ' _ _ ?_ ?_);(focus(simp;done));clear hJ hJ' J)|((with_reducible apply Q3h);rfl;rfl;rfl;(try simp only[go_sem,h1,h2]))|((with_reducible apply Q0p);rfl;rfl;rfl;all_goals(intro hb;first|(cases hb;done)|((try simp only[Bool.not_true,Bool.not_false] at hb);(first|((with_reducible intro K hK);(first|((apply Q0i (g2);rfl;rfl;rfl;rfl;exact Tryz.func15);kernel_rfl;rfl;(focus((simp only[go_sem,h1,h2]);(try rfl);done));(first|rfl))|skip);simp only[go_sem,h1,h2];((repeat(refine ndI (by first|assumption) ?_));refine hK _ ?_;clear hK K))|((fail_if_success (with_reducible intro _));simp only[go_sem,h1,h2])))))|((with_reducible apply Q0d);rfl;rfl;all_goals(intro hc;first|(cases hc;done)|(try simp only at hc))))))
 all_goals(refine⟨by simp,⟨_,?_,AV.le_refl _⟩,Q0g (by simp[leH,hget])⟩;simp only[Tryz.results67,resL,ldA,Q0m,go_sem])
 all_goals clear mk g1 g2 h1 h2
 all_goals simp_all
end
end Go.Proofs.YtgdjkkapgghdbaaGreatDoor
