/-
  A teller: whether so much more can be held; rows taken out.
-/
import Derived.Test.YtbmcdemnnbndeaaGreatDoorAvW
import Derived.Test.YtbmcdemnnbndeaaGreatDoorLb
import Derived.Test.YtbmcdemnnbndeaaGreatDoorAvTy
import Derived.Test.YtbmcdemnnbndeaaGreatDoorAvF
set_option linter.unusedSimpArgs false
set_option linter.unusedVariables false
namespace Go.Proofs.YtbmcdemnnbndeaaGreatDoor.lg
open Go.RowKit
open Nat (reduceBEq)
set_option maxRecDepth 20000
set_option maxHeartbeats 1000000
abbrev rcH(l:List Hd):List AV:=(l.flatMap Hd.pv).map .c
theorem Q3j(l:List Hd):(rcH l).length=l.length*11:=by rw[List.length_map,Q0u hd_len]
theorem X6r(l:List Hd)(x:Hd)(hl:l.length≤1000000):Fn Tryz.prog 111 [.row 1000 70 11 l.length,vi .i64 l.length,.row 1001 70 11 1] [(1000,rcH l),(1001,rcH [x])] (.row 25 70 11 (l.length+1)) [(25,rcH l++rcH [x])]:=by
 have e1:=Q3j l
 have e2:(rcH [x]).length=11:=rfl
 have e3:(l.length+1)*88≤140737488355328:=by omega
 (refine Q0n Tryz.func111 rfl (by rfl) ?_;simp only[Tryz.ntmps111,List.length_cons,List.length_nil,Nat.reduceAdd,Nat.reduceSub,List.replicate,List.cons_append,List.nil_append])
 (have W:=ndI e1 (ndI e2 @Q0m);(repeat(any_goals(first|((with_reducible refine Q0c ?_ ?_);rfl;intro K hK;simp(disch:=omega) only[go_sem,W];((repeat(refine ndI (by first|assumption|rfl) ?_));refine hK _ ?_;clear hK K))|((with_reducible refine Q0c ?_ ?_);rfl;intro K hK;(try simp(disch:=omega) only[go_sem,W]);(repeat(refine ndI (by first|assumption|rfl) ?_));refine Q7u rfl rfl rfl rfl rfl ?_ rfl rfl rfl rfl ?_ ?_ ?_;(focus(simp only[go_sem];try rfl));(intro h;first|cases h);(first|omega);(intro q hq1 hq2;(simp(disch:=omega) only[go_sem,W];refine hK _ ?_;clear hK K)))|(with_reducible first|(refine Q0d ?_;refine hR _ ?_;clear hR R)|((first|refine Q0e ?_);intro Ψ hΨ hΨ')|(refine Q0a ?_;intro R hR)|(refine hΨ _ ?_;clear hΨ hΨ' Ψ)|refine Q0j ?_|refine Q0h ?_)|((with_reducible refine hΨ' _ _ ?_ ?_);(focus(simp;done));clear hΨ hΨ' Ψ)|((with_reducible apply Q0f);rfl;rfl;all_goals(intro hc;first|(cases hc;done)|(try simp only at hc)))))))
 all_goals(refine⟨by simp,⟨_,?_,AV.le_refl _⟩,Q0g (by simp[leH,hget])⟩;simp only[Tryz.results111,resL,ldA,Q0o,go_sem])
theorem rcH_app(l:List Hd)(x:Hd)(i:Nat):(rcH l).take (i*11)++rcH [x]++(rcH l).drop (i*11)=rcH (l.take i)++rcH [x]++rcH (l.drop i):=by
 simp only[rcH,←List.map_take,←List.map_drop,Q2u hd_len,Q3v hd_len]
theorem X5d(l:List Hd)(x:Hd)(i c:Nat)(hi:i<l.length)(hc0:l.length≤c)(hc1:c<l.length+1)(hl:l.length≤1000000):Fn Tryz.prog 111 [.cut 1000 70 11 0 l.length c true,vi .i64 i,.row 1001 70 11 1] [(1000,rcH l),(1001,rcH [x])] (.row 40 70 11 (l.length+1)) [(40,rcH (l.take i)++rcH [x]++rcH (l.drop i))]:=by
 have e1:=Q3j l
 have e2:(rcH [x]).length=11:=rfl
 have e3:(decide ((i:Int)=(l.length:Int)))=false:=by simp;omega
 have e4:((i:Int)==(l.length:Int))=false:=by simp;omega
 have e5:(decide ((l.length:Int)+1>(c:Int)))=true:=by simp;omega
 have e6:(l.length:Int)+1-(i:Int)=((l.length+1-i:Nat):Int):=by omega
 have e7:(i:Int)+1=((i+1:Nat):Int):=by omega
 (refine Q0n Tryz.func111 rfl (by rfl) ?_;simp only[Tryz.ntmps111,List.length_cons,List.length_nil,Nat.reduceAdd,Nat.reduceSub,List.replicate,List.cons_append,List.nil_append])
 (have W:=ndI e1 (ndI e2 (ndI e3 (ndI e4 (ndI e5 (ndI e6 (ndI e7 @wrI))))));(repeat(any_goals(first|((with_reducible refine Q0c ?_ ?_);rfl;intro K hK;simp(disch:=omega) only[go_sem,W,Int.natCast_one];((repeat(refine ndI (by first|assumption|rfl) ?_));refine hK _ ?_;clear hK K))|((with_reducible refine Q0c ?_ ?_);rfl;intro K hK;(try simp(disch:=omega) only[go_sem,W,Int.natCast_one]);(repeat(refine ndI (by first|assumption|rfl) ?_));refine Q2s rfl rfl rfl rfl rfl ?_ rfl rfl rfl rfl ?_ ?_ ?_;(focus(simp only[go_sem];try rfl));(intro h;first|rfl|cases h);(first|omega);(simp(disch:=omega) only[go_sem,W,Int.natCast_one];refine hK _ ?_;clear hK K))|((with_reducible refine Q0c ?_ ?_);rfl;intro K hK;(try simp(disch:=omega) only[go_sem,W,Int.natCast_one]);(repeat(refine ndI (by first|assumption) ?_));refine Q5o rfl rfl ?_ rfl ?_;(focus(simp(disch:=omega) only[go_sem];try rfl));(simp(disch:=omega) only[go_sem,W,Int.natCast_one];refine hK _ ?_;clear hK K))|((with_reducible refine Q0c ?_ ?_);rfl;intro K hK;(try simp(disch:=omega) only[go_sem,W,Int.natCast_one]);(repeat(refine ndI (by first|assumption) ?_));apply Q7x;rfl;rfl;rfl;(focus(simp only[go_sem];try rfl));(first|omega);rfl;rfl;rfl;rfl;(first|(simp(disch:=omega) only[go_sem,W,Int.natCast_one,spl,List.length_append,List.length_map,List.length_take,List.length_drop,List.length_replicate];omega));(first|(simp(disch:=omega) only[go_sem,W,Int.natCast_one,spl,List.length_append,List.length_map,List.length_take,List.length_drop,List.length_replicate];omega));(simp(disch:=omega) only[go_sem,W,Int.natCast_one];refine hK _ ?_;clear hK K))|((with_reducible refine Q0c ?_ ?_);rfl;intro K hK;(try simp(disch:=omega) only[go_sem,W,Int.natCast_one]);(repeat(refine ndI (by first|assumption) ?_));apply Q5x;rfl;rfl;rfl;(focus(simp only[go_sem];try rfl));(focus(simp(disch:=omega) only[go_sem];try rfl));(first|omega);(first|omega);rfl;rfl;rfl;(first|omega);(first|omega);(first|omega);(first|omega);rfl;(first|(simp[St.free,Q2i,AV.refs,AV.refsL]));(first|omega);(first|(simp[St.free,Q2i,AV.refs,AV.refsL]));(intro c' hc';(simp(disch:=omega) only[go_sem,W,Int.natCast_one];refine hK _ ?_;clear hK K)))|(with_reducible first|(refine Q0d ?_;refine hR _ ?_;clear hR R)|((first|refine Q0e ?_);intro Ψ hΨ hΨ')|(refine Q0a ?_;intro R hR)|(refine hΨ _ ?_;clear hΨ hΨ' Ψ)|refine Q0j ?_|refine Q0h ?_)|((with_reducible refine hΨ' _ _ ?_ ?_);(focus(simp;done));clear hΨ hΨ' Ψ)|((with_reducible apply Q0f);rfl;rfl;all_goals(intro hc;first|(cases hc;done)|(try simp only at hc)))|((with_reducible refine Q0v ?_ ?_);kernel_rfl;(with_reducible refine hR _ ?_);clear hR R)|((first|((with_reducible apply Q0w);rfl;rfl;(simp(disch:=omega) only[rdE,rdOf,go_sem,W,Int.natCast_one];rfl);(intro τ hA hQ hN;((try simp only[Q1a,Op.operands,Call.operands,go_sem,W,Int.natCast_one,go_sem,List.mem_cons,List.not_mem_nil,forall_eq_or_imp,forall_eq,List.append_toArray,Option.toArray] at hA);(try simp only[go_sem,W,Int.natCast_one,List.mem_cons,List.not_mem_nil,forall_eq_or_imp,forall_eq] at hQ hN);(first|(revert hA;intro hA));(first|(revert hQ;intro hQ));(first|(revert hN;intro hN));simp(disch:=omega) only[go_sem,W,Int.natCast_one,go_sem,hA,hQ,hN];(repeat(refine ndI (by first|assumption|rfl) ?_));(first|apply Q0z))))|((first|((with_reducible apply Q2r);rfl));apply Q3h;rfl;rfl;rfl;rfl;rfl;(focus(simp only[go_sem];try rfl));rfl;rfl;rfl;rfl;(intro h;first|cases h);(first|omega))|((first|((with_reducible apply Q2r);rfl));apply Q9u;rfl;rfl;rfl;(focus(simp only[go_sem];try rfl));(first|omega);rfl;rfl;rfl;rfl;(first|(simp(disch:=omega) only[go_sem,W,Int.natCast_one,spl,List.length_append,List.length_map,List.length_take,List.length_drop,List.length_replicate];omega));(first|(simp(disch:=omega) only[go_sem,W,Int.natCast_one,spl,List.length_append,List.length_map,List.length_take,List.length_drop,List.length_replicate];omega));rfl));(simp(disch:=omega) only[St.eff,setO,Q0t,go_sem,W,Int.natCast_one]))|((with_reducible refine Q0q ?_ ?_ ?_ ?_);kernel_rfl;kernel_rfl;(simp[Q1n,Q5f,St.free,Q2i,AV.refsL,AV.refs]);intro R hR)))))
 refine⟨by simp,⟨_,rfl,?_⟩,Q0g ⟨?_,trivial⟩⟩
 · rw[show i+(l.length+1-i)=l.length+1 by omega]
   exact AV.le_cut _ _ _ _ _
 · simp only[Q1g,Nat.reduceEqDiff,if_false,if_true,Option.some.injEq]
   rw[show min 1 (i+(l.length+1-i)-i)=1 by omega,show min (l.length-i) (i+(l.length+1-i)-(i+1))=l.length-i by omega,show(l.length+1-i)*11=11+(l.length-i)*11 by omega,show(i+1)*11=i*11+11 by omega,Nat.one_mul,
    List.take_of_length_le (show(rcH [x]).length≤11 by omega),List.take_of_length_le (show(rcH [x]).length≤11 by omega),List.take_take,Nat.min_self]
   rw[X7s (rcH l) (rcH [x]) AV.any (i*11) 11 ((l.length-i)*11) (by omega) (by omega)]
   exact rcH_app l x i
theorem ovH:Q9b Tryz.prog 112 25:=⟨_,4,Tryz.func112,by kernel_rfl,by kernel_rfl,by kernel_rfl,by kernel_rfl⟩
theorem X8y(l:List Hd)(x:Hd)(i c:Nat)(hi:i<l.length)(hc1:l.length+1≤c)(hl:l.length≤1000000):Fn Tryz.prog 111 [.cut 1000 70 11 0 l.length c true,vi .i64 i,.row 1001 70 11 1] [(1000,rcH l++List.replicate ((c-l.length)*11) .any),(1001,rcH [x])] (.row 1000 70 11 (l.length+1)) [(1000,rcH (l.take i)++rcH [x]++rcH (l.drop i)++List.replicate ((c-l.length-1)*11) .any)]:=by
 have e1:=Q3j l
 have e2:(rcH [x]).length=11:=rfl
 have e4:((i:Int)==(l.length:Int))=false:=by simp;omega
 have e5:(decide ((l.length:Int)+1>(c:Int)))=false:=by simp;omega
 have e6:(l.length:Int)+1=((l.length+1:Nat):Int):=by omega
 have e7:(i:Int)+1=((i+1:Nat):Int):=by omega
 have e8:(decide (((l.length+1:Nat):Int)>(c:Int)))=false:=by simp;omega
 (refine Q0n Tryz.func111 rfl (by rfl) ?_;simp only[Tryz.ntmps111,List.length_cons,List.length_nil,Nat.reduceAdd,Nat.reduceSub,List.replicate,List.cons_append,List.nil_append])
 (have W:=ndI e1 (ndI e2 (ndI e4 (ndI e5 (ndI e6 (ndI e7 (ndI e8 @wrI))))));(repeat(any_goals(first|((with_reducible refine Q0c ?_ ?_);rfl;intro K hK;simp(disch:=omega) only[go_sem,W,Int.natCast_one];((repeat(refine ndI (by first|assumption|rfl) ?_));refine hK _ ?_;clear hK K))|((with_reducible refine Q0c ?_ ?_);rfl;intro K hK;(try simp(disch:=omega) only[go_sem,W,Int.natCast_one]);(repeat(refine ndI (by first|assumption|rfl) ?_));refine Q2s rfl rfl rfl rfl rfl ?_ rfl rfl rfl rfl ?_ ?_ ?_;(focus(simp only[go_sem];try rfl));(intro h;first|rfl|cases h);(first|omega);(simp(disch:=omega) only[go_sem,W,Int.natCast_one];refine hK _ ?_;clear hK K))|((with_reducible refine Q0c ?_ ?_);rfl;intro K hK;(try simp(disch:=omega) only[go_sem,W,Int.natCast_one]);(repeat(refine ndI (by first|assumption) ?_));refine Q5o rfl rfl ?_ rfl ?_;(focus(simp(disch:=omega) only[go_sem];try rfl));(simp(disch:=omega) only[go_sem,W,Int.natCast_one];refine hK _ ?_;clear hK K))|((with_reducible refine Q0c ?_ ?_);rfl;intro K hK;(try simp(disch:=omega) only[go_sem,W,Int.natCast_one]);(repeat(refine ndI (by first|assumption) ?_));apply Q7x;rfl;rfl;rfl;(focus(simp only[go_sem];try rfl));(first|omega);rfl;rfl;rfl;rfl;(first|(simp(disch:=omega) only[go_sem,W,Int.natCast_one,spl,List.length_append,List.length_map,List.length_take,List.length_drop,List.length_replicate];omega));(first|(simp(disch:=omega) only[go_sem,W,Int.natCast_one,spl,List.length_append,List.length_map,List.length_take,List.length_drop,List.length_replicate];omega));(simp(disch:=omega) only[go_sem,W,Int.natCast_one];refine hK _ ?_;clear hK K))|((with_reducible refine Q0c ?_ ?_);rfl;intro K hK;(try simp(disch:=omega) only[go_sem,W,Int.natCast_one]);(repeat(refine ndI (by first|assumption) ?_));apply Q9e (ovH);rfl;rfl;rfl;rfl;rfl;(focus(simp only[go_sem];try rfl));rfl;rfl;decide;(first|omega);(first|omega);rfl;rfl;(simp(disch:=omega) only[go_sem,W,Int.natCast_one];refine hK _ ?_;clear hK K))|(with_reducible first|(refine Q0d ?_;refine hR _ ?_;clear hR R)|((first|refine Q0e ?_);intro Ψ hΨ hΨ')|(refine Q0a ?_;intro R hR)|(refine hΨ _ ?_;clear hΨ hΨ' Ψ)|refine Q0j ?_|refine Q0h ?_)|((with_reducible refine hΨ' _ _ ?_ ?_);(focus(simp;done));clear hΨ hΨ' Ψ)|((with_reducible apply Q0f);rfl;rfl;all_goals(intro hc;first|(cases hc;done)|(try simp only at hc)))|((with_reducible refine Q0v ?_ ?_);kernel_rfl;(with_reducible refine hR _ ?_);clear hR R)|((first|((with_reducible apply Q0w);rfl;rfl;(simp(disch:=omega) only[rdE,rdOf,go_sem,W,Int.natCast_one];rfl);(intro τ hA hQ hN;((try simp only[Q1a,Op.operands,Call.operands,go_sem,W,Int.natCast_one,go_sem,List.mem_cons,List.not_mem_nil,forall_eq_or_imp,forall_eq,List.append_toArray,Option.toArray] at hA);(try simp only[go_sem,W,Int.natCast_one,List.mem_cons,List.not_mem_nil,forall_eq_or_imp,forall_eq] at hQ hN);(first|(revert hA;intro hA));(first|(revert hQ;intro hQ));(first|(revert hN;intro hN));simp(disch:=omega) only[go_sem,W,Int.natCast_one,go_sem,hA,hQ,hN];(repeat(refine ndI (by first|assumption|rfl) ?_));(first|apply Q0z))))|((first|((with_reducible apply Q2r);rfl));apply Q3h;rfl;rfl;rfl;rfl;rfl;(focus(simp only[go_sem];try rfl));rfl;rfl;rfl;rfl;(intro h;first|cases h);(first|omega))|((first|((with_reducible apply Q2r);rfl));apply Q9u;rfl;rfl;rfl;(focus(simp only[go_sem];try rfl));(first|omega);rfl;rfl;rfl;rfl;(first|(simp(disch:=omega) only[go_sem,W,Int.natCast_one,spl,List.length_append,List.length_map,List.length_take,List.length_drop,List.length_replicate];omega));(first|(simp(disch:=omega) only[go_sem,W,Int.natCast_one,spl,List.length_append,List.length_map,List.length_take,List.length_drop,List.length_replicate];omega));rfl));(simp(disch:=omega) only[St.eff,setO,Q0t,go_sem,W,Int.natCast_one]))|((with_reducible refine Q0q ?_ ?_ ?_ ?_);kernel_rfl;kernel_rfl;(simp[Q1n,Q5f,St.free,Q2i,AV.refsL,AV.refs]);intro R hR)))))
 refine⟨by simp,⟨_,rfl,AV.le_cut _ _ _ _ _⟩,Q0g ⟨?_,trivial⟩⟩
 simp only[Q1g,if_true,Option.some.injEq]
 rw[show min 1 (l.length+1-i)=1 by omega,show min (l.length+1-i) (l.length+1-(i+1))=l.length-i by omega,show(i+1)*11=i*11+11 by omega,Nat.one_mul,
  List.take_of_length_le (show(rcH [x]).length≤11 by omega),List.take_of_length_le (show(rcH [x]).length≤11 by omega),List.take_take,Nat.min_eq_left (show(l.length-i)*11≤(l.length+1-i)*11 by omega)]
 rw[lay_in (rcH l) (rcH [x]) (List.replicate ((c-l.length)*11) AV.any) (i*11) 11 ((l.length-i)*11) ((c-l.length-1)*11) (by omega) (by omega) (by rw[List.length_replicate];omega),rcH_app,List.drop_replicate]
 congr 2
 omega
theorem X8z(l:List Hd)(x:Hd)(i:Nat)(hi:i≤l.length)(hl:l.length≤1000000):Fn Tryz.prog 111 [.row 1000 70 11 l.length,vi .i64 i,.row 1001 70 11 1] [(1000,rcH l),(1001,rcH [x])] (.row 1 70 11 (l.length+1)) [(1,rcH (l.take i++x::l.drop i))]:=by
 have e:rcH (l.take i++x::l.drop i)=rcH (l.take i)++rcH [x]++rcH (l.drop i):=by simp[rcH]
 rw[e]
 rcases Nat.lt_or_ge i l.length with hlt|hge
 · refine Fn.cut0x (Q3j l) fun c h1 h2=>?_
   rcases Nat.lt_or_ge c (l.length+1) with hc|hc
   · obtain rfl:c=l.length:=by omega
     refine Fn.rename (fun r=>if r=1 then 40 else r) ?_ (by simp) (by simp)
     have:=X5d l x i l.length hlt h1 hc hl
     simpa [AV.ren,renH,rcH] using this
   · refine Fn.rename (fun r=>if r=1 then 1000 else r) ?_ (by simp) (by simp)
     refine(X8y l x i c hlt hc hl).weaken (by simp only[AV.ren];exact AV.le_refl _) ?_
     simp only[renH,AV.renL,X7j,Q0p,if_true]
     exact leHp (ds:=List.replicate ((c-l.length-1)*11) .any) (by simp[Q1g,rcH])
 · obtain rfl:i=l.length:=by omega
   refine Fn.rename (fun r=>if r=1 then 25 else r) ?_ (by simp) (by simp)
   have:=X6r l x hl
   simpa [AV.ren,renH,rcH] using this
theorem cloneH_fn(ex:Bool)(l:List Hd)(hl:l.length≤1000000):Fn Tryz.prog 19 [hsl ex l] [] (.row 7 70 11 l.length) [(7,rcH l)]:=by
 have e1:=Q3j l
 (refine Q0n Tryz.func19 rfl (by rfl) ?_;simp only[Tryz.ntmps19,List.length_cons,List.length_nil,Nat.reduceAdd,Nat.reduceSub,List.replicate,List.cons_append,List.nil_append])
 (repeat(any_goals(first|((have hz0:=hb0 hc);(with_reducible refine Q4u ?_ ?_);rfl;intro K hK;refine OpA.nilrow_after 2 7 70 11 (Q3d ?_);(simp(disch:=omega) only[go_sem,e1,Q0m]);(repeat(refine And.intro (by first|assumption|rfl) ?_));refine hK _ ?_;clear hK K;clear hb0)|((with_reducible refine Q0c ?_ ?_);rfl;intro K hK;simp(disch:=omega) only[go_sem,e1,Q0m];((repeat(refine ndI (by first|assumption|omega|rfl) ?_));refine hK _ ?_;clear hK K))|((with_reducible refine Q0c ?_ ?_);rfl;intro K hK;refine Q6p rfl rfl (by first|exact .inl rfl) ?_ rfl ?_;(focus(simp(disch:=omega) only[go_sem];try rfl));(intro b hb0;simp(disch:=omega) only[eq_self,go_sem,e1,Q0m];(with_reducible refine hK _ ?_);clear hK K))|(with_reducible first|(refine Q0d ?_;refine hR _ ?_;clear hR R)|((first|refine Q0e ?_);intro Ψ hΨ hΨ')|(refine Q0a ?_;intro R hR)|(refine hΨ _ ?_;clear hΨ hΨ' Ψ)|refine Q0j ?_|refine Q0h ?_)|((with_reducible refine hΨ' _ _ ?_ ?_);(focus(simp;done));clear hΨ hΨ' Ψ)|((with_reducible apply Q0f);rfl;rfl;all_goals(intro hc;first|(try simp only at hc))))))
 all_goals(try(obtain rfl:=List.eq_nil_of_length_eq_zero hz0))
 all_goals exact⟨by simp,⟨_,rfl,AV.le_refl _⟩,Q0g (by simp[leH,hget])⟩
end Go.Proofs.YtbmcdemnnbndeaaGreatDoor.lg
namespace Go.Proofs.YtbmcdemnnbndeaaGreatDoor.lg
open Go.RowKit
open Nat (reduceBEq)
set_option maxRecDepth 20000
set_option maxHeartbeats 2000000
theorem Q4f(x:Nat)(hx:x<WW):Fn Tryz.prog 86 [wN x] [] (vb (decide (x=0))) []:=by
 have h:=X0c hx
 obtain⟨q,hq⟩:∃q,decide (x=0)=q:=⟨_,rfl⟩
 rw[hq] at h ⊢
 (refine Q0n Tryz.func86 rfl (by rfl) ?_;simp only[Tryz.ntmps86,List.length_cons,List.length_nil,Nat.reduceAdd,Nat.reduceSub,List.replicate,List.cons_append,List.nil_append])
 (repeat(any_goals(first|((with_reducible refine Q0c ?_ ?_);rfl;intro K hK;simp only[go_sem,h];((repeat(refine ndI (by first|assumption) ?_));refine hK _ ?_;clear hK K))|(with_reducible first|(refine Q0d ?_;refine hR _ ?_;clear hR R)|((first|refine Q0e ?_);intro Ψ hΨ hΨ')|(refine Q0a ?_;intro R hR)|(refine hΨ _ ?_;clear hΨ hΨ' Ψ)|refine Q0h ?_))))
 all_goals(refine⟨by simp,⟨_,?_,AV.le_refl _⟩,Q0g (by simp[leH,hget])⟩;simp only[Tryz.results86,resL,ldA,Q0o,go_sem])
theorem Q7a(a:Int)(p s:Nat)(d f:Int)(hp:p<WW)(hs:s<WW):Fn Tryz.prog 85 [h11 a p s d f] [] (vb (decide (p=0)&&decide (s=0))) []:=by
 have h1:=Q4f p hp
 have h2:=Q4f s hs
 generalize decide (p=0)=q1 at h1
 generalize decide (s=0)=q2 at h2
 cases q1 with
 |true=>
  (refine Q0n Tryz.func85 rfl (by rfl) ?_;simp only[Tryz.ntmps85,List.length_cons,List.length_nil,Nat.reduceAdd,Nat.reduceSub,List.replicate,List.cons_append,List.nil_append])
  (repeat(any_goals(first|((with_reducible refine Q0i ?_ ?_ ?_);rfl;rfl;intro K hK;(first|((apply Q0b (h1);rfl;rfl;rfl;rfl;exact Tryz.func86);kernel_rfl;rfl;(focus((simp only[go_sem]);(try rfl);done));(first|rfl)));(simp only[go_sem];refine hK _ ?_;clear hK K))|((with_reducible refine Q0c ?_ ?_);rfl;intro K hK;simp only[go_sem];((repeat(refine ndI (by first|assumption) ?_));refine hK _ ?_;clear hK K))|(with_reducible first|(refine Q0d ?_;refine hR _ ?_;clear hR R)|((first|refine Q0e ?_);intro Ψ hΨ hΨ')|(refine Q0a ?_;intro R hR)|(refine hΨ _ ?_;clear hΨ hΨ' Ψ)|refine Q0h ?_)|((with_reducible apply Q0s);rfl;rfl;rfl;all_goals(intro hb;first|(cases hb;done)|((try simp only[Bool.not_true,Bool.not_false] at hb);(first|((with_reducible intro K hK);(first|((apply Q0b (h2);rfl;rfl;rfl;rfl;exact Tryz.func86);kernel_rfl;rfl;(focus((simp only[go_sem]);(try rfl);done));(first|rfl))|skip);simp only[go_sem];((repeat(refine ndI (by first|assumption) ?_));refine hK _ ?_;clear hK K)))))))))
  all_goals(refine⟨by simp,⟨_,?_,AV.le_refl _⟩,Q0g (by simp[leH,hget])⟩;simp only[Tryz.results85,resL,ldA,Q0o,go_sem])
 |false=>
  (refine Q0n Tryz.func85 rfl (by rfl) ?_;simp only[Tryz.ntmps85,List.length_cons,List.length_nil,Nat.reduceAdd,Nat.reduceSub,List.replicate,List.cons_append,List.nil_append])
  (repeat(any_goals(first|((with_reducible refine Q0i ?_ ?_ ?_);rfl;rfl;intro K hK;((apply Q0b (h1);rfl;rfl;rfl;rfl;exact Tryz.func86);kernel_rfl;rfl;(focus((simp only[go_sem]);(try rfl);done));(first|rfl));(simp only[go_sem];refine hK _ ?_;clear hK K))|((with_reducible refine Q0c ?_ ?_);rfl;intro K hK;simp only[go_sem];((repeat(refine ndI (by first|assumption) ?_));refine hK _ ?_;clear hK K))|(with_reducible first|(refine Q0d ?_;refine hR _ ?_;clear hR R)|((first|refine Q0e ?_);intro Ψ hΨ hΨ')|(refine Q0a ?_;intro R hR)|(refine hΨ _ ?_;clear hΨ hΨ' Ψ)|refine Q0h ?_)|((with_reducible apply Q0s);rfl;rfl;rfl;all_goals(intro hb;first|(cases hb;done)|((try simp only[Bool.not_true,Bool.not_false] at hb);(first|((fail_if_success (with_reducible intro _));simp only[go_sem]))))))))
  all_goals(refine⟨by simp,⟨_,?_,AV.le_refl _⟩,Q0g (by simp[leH,hget])⟩;simp only[Tryz.results85,resL,ldA,Q0o,go_sem])
  all_goals rw[Bool.false_and]
def Q5w(h:Hd):Bool:=(h.a != 0)&&(decide (h.d≤1073741824)&&(decide (h.f≤1100585369600)&&(!(decide (h.p=0)&&decide (h.s=0))&&(((h.d==0)==decide (h.s=0))&&((h.f==0) || !decide (h.s=0))))))
theorem Q9s(a:Int)(p s:Nat)(d f:Int)(hp:p<WW)(hs:s<WW):Fn Tryz.prog 58 [h11 a p s d f] [] (vb (Q5w ⟨a,p,s,d,f⟩)) []:=by
 have h1:=Q7a a p s d f hp hs
 have h2:=Q4f s hs
 unfold Q5w
 dsimp only
 generalize decide (p=0)=q1 at h1
 generalize decide (s=0)=q2 at h1 h2
 (refine Q0n Tryz.func58 rfl (by rfl) ?_;simp only[Tryz.ntmps58,List.length_cons,List.length_nil,Nat.reduceAdd,Nat.reduceSub,List.replicate,List.cons_append,List.nil_append])
 (repeat(any_goals(first|((with_reducible refine Q0c ?_ ?_);rfl;intro K hK;simp only[go_sem];((repeat(refine ndI (by first|assumption) ?_));refine hK _ ?_;clear hK K))|(with_reducible first|(refine Q0d ?_;refine hR _ ?_;clear hR R)|((first|refine Q0e ?_);intro Ψ hΨ hΨ')|(refine Q0a ?_;intro R hR)|(refine hΨ _ ?_;clear hΨ hΨ' Ψ)|refine Q0j ?_|refine Q0h ?_)|((with_reducible refine hΨ' _ _ ?_ ?_);(focus(simp;done));clear hΨ hΨ' Ψ)|((with_reducible apply Q0s);rfl;rfl;rfl;all_goals(intro hb;first|(cases hb;done)|((try simp only[Bool.not_true,Bool.not_false] at hb);(first|((with_reducible intro K hK);(first|((apply Q0b (h1);rfl;rfl;rfl;rfl;exact Tryz.func85);kernel_rfl;rfl;(focus((simp only[go_sem]);(try rfl);done));(first|rfl))|skip);simp only[go_sem];((repeat(refine ndI (by first|assumption) ?_));refine hK _ ?_;clear hK K))|((fail_if_success (with_reducible intro _));simp only[go_sem])))))|((with_reducible apply Q0f);rfl;rfl;all_goals(intro hc;first|(cases hc;done)|(try simp only at hc)))|((with_reducible refine Q0v ?_ ?_);kernel_rfl;(with_reducible refine hR _ ?_);clear hR R)|((first|((with_reducible apply Q2y);rfl;rfl;rfl;rfl)|((with_reducible apply Q3l);rfl;rfl;rfl)|((first|((with_reducible apply Q1c);rfl;rfl)|((with_reducible apply Q4v);rfl;rfl;rfl;rfl;rfl));((apply Q0r (h2);rfl;rfl;rfl;rfl;exact Tryz.func86);kernel_rfl;rfl;(focus((simp only[go_sem]);(try rfl);done));(first|rfl)))|((first|((with_reducible apply Q0w);rfl;rfl)|((with_reducible apply Q1u);rfl;rfl;rfl;rfl;rfl));(simp only[rdE,rdOf,go_sem];rfl);(intro τ hA hQ hN;((try simp only[Q1a,Op.operands,Call.operands,go_sem,List.mem_cons,List.not_mem_nil,forall_eq_or_imp,forall_eq,List.append_toArray,Option.toArray] at hA);(try simp only[go_sem,List.mem_cons,List.not_mem_nil,forall_eq_or_imp,forall_eq] at hQ hN);(first|(revert hA;intro hA));(first|(revert hQ;intro hQ));(first|(revert hN;intro hN));simp only[go_sem,hA,hQ,hN];(repeat(refine ndI (by first|assumption) ?_));(first|apply Q0z)))));(simp only[St.eff,setO,Q0t,go_sem]))|((with_reducible apply X1d);rfl;rfl;rfl;all_goals intro hb;all_goals(simp only[St.eff,setO,Q0t,go_sem]))|((with_reducible refine Q0q ?_ ?_ ?_ ?_);kernel_rfl;kernel_rfl;(first|kernel_rfl);intro R hR))))
 all_goals(refine⟨by simp,⟨_,?_,AV.le_refl _⟩,Q0g (by simp[leH,hget])⟩;simp only[Tryz.results58,resL,ldA,Q0o,go_sem])
 all_goals clear h1 h2
 all_goals(cases q1<;>cases q2<;>simp_all)
 all_goals omega
def tot(l:List Hd):Nat:=(l.map fun h=>h.p+h.s).sum
def wds(l:List Hd):List Nat:=l.flatMap fun h=>[h.p,h.s]
theorem wds_sum(l:List Hd):(wds l).sum=tot l:=by
 induction l with
 |nil=>rfl
 |cons h l ih=>simp only[wds,tot,List.flatMap_cons,List.map_cons,List.sum_cons,List.sum_append,List.sum_nil] at *;omega
theorem X2p(l:List Hd):(wds l).length=l.length*2:=by
 induction l with
 |nil=>rfl
 |cons h l ih=>simp only[wds,List.flatMap_cons,List.length_append,List.length_cons,List.length_nil] at *;omega
theorem wds_lt{l:List Hd}(ok:∀h∈l,h.ok):∀x∈wds l,x<WW:=fun x hx=>by
 unfold wds at hx
 rw[List.mem_flatMap] at hx
 obtain⟨h,hh,hx⟩:=hx
 simp only[List.mem_cons,List.not_mem_nil,or_false] at hx
 rcases hx with rfl|rfl
 · exact(ok h hh).2.1
 · exact(ok h hh).2.2.1
theorem X4n(l:List Nat)(x y:Nat):rcW (l++[x,y])=rcW l++[vi .u64 (l0 x),vi .u64 (l1 x),vi .u64 (l2 x),vi .u64 (l3 x),vi .u64 (l0 y),vi .u64 (l1 y),vi .u64 (l2 y),vi .u64 (l3 y)]:=by
 simp[rcW,wpv]
theorem X7c{l:List Hd}{i:Nat}{y:Hd}(hy:l[i]? = some y):wds (l.take (i+1))=wds (l.take i)++[y.p,y.s]:=by
 unfold wds
 rw[List.take_add_one,hy]
 simp
abbrev stAl(ex:Bool)(l:List Hd)(r:Nat)(out:List Nat)(i:Nat):St:=⟨[.any,.row r 34 4 out.length,.ptr 2 0,.any,.ptr 4 0,.any,.any,.any,.any,hsl ex l,vi .i64 l.length,vi .i64 i,.any,.any,.any,.any,.any,.any,.any,.any,.any,.any,.any,.any,.any,.any,.any],[(2,[hsl ex l]),(4,[vi .u64 0,vi .u64 0,vi .u64 0,vi .u64 0]),(r,rcW out)]⟩
theorem X5z(ex:Bool)(l:List Hd)(out:List Nat)(i:Nat):(stAl ex l 21 out i).to (stAl ex l 500 out i):=by
 have h:=St.to.rn (σ:=stAl ex l 21 out i) (fun r=>if r=21 then 500 else r) (fun r=>if r=500 then 21 else r) [2,4,21] (by simp[AV.inNL,AV.inN]) (by simp) (by simp[inH,AV.inNL,AV.inN,Q5q]) (by simp) (by simp)
 simpa [AV.renL,AV.ren,renH,Q4w] using h
theorem all_nil(ex:Bool)(l:List Hd)(hl:l.length≤400)(ok:∀h∈l,h.ok):Fn Tryz.prog 59 [lg ex l,nilS] [] (.tup [wN (tot l%WW),vb (decide (WW≤tot l))]) []:=by
 have hsum:=X0f false (wds l) (by rw[X2p];omega) (wds_lt ok)
 rw[wds_sum] at hsum
 obtain⟨tn,htn⟩:∃n,tot l%WW=n:=⟨_,rfl⟩
 obtain⟨tq,htq⟩:∃q,decide (WW≤tot l)=q:=⟨_,rfl⟩
 rw[htn,htq] at hsum ⊢
 (refine Q0n Tryz.func59 rfl (by rfl) ?_;simp only[Tryz.ntmps59,List.length_cons,List.length_nil,Nat.reduceAdd,Nat.reduceSub,List.replicate,List.cons_append,List.nil_append])
 (repeat(any_goals(first|((with_reducible refine Q0c ?_ ?_);rfl;intro K hK;simp only[go_sem];((repeat(refine ndI (by first|assumption) ?_));refine hK _ ?_;clear hK K))|(with_reducible first|(refine Q0d ?_;refine hR _ ?_;clear hR R)|((first|refine Q0e ?_|refine Q0l ?_);intro Ψ hΨ hΨ')|(refine Q0a ?_;intro R hR)|(refine hΨ _ ?_;clear hΨ hΨ' Ψ)))))
 refine X1e l.length (fun i=>stAl ex l 500 (wds (l.take i)) i) ?_ ?_
 · refine St.to.trans (St.to.of_le (τ:=⟨[.any,.c (.v (.slice none 0 0)),.ptr 2 0,.any,.ptr 4 0,.any,.any,.any,.any,hsl ex l,vi .i64 l.length,vi .i64 0,.any,.any,.any,.any,.any,.any,.any,.any,.any,.any,.any,.any,.any,.any,.any],[(2,[hsl ex l]),(4,[vi .u64 0,vi .u64 0,vi .u64 0,vi .u64 0])]⟩) (St.le_of (by simp[leT]) (by simp[leH,hget]))) ?_
   refine St.to.trans (St.to.nilrow 1 500 34 4 rfl (by simp) (by simp[St.free,Q2i,AV.refsL,AV.refs]) (by decide)) (St.to.of_le (St.le_of (by simp[leT,wds]) (by simp[leH,hget,hput,rcW,wds])))
 intro i hi Ψ hΨ hΨ'
 dsimp only[stAl] at hΨ ⊢
 rcases Nat.lt_or_ge i l.length with hlt|hge
 · obtain⟨y,hy⟩:∃y,l[i]? = some y:=⟨l[i],List.getElem?_eq_getElem hlt⟩
   have k1:(decide ((i:Int)<(l.length:Int)))=true:=by simpa using hlt
   have k2:=X2e hy
   have k7:(i:Int)+1=((i+1:Nat):Int):=by omega
   have k5:=X2p (l.take i)
   have k6:(l.take i).length≤400:=by simp;omega
   have hs:=X7c hy
   rw[hs] at hΨ
   generalize wds (l.take i)=out at k5 hΨ ⊢
   have k4:=Q6i out
   have k9:∀r,AV.refsL r (rcW out)=false:=fun r=>Q0m r _
   (have W:=ndI k1 (ndI k2 (ndI k4 (ndI k7 (ndI k9 (ndI @wrI @Q0m)))));(repeat(any_goals(first|((with_reducible refine Q0c ?_ ?_);rfl;intro K hK;simp(disch:=omega) only[go_sem,W,Q4e,AV.refsL,AV.refs,List.length_append,List.length_cons,List.length_nil,Bool.or_false];((repeat(refine ndI (by first|assumption|omega|rfl) ?_));refine hK _ ?_;clear hK K))|(with_reducible first|(refine Q0d ?_;refine hR _ ?_;clear hR R)|((first|refine Q0e ?_|refine Q0l ?_);intro Ψ hΨ hΨ')|(refine Q0a ?_;intro R hR)|(refine hΨ _ ?_;clear hΨ hΨ' Ψ)|refine Q0j ?_)|((with_reducible refine hΨ' _ _ ?_ ?_);(focus(simp;done));clear hΨ hΨ' Ψ)|((with_reducible apply Q0f);rfl;rfl;all_goals(intro hc;first|(cases hc;done)|(try simp only at hc)))))))
   exact hΨ _ hlt (St.to.trans (St.to.of_le (τ:=stAl ex l 21 (out++[y.p,y.s]) (i+1)) (St.le_of (by simp[leT]) (by simp[leH,hget,X4n]))) (X5z ex l _ _))
 · have k1:(decide ((i:Int)<(l.length:Int)))=false:=by simpa using hge
   have e:l.take i=l:=List.take_of_length_le hge
   rw[e]
   have k4:=Q6i (wds l)
   have k5:unC (rcW (wds l))=some ((wds l).flatMap wpv):=unC_map _
   (have W:=ndI k1 (ndI k4 k5);(repeat(any_goals(first|((with_reducible refine Q0i ?_ ?_ ?_);rfl;rfl;intro K hK;((apply Q5e (hsum);rfl;rfl;rfl;rfl;exact Tryz.func36);kernel_rfl;rfl;(focus((simp(disch:=omega) only[AV.viewL,AV.view,Q4b,unC,Option.map_some,go_sem,W,Q0u Q4n]);(try rfl)));rfl);(simp(disch:=omega) only[go_sem,W,Q0u Q4n];refine hK _ ?_;clear hK K))|((with_reducible refine Q0c ?_ ?_);rfl;intro K hK;simp(disch:=omega) only[go_sem,W,Q0u Q4n];((repeat(refine ndI (by first|assumption|rfl) ?_));refine hK _ ?_;clear hK K))|(with_reducible first|(refine Q0d ?_;refine hR _ ?_;clear hR R)|((first|refine Q0e ?_);intro Ψ hΨ hΨ')|(refine Q0a ?_;intro R hR)|(refine hΨ _ ?_;clear hΨ hΨ' Ψ)|refine Q0h ?_|refine Q1f ?_)|((with_reducible refine hΨ' _ _ ?_ ?_);(focus(simp;done));clear hΨ hΨ' Ψ)|((with_reducible apply Q0f);rfl;rfl;all_goals(intro hc;first|(cases hc;done)|(try simp only at hc)))))))
   all_goals(refine⟨by simp,⟨_,?_,AV.le_refl _⟩,Q0g (by simp[leH,hget])⟩;simp only[Tryz.results59,resL,ldA,Q0o,go_sem])
theorem all_one(ex:Bool)(l:List Hd)(hl:l.length≤400)(ok:∀h∈l,h.ok)(n:Nat)(hn:n<WW):Fn Tryz.prog 59 [lg ex l,wsl true [n]] [] (.tup [wN ((n+tot l)%WW),vb (decide (WW≤n+tot l))]) []:=by
 have hsum:=X0f false (n::wds l) (by rw[List.length_cons,X2p];omega) (fun x hx=>by
  rcases List.mem_cons.1 hx with rfl|hx
  · exact hn
  · exact wds_lt ok x hx)
 have hsum0:=X0f true [n] (by simp) (fun x hx=>by simp at hx;rw[hx];exact hn)
 rw[List.sum_cons,wds_sum] at hsum
 rw[List.sum_cons,List.sum_nil,Nat.add_zero] at hsum0
 obtain⟨tn,htn⟩:∃m,(n+tot l)%WW=m:=⟨_,rfl⟩
 obtain⟨tq,htq⟩:∃q,decide (WW≤n+tot l)=q:=⟨_,rfl⟩
 rw[htn,htq] at hsum ⊢
 (refine Q0n Tryz.func59 rfl (by rfl) ?_;simp only[Tryz.ntmps59,List.length_cons,List.length_nil,Nat.reduceAdd,Nat.reduceSub,List.replicate,List.cons_append,List.nil_append])
 (repeat(any_goals(first|((with_reducible refine Q0c ?_ ?_);rfl;intro K hK;simp only[go_sem];((repeat(refine ndI (by first|assumption) ?_));refine hK _ ?_;clear hK K))|(with_reducible first|(refine Q0d ?_;refine hR _ ?_;clear hR R)|((first|refine Q0e ?_|refine Q0l ?_);intro Ψ hΨ hΨ')|(refine Q0a ?_;intro R hR)|(refine hΨ _ ?_;clear hΨ hΨ' Ψ)))))
 refine X1e l.length (fun i=>if i=0 then⟨[.any,wsl true [n],.ptr 2 0,.any,.ptr 4 0,.any,.any,.any,.any,hsl ex l,vi .i64 l.length,vi .i64 0,.any,.any,.any,.any,.any,.any,.any,.any,.any,.any,.any,.any,.any,.any,.any],[(2,[hsl ex l]),(4,[vi .u64 0,vi .u64 0,vi .u64 0,vi .u64 0])]⟩ else stAl ex l 500 (n::wds (l.take i)) i) ?_ ?_
 · rw[if_pos rfl]
   exact St.to.of_le (St.le_of (by simp[leT]) (by simp[leH,hget]))
 intro i hi Ψ hΨ hΨ'
 rw[if_neg (Nat.succ_ne_zero i)] at hΨ
 dsimp only[stAl] at hΨ ⊢
 rcases Nat.lt_or_ge i l.length with hlt|hge
 · obtain⟨y,hy⟩:∃y,l[i]? = some y:=⟨l[i],List.getElem?_eq_getElem hlt⟩
   have k1:(decide ((i:Int)<(l.length:Int)))=true:=by simpa using hlt
   have k2:=X2e hy
   have k7:(i:Int)+1=((i+1:Nat):Int):=by omega
   have hs:=X7c hy
   rw[hs] at hΨ
   rcases Nat.eq_zero_or_pos i with rfl|hi0
   · rw[if_pos rfl]
     have k10:(decide ((0:Int)<(l.length:Int)))=true:=by simpa using hlt
     have k11:=k2
     rw[Nat.zero_mul,List.drop_zero] at k11
     (have W:=ndI k10 (ndI k11 (ndI @wrI @Q0m));(repeat(any_goals(first|((with_reducible refine Q0c ?_ ?_);rfl;intro K hK;simp(disch:=omega) only[go_sem,W,Q4e,AV.refsL,AV.refs,List.length_append,List.length_cons,List.length_nil,Bool.or_false];((repeat(refine ndI (by first|assumption|omega|rfl) ?_));refine hK _ ?_;clear hK K))|((with_reducible refine Q4u ?_ ?_);rfl;intro K hK;apply Q9n;rfl;rfl;rfl;(focus(simp only[go_sem];try rfl));(first|omega);(first|omega);rfl;rfl;(first|omega);(first|(focus(simp[spl];done)));(first|(focus(simp;done)));rfl;(first|rfl);(first|omega);(first|rfl);(simp(disch:=omega) only[go_sem,W,Q4e,AV.refsL,AV.refs,List.length_append,List.length_cons,List.length_nil,Bool.or_false];refine hK _ ?_;clear hK K))|(with_reducible first|(refine Q0d ?_;refine hR _ ?_;clear hR R)|((first|refine Q0e ?_|refine Q0l ?_);intro Ψ hΨ hΨ')|(refine Q0a ?_;intro R hR)|(refine hΨ _ ?_;clear hΨ hΨ' Ψ)|refine Q0j ?_)|((with_reducible refine hΨ' _ _ ?_ ?_);(focus(simp;done));clear hΨ hΨ' Ψ)|((with_reducible apply Q0f);rfl;rfl;all_goals(intro hc;first|(cases hc;done)|(try simp only at hc)))))))
     (repeat(any_goals(fail)))
     have h2:wds (List.take 0 l)=[]:=rfl
     rw[h2,List.nil_append] at hΨ
     exact hΨ _ hlt (St.to.trans (St.to.of_le (τ:=stAl ex l 21 ([n]++[y.p,y.s]) 1) (St.le_of (by simp[leT]) (by simp[leH,hget,rcW,wpv]))) (X5z ex l _ _))
   · rw[if_neg (by omega)]
     have k5:=X2p (l.take i)
     have k6:(l.take i).length≤400:=by simp;omega
     generalize wds (l.take i)=out at k5 hΨ ⊢
     have k4:=Q6i (n::out)
     have k3:(n::out).length=out.length+1:=rfl
     have k9:∀r,AV.refsL r (rcW (n::out))=false:=fun r=>Q0m r _
     rw[←List.cons_append] at hΨ
     generalize n::out=out' at k4 k3 k9 hΨ ⊢
     (have W:=ndI k1 (ndI k2 (ndI k4 (ndI k7 (ndI k9 (ndI @wrI @Q0m)))));(repeat(any_goals(first|((with_reducible refine Q0c ?_ ?_);rfl;intro K hK;simp(disch:=omega) only[go_sem,W,Q4e,AV.refsL,AV.refs,List.length_append,List.length_cons,List.length_nil,Bool.or_false];((repeat(refine ndI (by first|assumption|omega|rfl) ?_));refine hK _ ?_;clear hK K))|(with_reducible first|(refine Q0d ?_;refine hR _ ?_;clear hR R)|((first|refine Q0e ?_|refine Q0l ?_);intro Ψ hΨ hΨ')|(refine Q0a ?_;intro R hR)|(refine hΨ _ ?_;clear hΨ hΨ' Ψ)|refine Q0j ?_)|((with_reducible refine hΨ' _ _ ?_ ?_);(focus(simp;done));clear hΨ hΨ' Ψ)|((with_reducible apply Q0f);rfl;rfl;all_goals(intro hc;first|(cases hc;done)|(try simp only at hc)))))))
     exact hΨ _ hlt (St.to.trans (St.to.of_le (τ:=stAl ex l 21 (out'++[y.p,y.s]) (i+1)) (St.le_of (by simp[leT]) (by simp[leH,hget,X4n]))) (X5z ex l _ _))
 · have k1:(decide ((i:Int)<(l.length:Int)))=false:=by simpa using hge
   have e:l.take i=l:=List.take_of_length_le hge
   rw[e]
   rcases Nat.eq_zero_or_pos i with rfl|hi0
   · rw[if_pos rfl]
     have hl0:l=[]:=List.eq_nil_of_length_eq_zero (by omega)
     have k10:(decide ((0:Int)<(l.length:Int)))=false:=by rw[hl0];rfl
     have ht:tot l=0:=by rw[hl0];rfl
     rw[ht,Nat.add_zero] at htn htq
     rw[htn,htq] at hsum0
     (repeat(any_goals(first|((with_reducible refine Q0i ?_ ?_ ?_);rfl;rfl;intro K hK;((apply Q0b (hsum0);rfl;rfl;rfl;rfl;exact Tryz.func36);kernel_rfl;rfl;(focus((simp only[go_sem,k10]);(try rfl);done));(first|rfl));(simp only[go_sem,k10];refine hK _ ?_;clear hK K))|((with_reducible refine Q0c ?_ ?_);rfl;intro K hK;simp only[go_sem,k10];((repeat(refine ndI (by first|assumption) ?_));refine hK _ ?_;clear hK K))|(with_reducible first|(refine Q0d ?_;refine hR _ ?_;clear hR R)|((first|refine Q0e ?_);intro Ψ hΨ hΨ')|(refine Q0a ?_;intro R hR)|(refine hΨ _ ?_;clear hΨ hΨ' Ψ)|refine Q0h ?_|refine Q1f ?_)|((with_reducible refine hΨ' _ _ ?_ ?_);(focus(simp;done));clear hΨ hΨ' Ψ)|((with_reducible apply Q0f);rfl;rfl;all_goals(intro hc;first|(cases hc;done)|(try simp only at hc))))))
     all_goals(refine⟨by simp,⟨_,?_,AV.le_refl _⟩,Q0g (by simp[leH,hget])⟩;simp only[Tryz.results59,resL,ldA,Q0o,go_sem])
   · rw[if_neg (by omega)]
     have k4:=Q6i (n::wds l)
     have k5:unC (rcW (n::wds l))=some ((n::wds l).flatMap wpv):=unC_map _
     generalize n::wds l=out' at k4 k5 hsum
     (have W:=ndI k1 (ndI k4 k5);(repeat(any_goals(first|((with_reducible refine Q0i ?_ ?_ ?_);rfl;rfl;intro K hK;((apply Q5e (hsum);rfl;rfl;rfl;rfl;exact Tryz.func36);kernel_rfl;rfl;(focus((simp(disch:=omega) only[AV.viewL,AV.view,Q4b,unC,Option.map_some,go_sem,W,Q0u Q4n]);(try rfl)));rfl);(simp(disch:=omega) only[go_sem,W,Q0u Q4n];refine hK _ ?_;clear hK K))|((with_reducible refine Q0c ?_ ?_);rfl;intro K hK;simp(disch:=omega) only[go_sem,W,Q0u Q4n];((repeat(refine ndI (by first|assumption|rfl) ?_));refine hK _ ?_;clear hK K))|(with_reducible first|(refine Q0d ?_;refine hR _ ?_;clear hR R)|((first|refine Q0e ?_);intro Ψ hΨ hΨ')|(refine Q0a ?_;intro R hR)|(refine hΨ _ ?_;clear hΨ hΨ' Ψ)|refine Q0h ?_|refine Q1f ?_)|((with_reducible refine hΨ' _ _ ?_ ?_);(focus(simp;done));clear hΨ hΨ' Ψ)|((with_reducible apply Q0f);rfl;rfl;all_goals(intro hc;first|(cases hc;done)|(try simp only at hc)))))))
     all_goals(refine⟨by simp,⟨_,?_,AV.le_refl _⟩,Q0g (by simp[leH,hget])⟩;simp only[Tryz.results59,resL,ldA,Q0o,go_sem])
end Go.Proofs.YtbmcdemnnbndeaaGreatDoor.lg
namespace Go.Proofs.YtbmcdemnnbndeaaGreatDoor.lg
open Go.RowKit
open Nat (reduceBEq)
set_option maxRecDepth 20000
set_option maxHeartbeats 2000000
def X1s(l:List Hd):Nat→Int
 |0=>0
 |i+1=>match l[i]? with|some y=>y.a|none=>0
def okR(l:List Hd)(i:Nat):Bool:=match l[i]? with|some y=>Q5w y&&decide (X1s l i<y.a)|none=>false
def okU(l:List Hd):Nat→Bool
 |0=>true
 |i+1=>okU l i&&okR l i
def okL(l:List Hd):Bool:=decide (l.length≤24)&&(okU l l.length&&decide (tot l<WW))
theorem okU_false{l:List Hd}{i n:Nat}(h:okR l i=false)(hi:i<n):okU l n=false:=by
 induction n with
 |zero=>omega
 |succ n ih=>
  unfold okU
  rcases Nat.lt_or_ge i n with h1|h1
  · rw[ih h1];rfl
  · obtain rfl:i=n:=by omega
    rw[h,Bool.and_false]
theorem check_fn(ex:Bool)(l:List Hd)(hl:l.length≤maxLen)(ok:∀h∈l,h.ok):Fn Tryz.prog 22 [lg ex l] [] (vi .i64 (if okL l then 0 else 170)) []:=by
 unfold maxLen at hl
 by_cases h24:l.length≤24
 · have e0:(decide ((l.length:Int)>24))=false:=by simp;omega
   have al:=all_nil ex l (by omega) ok
   have hq:(decide (WW≤tot l)) = !decide (tot l<WW):=by
    rw[Bool.eq_iff_iff];simp
   rw[hq] at al
   have hres:okL l=(okU l l.length&&decide (tot l<WW)):=by unfold okL;rw[decide_eq_true h24,Bool.true_and]
   rw[hres]
   obtain⟨tn,htn⟩:∃n,tot l%WW=n:=⟨_,rfl⟩
   obtain⟨tq,htq⟩:∃q,decide (tot l<WW)=q:=⟨_,rfl⟩
   obtain⟨tu,htu⟩:∃q,okU l l.length=q:=⟨_,rfl⟩
   rw[htn,htq] at al
   rw[htq,htu]
   (refine Q0n Tryz.func22 rfl (by rfl) ?_;simp only[Tryz.ntmps22,List.length_cons,List.length_nil,Nat.reduceAdd,Nat.reduceSub,List.replicate,List.cons_append,List.nil_append])
   (repeat(any_goals(first|((with_reducible refine Q0c ?_ ?_);rfl;intro K hK;simp only[go_sem,e0];((repeat(refine ndI (by first|assumption) ?_));refine hK _ ?_;clear hK K))|(with_reducible first|(refine Q0d ?_;refine hR _ ?_;clear hR R)|((first|refine Q0e ?_|refine Q0l ?_);intro Ψ hΨ hΨ')|(refine Q0a ?_;intro R hR)|(refine hΨ _ ?_;clear hΨ hΨ' Ψ)|refine Q0j ?_)|((with_reducible apply Q0f);rfl;rfl;all_goals(intro hc;first|(cases hc;done)|(try simp only at hc))))))
   refine Q5v (α:={i:Nat // i≤l.length∧okU l i=true}) (fun p=>⟨[.any,.ptr 1 0,.any,vi .u64 (X1s l p.1),.any,.any,.any,.any,.any,.any,.any,.any,.any,hsl ex l,vi .i64 l.length,vi .i64 p.1,.any,.any,.any,.any,.any,.any,.any,.any,.any,.any,.any,.any,.any,.any,.any,.any,.any,.any,.any,.any,.any],[(1,[hsl ex l])]⟩) (fun p=>l.length-p.1) ⟨0,Nat.zero_le _,rfl⟩ (St.le_of (by simp[leT,X1s]) (by simp[leH,hget])) ?_
   rintro ⟨i,hi,hu⟩ Ψ hΨ hΨ'
   dsimp only at hi hu hΨ ⊢
   rcases Nat.lt_or_ge i l.length with hlt|hge
   · obtain⟨y,hy⟩:∃y,l[i]? = some y:=⟨l[i],List.getElem?_eq_getElem hlt⟩
     have k1:(decide ((i:Int)<(l.length:Int)))=true:=by simpa using hlt
     have k2:=X2e hy
     have k7:(i:Int)+1=((i+1:Nat):Int):=by omega
     obtain⟨_,op,os,_,_⟩:=ok y (List.mem_of_getElem? hy)
     have rf:=Q9s y.a y.p y.s y.d y.f op os
     have hR:okR l i=(Q5w y&&decide (X1s l i<y.a)):=by unfold okR;rw[hy]
     have hnx:X1s l (i+1)=y.a:=by simp only[X1s,hy]
     have hnu:okR l i=true→okU l (i+1)=true:=fun h=>by unfold okU;rw[hu,h];rfl
     have hno:okR l i=false→tu=false:=fun h=>by rw[←htu];exact okU_false h hlt
     rw[show(⟨y.a,y.p,y.s,y.d,y.f⟩:Hd)=y from rfl] at rf
     rw[hR] at hnu hno
     generalize Q5w y=rq at rf hnu hno
     have hle:(decide (X1s l i<y.a)) = !decide (y.a≤X1s l i):=by
      rw[Bool.eq_iff_iff];simp
     rw[hle] at hnu hno
     obtain⟨lq,hlb⟩:∃lq,decide (y.a≤X1s l i)=lq:=⟨_,rfl⟩
     rw[hlb] at hnu hno
     clear hR hle
     cases rq with
     |false=>
      (have W:=ndI k1 (ndI k2 (ndI k7 @wrI));(repeat(any_goals(first|((with_reducible refine Q0i ?_ ?_ ?_);rfl;rfl;intro K hK;((apply Q0b (rf);rfl;rfl;rfl;rfl;exact Tryz.func58);kernel_rfl;rfl;(focus((simp(disch:=omega) only[go_sem,W,hlb]);(try rfl);done));(first|rfl));(simp(disch:=omega) only[go_sem,W,hlb];refine hK _ ?_;clear hK K))|((with_reducible refine Q0c ?_ ?_);rfl;intro K hK;simp(disch:=omega) only[go_sem,W,hlb];((repeat(refine ndI (by first|assumption|omega|rfl) ?_));refine hK _ ?_;clear hK K))|(with_reducible first|(refine Q0d ?_;refine hR _ ?_;clear hR R)|((first|refine Q0e ?_|refine Q0l ?_);intro Ψ hΨ hΨ')|(refine Q0a ?_;intro R hR)|(refine hΨ _ ?_;clear hΨ hΨ' Ψ)|refine Q0j ?_|refine Q0h ?_)|((with_reducible refine hΨ' _ _ ?_ ?_);(focus(simp;done));clear hΨ hΨ' Ψ)|((with_reducible apply Q0s);rfl;rfl;rfl;all_goals(intro hb;first|(cases hb;done)|((try simp only[Bool.not_true,Bool.not_false] at hb);(first|((fail_if_success (with_reducible intro _));simp(disch:=omega) only[go_sem,W,hlb])))))|((with_reducible apply Q0f);rfl;rfl;all_goals(intro hc;first|(cases hc;done)|(try simp only at hc)))))))
      all_goals(refine⟨by simp,⟨_,?_,AV.le_refl _⟩,Q0g (by simp[leH,hget])⟩;simp only[Tryz.results22,resL,ldA,Q0o,go_sem])
      all_goals rw[hno rfl]
      all_goals rfl
     |true=>
      cases lq with
      |true=>
       (have W:=ndI k1 (ndI k2 (ndI k7 @wrI));(repeat(any_goals(first|((with_reducible refine Q0i ?_ ?_ ?_);rfl;rfl;intro K hK;((apply Q0b (rf);rfl;rfl;rfl;rfl;exact Tryz.func58);kernel_rfl;rfl;(focus((simp(disch:=omega) only[go_sem,W,hlb]);(try rfl);done));(first|rfl));(simp(disch:=omega) only[go_sem,W,hlb];refine hK _ ?_;clear hK K))|((with_reducible refine Q0c ?_ ?_);rfl;intro K hK;simp(disch:=omega) only[go_sem,W,hlb];((repeat(refine ndI (by first|assumption|omega|rfl) ?_));refine hK _ ?_;clear hK K))|(with_reducible first|(refine Q0d ?_;refine hR _ ?_;clear hR R)|((first|refine Q0e ?_|refine Q0l ?_);intro Ψ hΨ hΨ')|(refine Q0a ?_;intro R hR)|(refine hΨ _ ?_;clear hΨ hΨ' Ψ)|refine Q0j ?_|refine Q0h ?_)|((with_reducible refine hΨ' _ _ ?_ ?_);(focus(simp;done));clear hΨ hΨ' Ψ)|((with_reducible apply Q0s);rfl;rfl;rfl;all_goals(intro hb;first|(cases hb;done)|((try simp only[Bool.not_true,Bool.not_false] at hb);(first|((with_reducible intro K hK);simp(disch:=omega) only[go_sem,W,hlb];((repeat(refine ndI (by first|assumption|rfl) ?_));refine hK _ ?_;clear hK K))))))|((with_reducible apply Q0f);rfl;rfl;all_goals(intro hc;first|(cases hc;done)|(try simp only at hc)))))))
       all_goals(refine⟨by simp,⟨_,?_,AV.le_refl _⟩,Q0g (by simp[leH,hget])⟩;simp only[Tryz.results22,resL,ldA,Q0o,go_sem])
       all_goals rw[hno rfl]
       all_goals rfl
      |false=>
       (have W:=ndI k1 (ndI k2 (ndI k7 @wrI));(repeat(any_goals(first|((with_reducible refine Q0i ?_ ?_ ?_);rfl;rfl;intro K hK;((apply Q0b (rf);rfl;rfl;rfl;rfl;exact Tryz.func58);kernel_rfl;rfl;(focus((simp(disch:=omega) only[go_sem,W,hlb]);(try rfl);done));(first|rfl));(simp(disch:=omega) only[go_sem,W,hlb];refine hK _ ?_;clear hK K))|((with_reducible refine Q0c ?_ ?_);rfl;intro K hK;simp(disch:=omega) only[go_sem,W,hlb];((repeat(refine ndI (by first|assumption|omega|rfl) ?_));refine hK _ ?_;clear hK K))|(with_reducible first|(refine Q0d ?_;refine hR _ ?_;clear hR R)|((first|refine Q0e ?_|refine Q0l ?_);intro Ψ hΨ hΨ')|(refine Q0a ?_;intro R hR)|(refine hΨ _ ?_;clear hΨ hΨ' Ψ)|refine Q0j ?_)|((with_reducible refine hΨ' _ _ ?_ ?_);(focus(simp;done));clear hΨ hΨ' Ψ)|((with_reducible apply Q0s);rfl;rfl;rfl;all_goals(intro hb;first|(cases hb;done)|((try simp only[Bool.not_true,Bool.not_false] at hb);(first|((with_reducible intro K hK);simp(disch:=omega) only[go_sem,W,hlb];((repeat(refine ndI (by first|assumption|rfl) ?_));refine hK _ ?_;clear hK K))))))|((with_reducible apply Q0f);rfl;rfl;all_goals(intro hc;first|(cases hc;done)|(try simp only at hc)))))))
       exact hΨ _ ⟨i+1,hlt,hnu rfl⟩ (by simp only;omega) (St.le_of (by simp[leT,hnx]) (by simp[leH,hget]))
   · have k1:(decide ((i:Int)<(l.length:Int)))=false:=by simpa using hge
     have htu':tu=true:=by rw[←htu,←hu];congr 1;omega
     (repeat(any_goals(first|((with_reducible refine Q0i ?_ ?_ ?_);rfl;rfl;intro K hK;((apply Q0b (al);rfl;rfl;rfl;rfl;exact Tryz.func59);kernel_rfl;rfl;(focus((simp only[go_sem,k1]);(try rfl);done));(first|rfl));(simp only[go_sem,k1];refine hK _ ?_;clear hK K))|((with_reducible refine Q0c ?_ ?_);rfl;intro K hK;simp only[go_sem,k1];((repeat(refine ndI (by first|assumption) ?_));refine hK _ ?_;clear hK K))|(with_reducible first|(refine Q0d ?_;refine hR _ ?_;clear hR R)|((first|refine Q0e ?_);intro Ψ hΨ hΨ')|(refine Q0a ?_;intro R hR)|(refine hΨ _ ?_;clear hΨ hΨ' Ψ)|refine Q0j ?_|refine Q0h ?_|refine Q1f ?_)|((with_reducible refine hΨ' _ _ ?_ ?_);(focus(simp;done));clear hΨ hΨ' Ψ)|((with_reducible apply Q0f);rfl;rfl;all_goals(intro hc;first|(cases hc;done)|(try simp only at hc))))))
     all_goals(refine⟨by simp,⟨_,?_,AV.le_refl _⟩,Q0g (by simp[leH,hget])⟩;simp only[Tryz.results22,resL,ldA,Q0o,go_sem])
     all_goals rw[htu']
     all_goals simp_all
 · have e0:(decide ((l.length:Int)>24))=true:=by simp;omega
   have hres:okL l=false:=by unfold okL;rw[decide_eq_false h24];rfl
   rw[hres]
   (refine Q0n Tryz.func22 rfl (by rfl) ?_;simp only[Tryz.ntmps22,List.length_cons,List.length_nil,Nat.reduceAdd,Nat.reduceSub,List.replicate,List.cons_append,List.nil_append])
   (repeat(any_goals(first|((with_reducible refine Q0c ?_ ?_);rfl;intro K hK;simp only[go_sem,e0];((repeat(refine ndI (by first|assumption) ?_));refine hK _ ?_;clear hK K))|(with_reducible first|(refine Q0d ?_;refine hR _ ?_;clear hR R)|((first|refine Q0e ?_);intro Ψ hΨ hΨ')|(refine Q0a ?_;intro R hR)|(refine hΨ _ ?_;clear hΨ hΨ' Ψ)|refine Q0h ?_)|((with_reducible refine hΨ' _ _ ?_ ?_);(focus(simp;done));clear hΨ hΨ' Ψ)|((with_reducible apply Q0f);rfl;rfl;all_goals(intro hc;first|(cases hc;done)|(try simp only at hc))))))
   all_goals(refine⟨by simp,⟨_,?_,AV.le_refl _⟩,Q0g (by simp[leH,hget])⟩;simp only[Tryz.results22,resL,ldA,Q0o,go_sem])
   all_goals rfl
end Go.Proofs.YtbmcdemnnbndeaaGreatDoor.lg
namespace Go.Proofs.YtbmcdemnnbndeaaGreatDoor.nz
open Go.RowKit
open Nat (reduceBEq)
abbrev vi(k:IntKind)(n:Int):AV:=.c (.v (.int k n))
abbrev vb(b:Bool):AV:=.c (.v (.bool b))
abbrev w4(a b c d:Int):AV:=.agg [vi .u64 a,vi .u64 b,vi .u64 c,vi .u64 d]
set_option maxRecDepth 20000
theorem Q9s(a b c d e:Int):Fn Tryz.prog 60 [.agg [vi .u64 a,vi .u64 b,vi .u64 c,vi .u64 d,vi .u64 e]] [] (vb ((a != 0)&&(e==0))) []:=by
 (refine Q0n Tryz.func60 rfl (by rfl) ?_;simp only[Tryz.ntmps60,List.length_cons,List.length_nil,Nat.reduceAdd,Nat.reduceSub,List.replicate,List.cons_append,List.nil_append])
 (repeat(any_goals(first|((with_reducible refine Q0c ?_ ?_);rfl;intro K hK;simp only[go_sem];((repeat(refine ndI (by first|assumption) ?_));refine hK _ ?_;clear hK K))|(with_reducible first|(refine Q0d ?_;refine hR _ ?_;clear hR R)|((first|refine Q0e ?_);intro Ψ hΨ hΨ')|(refine Q0a ?_;intro R hR)|(refine hΨ _ ?_;clear hΨ hΨ' Ψ)|refine Q0h ?_)|((with_reducible apply Q0s);rfl;rfl;rfl;all_goals(intro hb;first|(cases hb;done)|((try simp only[Bool.not_true,Bool.not_false] at hb);(first|((with_reducible intro K hK);simp only[go_sem];((repeat(refine ndI (by first|assumption|omega) ?_));refine hK _ ?_;clear hK K))|((fail_if_success (with_reducible intro _));simp only[go_sem]))))))))
 all_goals(refine⟨by simp,⟨_,?_,AV.le_refl _⟩,Q0g (by simp[leH,hget])⟩;simp only[Tryz.results60,resL,ldA,Q0o,go_sem])
 all_goals simp[*]
theorem X3m(a:Int):Fn Tryz.prog 104 [vi .u64 a] [] (vb false) []:=by
 (refine Q0n Tryz.func104 rfl (by rfl) ?_;simp only[Tryz.ntmps104,List.length_cons,List.length_nil,Nat.reduceAdd,Nat.reduceSub,List.replicate,List.cons_append,List.nil_append])
 (repeat(any_goals(first|((with_reducible refine Q0c ?_ ?_);rfl;intro K hK;simp only[go_sem];((repeat(refine ndI (by first|assumption) ?_));refine hK _ ?_;clear hK K))|(with_reducible first|(refine Q0d ?_;refine hR _ ?_;clear hR R)|((first|refine Q0e ?_);intro Ψ hΨ hΨ')|(refine Q0a ?_;intro R hR)|(refine hΨ _ ?_;clear hΨ hΨ' Ψ)|refine Q0h ?_))))
 all_goals(refine⟨by simp,⟨_,?_,AV.le_refl _⟩,Q0g (by simp[leH,hget])⟩;simp only[Tryz.results104,resL,ldA,Q0o,go_sem])
 all_goals simp
def cmpI(a b:Int):Int:=if a<b then -1 else if b<a then 1 else 0
theorem Q8z(a b:Int):Fn Tryz.prog 88 [vi .u64 a,vi .u64 b] [] (vi .i64 (cmpI a b)) []:=by
 (refine Q0n Tryz.func88 rfl (by rfl) ?_;simp only[Tryz.ntmps88,List.length_cons,List.length_nil,Nat.reduceAdd,Nat.reduceSub,List.replicate,List.cons_append,List.nil_append])
 (repeat(any_goals(first|((with_reducible refine Q0i ?_ ?_ ?_);rfl;rfl;intro K hK;((apply Q0b (X3m _);rfl;rfl;rfl;rfl;exact Tryz.func104);kernel_rfl;rfl;(focus((simp only[go_sem]);(try rfl);done));(first|rfl));(simp only[go_sem];refine hK _ ?_;clear hK K))|((with_reducible refine Q0c ?_ ?_);rfl;intro K hK;simp only[go_sem];((repeat(refine ndI (by first|assumption) ?_));refine hK _ ?_;clear hK K))|(with_reducible first|(refine Q0d ?_;refine hR _ ?_;clear hR R)|((first|refine Q0e ?_);intro Ψ hΨ hΨ')|(refine Q0a ?_;intro R hR)|(refine hΨ _ ?_;clear hΨ hΨ' Ψ)|refine Q0j ?_|refine Q0h ?_)|((with_reducible refine hΨ' _ _ ?_ ?_);(focus(simp;done));clear hΨ hΨ' Ψ)|((with_reducible apply Q0f);rfl;rfl;all_goals(intro hc;first|(cases hc;done)|(try simp only at hc))))))
 all_goals(refine⟨by simp,⟨_,?_,AV.le_refl _⟩,Q0g (by simp[leH,hget])⟩;simp only[Tryz.results88,resL,ldA,Q0o,go_sem])
 all_goals simp_all [cmpI]
 all_goals omega
end Go.Proofs.YtbmcdemnnbndeaaGreatDoor.nz
namespace Go.Proofs.YtbmcdemnnbndeaaGreatDoor.nz
open Go.RowKit
set_option maxRecDepth 20000
theorem wrI{x:Int}(h1:-9223372036854775808≤x)(h2:x≤9223372036854775807):IntKind.i64.wrap x=x:=by
 unfold IntKind.wrap;simp[IntKind.bits,IntKind.signed];omega
theorem wrU{x:Int}(h1:0≤x)(h2:x≤18446744073709551615):IntKind.u64.wrap x=x:=by
 unfold IntKind.wrap;simp[IntKind.bits,IntKind.signed];omega
end Go.Proofs.YtbmcdemnnbndeaaGreatDoor.nz
namespace Go.Proofs.YtbmcdemnnbndeaaGreatDoor.nz
open Go.RowKit
set_option maxRecDepth 20000
set_option maxHeartbeats 1000000
theorem X8a:IntKind.u64.bits=64:=rfl
end Go.Proofs.YtbmcdemnnbndeaaGreatDoor.nz
namespace Go.Proofs.YtbmcdemnnbndeaaGreatDoor.nz
open Go.RowKit
set_option maxRecDepth 20000
set_option maxHeartbeats 1000000
abbrev U(a:Int):Prop:=0≤a∧a≤18446744073709551615
end Go.Proofs.YtbmcdemnnbndeaaGreatDoor.nz
namespace Go.Proofs.YtbmcdemnnbndeaaGreatDoor.nz
open Go.RowKit
open Nat (reduceBEq)
set_option maxRecDepth 20000
set_option maxHeartbeats 1000000
theorem wcmp_fn(a b c d e f g h:Int):Fn Tryz.prog 34 [w4 a b c d,w4 e f g h] [] (vi .i64 (if d<h then -1 else if h<d then 1 else if c<g then -1 else if g<c then 1 else if b<f then -1 else if f<b then 1 else if a<e then -1 else if e<a then 1 else 0)) []:=by
 (refine Q0n Tryz.func34 rfl (by rfl) ?_;simp only[Tryz.ntmps34,List.length_cons,List.length_nil,Nat.reduceAdd,Nat.reduceSub,List.replicate,List.cons_append,List.nil_append])
 (repeat(any_goals(first|((with_reducible refine Q0c ?_ ?_);rfl;intro K hK;simp(disch:=omega) only[go_sem,wrI,Int.reduceSub,Int.reduceNeg,Int.reduceGE,decide_true,decide_false,ge_iff_le,gt_iff_lt];((repeat(refine ndI (by first|assumption|rfl) ?_));refine hK _ ?_;clear hK K))|(with_reducible first|(refine Q0d ?_;refine hR _ ?_;clear hR R)|((first|refine Q0e ?_|refine Q0l ?_);intro Ψ hΨ hΨ')|(refine Q0a ?_;intro R hR)|(refine hΨ _ ?_;clear hΨ hΨ' Ψ)|refine Q0j ?_|refine Q0h ?_|refine Q1f ?_)|((with_reducible refine hΨ' _ _ ?_ ?_);(focus(simp;done));clear hΨ hΨ' Ψ)|((with_reducible apply Q0f);rfl;rfl;all_goals(intro hc;first|(cases hc;done)|(try simp only at hc)))|(with_reducible refine Q4m 5 ?_)|((with_reducible refine Q5u ?_);intro Ψ hΨ hΨ')|((with_reducible refine Q0v ?_ ?_);kernel_rfl;(with_reducible refine hR _ ?_);clear hR R)|(((with_reducible apply Q0w);rfl;rfl;(simp(disch:=omega) only[rdE,rdOf,go_sem,wrI,Int.reduceSub,Int.reduceNeg,Int.reduceGE,decide_true,decide_false,ge_iff_le,gt_iff_lt];rfl);(intro τ hA hQ hN;((try simp only[Q1a,Op.operands,Call.operands,go_sem,wrI,Int.reduceSub,Int.reduceNeg,Int.reduceGE,decide_true,decide_false,ge_iff_le,gt_iff_lt,go_sem,List.mem_cons,List.not_mem_nil,forall_eq_or_imp,forall_eq,List.append_toArray,Option.toArray] at hA);(try simp only[go_sem,wrI,Int.reduceSub,Int.reduceNeg,Int.reduceGE,decide_true,decide_false,ge_iff_le,gt_iff_lt,List.mem_cons,List.not_mem_nil,forall_eq_or_imp,forall_eq] at hQ hN);(first|(revert hA;intro hA));(first|(revert hQ;intro hQ));(first|(revert hN;intro hN));simp(disch:=omega) only[go_sem,wrI,Int.reduceSub,Int.reduceNeg,Int.reduceGE,decide_true,decide_false,ge_iff_le,gt_iff_lt,go_sem,hA,hQ,hN];(repeat(refine ndI (by first|assumption|omega|rfl) ?_));(first|apply Q0z))));(simp(disch:=omega) only[St.eff,setO,Q0t,go_sem,wrI,Int.reduceSub,Int.reduceNeg,Int.reduceGE,decide_true,decide_false,ge_iff_le,gt_iff_lt]))|((with_reducible refine Q0q ?_ ?_ ?_ ?_);kernel_rfl;kernel_rfl;(first|kernel_rfl);intro R hR))))
 all_goals(refine⟨by simp,⟨_,?_,AV.le_refl _⟩,Q0g (by simp[leH,hget])⟩;simp only[Tryz.results34,resL,ldA,Q0o,go_sem])
 all_goals simp_all
 all_goals(repeat' split)<;>first|rfl|omega
end Go.Proofs.YtbmcdemnnbndeaaGreatDoor.nz
namespace Go.Proofs.YtbmcdemnnbndeaaGreatDoor.nz
open Go.RowKit
open Nat (reduceBEq)
set_option maxRecDepth 20000
set_option maxHeartbeats 1000000
theorem cmpor_fn(x y:Int):Fn Tryz.prog 87 [.c (.sl false 1 2 [.v (.int .i64 x),.v (.int .i64 y)])] [] (vi .i64 (if x=0 then y else x)) []:=by
 (refine Q0n Tryz.func87 rfl (by rfl) ?_;simp only[Tryz.ntmps87,List.length_cons,List.length_nil,Nat.reduceAdd,Nat.reduceSub,List.replicate,List.cons_append,List.nil_append])
 (repeat(any_goals(first|((with_reducible refine Q0c ?_ ?_);rfl;intro K hK;simp(disch:=omega) only[go_sem,wrI,Int.reduceAdd];((repeat(refine ndI (by first|assumption|omega|rfl) ?_));refine hK _ ?_;clear hK K))|(with_reducible first|(refine Q0d ?_;refine hR _ ?_;clear hR R)|((first|refine Q0e ?_|refine Q0l ?_);intro Ψ hΨ hΨ')|(refine Q0a ?_;intro R hR)|(refine hΨ _ ?_;clear hΨ hΨ' Ψ)|refine Q0j ?_|refine Q0h ?_|refine Q1f ?_)|((with_reducible refine hΨ' _ _ ?_ ?_);(focus(simp;done));clear hΨ hΨ' Ψ)|((with_reducible apply Q0f);rfl;rfl;all_goals(intro hc;first|(cases hc;done)|(try simp only at hc)))|(with_reducible refine Q4m 3 ?_)|((with_reducible refine Q5u ?_);intro Ψ hΨ hΨ'))))
 all_goals(refine⟨by simp,⟨_,?_,AV.le_refl _⟩,Q0g (by simp[leH,hget])⟩;simp only[Tryz.results87,resL,ldA,Q0o,go_sem])
 all_goals simp_all
def cmpW(a b c d e f g h:Int):Int:=if d<h then -1 else if h<d then 1 else if c<g then -1 else if g<c then 1 else if b<f then -1 else if f<b then 1 else if a<e then -1 else if e<a then 1 else 0
abbrev n6(a b c d e x:Int):AV:=.agg [vi .u64 a,vi .u64 b,vi .u64 c,vi .u64 d,vi .u64 e,vi .u64 x]
abbrev k5(a b c d e:Int):AV:=.agg [vi .u64 a,vi .u64 b,vi .u64 c,vi .u64 d,vi .u64 e]
theorem X6l(a b c d e x a' b' c' d' e':Int):Fn Tryz.prog 61 [n6 a b c d e x,k5 a' b' c' d' e'] [] (vi .i64 (if cmpI a a'=0 then cmpW b c d e b' c' d' e' else cmpI a a')) []:=by
 (refine Q0n Tryz.func61 rfl (by rfl) ?_;simp only[Tryz.ntmps61,List.length_cons,List.length_nil,Nat.reduceAdd,Nat.reduceSub,List.replicate,List.cons_append,List.nil_append])
 (repeat(any_goals(first|((with_reducible refine Q0c ?_ ?_);rfl;intro K hK;simp only[go_sem];((repeat(refine ndI (by first|assumption) ?_));refine hK _ ?_;clear hK K))|(with_reducible first|(refine Q0d ?_;refine hR _ ?_;clear hR R)|((first|refine Q0e ?_);intro Ψ hΨ hΨ')|(refine Q0a ?_;intro R hR)|(refine hΨ _ ?_;clear hΨ hΨ' Ψ)|refine Q0h ?_)|((with_reducible refine Q0v ?_ ?_);kernel_rfl;(with_reducible refine hR _ ?_);clear hR R)|((first|((with_reducible apply Q1c);rfl;rfl;(first|((first|(apply Q0r (Q8z _ _);rfl;rfl;rfl;rfl;exact Tryz.func88)|(apply Q0r (wcmp_fn _ _ _ _ _ _ _ _);rfl;rfl;rfl;rfl;exact Tryz.func34));kernel_rfl;rfl;(focus((simp only[go_sem]);(try rfl);done));(first|rfl))|((apply X4q (cmpor_fn _ _);rfl;rfl;rfl;rfl;exact Tryz.func87);kernel_rfl;rfl;(focus((simp only[AV.viewL,AV.view,Q4b,unC,Option.map_some,go_sem]);(try rfl)));rfl;(simp only[AV.rowsL,AV.rows,go_sem];rfl))))|((with_reducible apply Q0w);rfl;rfl;(simp only[rdE,rdOf,go_sem];rfl);(intro τ hA hQ hN;((try simp only[Q1a,Op.operands,Call.operands,go_sem,List.mem_cons,List.not_mem_nil,forall_eq_or_imp,forall_eq,List.append_toArray,Option.toArray] at hA);(try simp only[go_sem,List.mem_cons,List.not_mem_nil,forall_eq_or_imp,forall_eq] at hQ hN);(first|(revert hA;intro hA));(first|(revert hQ;intro hQ));(first|(revert hN;intro hN));simp only[go_sem,hA,hQ,hN];(repeat(refine ndI (by first|assumption) ?_));(first|apply Q0z))))|((first|((with_reducible apply Q4g);rfl;rfl;rfl));(intro τ hA hQ hN;((try simp only[Q1a,Op.operands,Call.operands,go_sem,List.mem_cons,List.not_mem_nil,forall_eq_or_imp,forall_eq,List.append_toArray,Option.toArray] at hA);(try simp only[go_sem,List.mem_cons,List.not_mem_nil,forall_eq_or_imp,forall_eq] at hQ);(first|(revert hA;intro hA));(first|(revert hQ;intro hQ));simp only[go_sem,hA,hQ,hN];(repeat(refine ndI (by first|assumption) ?_));exact Q5y _ _ _ _))));(simp only[St.eff,setO,Q0t,go_sem]))|((with_reducible refine Q0q ?_ ?_ ?_ ?_);kernel_rfl;kernel_rfl;(first|kernel_rfl);intro R hR))))
 all_goals(refine⟨by simp,⟨_,?_,AV.le_refl _⟩,Q0g (by simp[leH,hget])⟩;simp only[Tryz.results61,resL,ldA,Q0o,go_sem])
 all_goals simp_all [cmpW]
end Go.Proofs.YtbmcdemnnbndeaaGreatDoor.nz
namespace Go.Proofs.YtbmcdemnnbndeaaGreatDoor.nz
open Go.RowKit
open Nat (reduceBEq)
set_option maxRecDepth 20000
set_option maxHeartbeats 1000000
structure N6 where
 a:Int
 b:Int
 c:Int
 d:Int
 e:Int
 x:Int
def N6.pv(n:N6):List PV:=[.v (.int .u64 n.a),.v (.int .u64 n.b),.v (.int .u64 n.c),.v (.int .u64 n.d),.v (.int .u64 n.e),.v (.int .u64 n.x)]
theorem pv_len(n:N6):n.pv.length=6:=rfl
abbrev nsl(ex:Bool)(l:List N6):AV:=.c (.sl ex 6 l.length (l.flatMap N6.pv))
theorem nsl_at{l:List N6}{i:Nat}{y:N6}(h:l[i]? = some y):((l.flatMap N6.pv).drop (i*6)).take 6=[.v (.int .u64 y.a),.v (.int .u64 y.b),.v (.int .u64 y.c),.v (.int .u64 y.d),.v (.int .u64 y.e),.v (.int .u64 y.x)]:=Q5t pv_len h
def cN(z y:N6):Int:=if cmpI z.a y.a=0 then cmpW z.b z.c z.d z.e y.b y.c y.d y.e else cmpI z.a y.a
def okS(l:List N6)(i:Nat):Bool:=match l[i]? with
 |some y=>(y.a != 0)&&(y.e==0)&&decide (y.x>0)&&(i==0||match l[i-1]? with|some z=>decide (cN z y<0)|none=>false)
 |none=>false
def okTo(l:List N6):Nat→Bool
 |0=>decide ((l.length:Int)≤48)
 |i+1=>okTo l i&&okS l i
theorem check_fn(ex:Bool)(l:List N6)(hl:l.length≤4611686018427387904):Fn Tryz.prog 23 [nsl ex l] [] (vi .i64 (if okTo l l.length then 0 else 180)) []:=by
 (refine Q0n Tryz.func23 rfl (by rfl) ?_;simp only[Tryz.ntmps23,List.length_cons,List.length_nil,Nat.reduceAdd,Nat.reduceSub,List.replicate,List.cons_append,List.nil_append])
 (repeat(any_goals(first|((with_reducible refine Q0c ?_ ?_);rfl;intro K hK;simp only[go_sem];((repeat(refine ndI (by first|assumption) ?_));refine hK _ ?_;clear hK K))|(with_reducible first|(refine Q0d ?_;refine hR _ ?_;clear hR R)|((first|refine Q0e ?_|refine Q0l ?_);intro Ψ hΨ hΨ')|(refine Q0a ?_;intro R hR)|(refine hΨ _ ?_;clear hΨ hΨ' Ψ)))))
 refine Q3n l.length (fun i=>⟨[nsl ex l,.any,.any,vb (okTo l i),.any,.any,.any,.any,.any,.any,nsl ex l,vi .i64 l.length,vi .i64 i,.any,.any,.any,.any,.any,.any,.any,.any,.any,.any,.any,.any,.any,.any,.any,.any,.any,.any,.any,.any,.any,.any,.any,.any,.any,.any,.any,.any,.any,.any,.any,.any,.any,.any,.any,.any],[]⟩) (St.le_of (by simp[leT,okTo]) (by simp[leH])) ?_
 intro i hi Ψ hΨ hΨ'
 rcases Nat.lt_or_ge i l.length with hlt|hge
 · obtain⟨y,hy⟩:∃y,l[i]? = some y:=⟨l[i],List.getElem?_eq_getElem hlt⟩
   have e1:(decide ((i:Int)<(l.length:Int)))=true:=by simpa using hlt
   have e2:=nsl_at hy
   dsimp only at hΨ ⊢
   rw[show okTo l (i+1)=(okTo l i&&okS l i) from rfl] at hΨ
   generalize okTo l i=b at hΨ ⊢
   rcases i with _|j
   · simp only[Nat.zero_mul,List.drop_zero] at e2
     rw[show okS l 0=((y.a != 0)&&(y.e==0)&&decide (y.x>0)) by simp[okS,hy]] at hΨ
     (repeat(any_goals(first|((with_reducible refine Q0c ?_ ?_);rfl;intro K hK;simp(disch:=omega) only[go_sem,e1,e2];((repeat(refine ndI (by first|assumption|omega|rfl) ?_));refine hK _ ?_;clear hK K))|(with_reducible first|(refine Q0d ?_;refine hR _ ?_;clear hR R)|((first|refine Q0e ?_|refine Q0l ?_);intro Ψ hΨ hΨ')|(refine Q0a ?_;intro R hR)|(refine hΨ _ ?_;clear hΨ hΨ' Ψ)|refine Q0j ?_)|((with_reducible refine hΨ' _ _ ?_ ?_);(focus(simp;done));clear hΨ hΨ' Ψ)|((with_reducible apply Q0f);rfl;rfl;all_goals(intro hc;first|(cases hc;done)|(try simp only at hc)))|((with_reducible refine Q0v ?_ ?_);kernel_rfl;(with_reducible refine hR _ ?_);clear hR R)|((first|((with_reducible apply Q2y);rfl;rfl;rfl;rfl)|((with_reducible apply Q3l);rfl;rfl;rfl)|((first|((with_reducible apply Q4v);rfl;rfl;rfl;rfl;rfl));((apply Q0r (Q9s _ _ _ _ _);rfl;rfl;rfl;rfl;exact Tryz.func60);kernel_rfl;rfl;(focus((simp(disch:=omega) only[go_sem,e1,e2]);(try rfl);done));(first|rfl)))|((first|((with_reducible apply Q0w);rfl;rfl)|((with_reducible apply Q1u);rfl;rfl;rfl;rfl;rfl));(simp(disch:=omega) only[rdE,rdOf,go_sem,e1,e2];rfl);(intro τ hA hQ hN;((try simp only[Q1a,Op.operands,Call.operands,go_sem,e1,e2,go_sem,List.mem_cons,List.not_mem_nil,forall_eq_or_imp,forall_eq,List.append_toArray,Option.toArray] at hA);(try simp only[go_sem,e1,e2,List.mem_cons,List.not_mem_nil,forall_eq_or_imp,forall_eq] at hQ hN);(first|(revert hA;intro hA));(first|(revert hQ;intro hQ));(first|(revert hN;intro hN));simp(disch:=omega) only[go_sem,e1,e2,go_sem,hA,hQ,hN];(repeat(refine ndI (by first|assumption|rfl) ?_));(first|apply Q0z)))));(simp(disch:=omega) only[St.eff,setO,Q0t,go_sem,e1,e2]))|((with_reducible apply X1d);rfl;rfl;rfl;all_goals intro hb;all_goals(simp(disch:=omega) only[St.eff,setO,Q0t,go_sem,e1,e2]))|((with_reducible refine Q0q ?_ ?_ ?_ ?_);kernel_rfl;kernel_rfl;(first|kernel_rfl);intro R hR))))
     all_goals refine hΨ _ (by omega) (St.le_of ?_ (by simp[leH]))
     all_goals simp only[leT,Q6k]
     all_goals simp_all [wrI]
   · obtain⟨z,hz⟩:∃z,l[j]? = some z:=⟨l[j],List.getElem?_eq_getElem (by omega)⟩
     have e3:=nsl_at hz
     have e4:(((j+1:Nat):Int)==0)=false:=by simp;omega
     have e5:IntKind.i64.wrap (((j+1:Nat):Int)-1)=(j:Int):=by rw[wrI (by omega) (by omega)];omega
     have e7:IntKind.i64.wrap (((j+1:Nat):Int)+1)=((j+1+1:Nat):Int):=by rw[wrI (by omega) (by omega)];omega
     rw[show okS l (j+1)=((y.a != 0)&&(y.e==0)&&decide (y.x>0)&&decide (cN z y<0)) by simp[okS,hy,hz]] at hΨ
     (have W:=ndI e1 (ndI e2 (ndI e3 (ndI e4 (ndI e5 e7))));(repeat(any_goals(first|((with_reducible refine Q0c ?_ ?_);rfl;intro K hK;simp(disch:=omega) only[go_sem,W];((repeat(refine ndI (by first|assumption|omega|rfl) ?_));refine hK _ ?_;clear hK K))|(with_reducible first|(refine Q0d ?_;refine hR _ ?_;clear hR R)|((first|refine Q0e ?_|refine Q0l ?_);intro Ψ hΨ hΨ')|(refine Q0a ?_;intro R hR)|(refine hΨ _ ?_;clear hΨ hΨ' Ψ)|refine Q0j ?_)|((with_reducible refine hΨ' _ _ ?_ ?_);(focus(simp;done));clear hΨ hΨ' Ψ)|((with_reducible apply Q0f);rfl;rfl;all_goals(intro hc;first|(cases hc;done)|(try simp only at hc)))|((with_reducible refine Q0v ?_ ?_);kernel_rfl;(with_reducible refine hR _ ?_);clear hR R)|((first|((with_reducible apply Q2y);rfl;rfl;rfl;rfl)|((with_reducible apply Q3l);rfl;rfl;rfl)|((first|((with_reducible apply Q4v);rfl;rfl;rfl;rfl;rfl));((first|(apply Q0r (Q9s _ _ _ _ _);rfl;rfl;rfl;rfl;exact Tryz.func60)|(apply Q0r (X6l _ _ _ _ _ _ _ _ _ _ _);rfl;rfl;rfl;rfl;exact Tryz.func61));kernel_rfl;rfl;(focus((simp(disch:=omega) only[go_sem,W]);(try rfl);done));(first|rfl)))|((first|((with_reducible apply Q0w);rfl;rfl)|((with_reducible apply Q1u);rfl;rfl;rfl;rfl;rfl));(simp(disch:=omega) only[rdE,rdOf,go_sem,W];rfl);(intro τ hA hQ hN;((try simp only[Q1a,Op.operands,Call.operands,go_sem,W,go_sem,List.mem_cons,List.not_mem_nil,forall_eq_or_imp,forall_eq,List.append_toArray,Option.toArray] at hA);(try simp only[go_sem,W,List.mem_cons,List.not_mem_nil,forall_eq_or_imp,forall_eq] at hQ hN);(first|(revert hA;intro hA));(first|(revert hQ;intro hQ));(first|(revert hN;intro hN));simp(disch:=omega) only[go_sem,W,go_sem,hA,hQ,hN];(repeat(refine ndI (by first|assumption|omega|rfl) ?_));(first|apply Q0z)))));(simp(disch:=omega) only[St.eff,setO,Q0t,go_sem,W]))|((with_reducible apply X1d);rfl;rfl;rfl;all_goals intro hb;all_goals(simp(disch:=omega) only[St.eff,setO,Q0t,go_sem,W]))|((with_reducible refine Q0q ?_ ?_ ?_ ?_);kernel_rfl;kernel_rfl;(first|kernel_rfl);intro R hR)))))
     all_goals refine hΨ _ (by omega) (St.le_of ?_ (by simp[leH]))
     all_goals simp only[leT,Q6k]
     all_goals simp_all [cN]
     all_goals(intro h;omega)
 · have e1:(decide ((i:Int)<(l.length:Int)))=false:=by simpa using hge
   obtain rfl:i=l.length:=by omega
   (repeat(any_goals(first|((with_reducible refine Q0c ?_ ?_);rfl;intro K hK;simp only[go_sem,e1];((repeat(refine ndI (by first|assumption) ?_));refine hK _ ?_;clear hK K))|(with_reducible first|(refine Q0d ?_;refine hR _ ?_;clear hR R)|((first|refine Q0e ?_);intro Ψ hΨ hΨ')|(refine Q0a ?_;intro R hR)|(refine hΨ _ ?_;clear hΨ hΨ' Ψ)|refine Q0j ?_|refine Q0h ?_|refine Q1f ?_)|((with_reducible refine hΨ' _ _ ?_ ?_);(focus(simp;done));clear hΨ hΨ' Ψ)|((with_reducible apply Q0f);rfl;rfl;all_goals(intro hc;first|(cases hc;done)|(try simp only at hc))))))
   all_goals(refine⟨by simp,⟨_,?_,AV.le_refl _⟩,Q0g (by simp[leH,hget])⟩;simp only[Tryz.results23,resL,ldA,Q0o,go_sem])
   all_goals simp_all
end Go.Proofs.YtbmcdemnnbndeaaGreatDoor.nz
namespace Go.Proofs.YtbmcdemnnbndeaaGreatDoor.nz
open Go.RowKit
set_option maxRecDepth 20000
set_option maxHeartbeats 1000000
def bsr(lt:Nat→Bool):Nat→Nat→Nat→Nat
 |0,i,_=>i
 |f+1,i,j=>if i<j then(if lt ((i+j)/2) then bsr lt f ((i+j)/2+1) j else bsr lt f i ((i+j)/2)) else i
theorem Q3i(lt:Nat→Bool):∀(f g i j:Nat),j-i≤f→j-i≤g→bsr lt f i j=bsr lt g i j
 |0,0,_,_,_,_=>rfl
 |0,g+1,i,j,h,_=>by unfold bsr;rw[if_neg (by omega)]
 |f+1,0,i,j,_,h=>by
  conv=>lhs;unfold bsr
  rw[if_neg (by omega)];rfl
 |f+1,g+1,i,j,h1,h2=>by
  unfold bsr
  by_cases h:i<j
  · rw[if_pos h,if_pos h,Q3i lt f g _ j (by omega) (by omega),Q3i lt f g i _ (by omega) (by omega)]
  · rw[if_neg h,if_neg h]
theorem bsr_up{lt:Nat→Bool}{i j r:Nat}(h:i<j)(hl:lt ((i+j)/2)=true)(hr:bsr lt (j-i) i j=r):bsr lt (j-((i+j)/2+1)) ((i+j)/2+1) j=r:=by
 rw[Q3i lt (j-i) (j-i-1+1) i j (by omega) (by omega)] at hr
 unfold bsr at hr
 rw[if_pos h,if_pos hl] at hr
 rw[←hr];exact Q3i lt _ _ _ _ (by omega) (by omega)
theorem bsr_dn{lt:Nat→Bool}{i j r:Nat}(h:i<j)(hl:lt ((i+j)/2)=false)(hr:bsr lt (j-i) i j=r):bsr lt ((i+j)/2-i) i ((i+j)/2)=r:=by
 rw[Q3i lt (j-i) (j-i-1+1) i j (by omega) (by omega)] at hr
 unfold bsr at hr
 rw[if_pos h,hl] at hr
 rw[←hr];exact Q3i lt _ _ _ _ (by omega) (by omega)
theorem Q8n(lt:Nat→Bool):∀(f i j:Nat),i≤j→bsr lt f i j≤j
 |0,i,j,h=>h
 |f+1,i,j,h=>by
  unfold bsr
  split
  · split
    · exact Q8n lt f _ j (by omega)
    · exact Nat.le_trans (Q8n lt f i _ (by omega)) (by omega)
  · exact h
theorem half{i j:Nat}:((i:Int)+(j:Int)).fdiv (2 ^ (min 1 64))=(((i+j)/2:Nat):Int):=by
 show((i:Int)+(j:Int)).fdiv 2=_
 rw[Int.fdiv_eq_ediv_of_nonneg _ (by omega)];omega
end Go.Proofs.YtbmcdemnnbndeaaGreatDoor.nz
namespace Go.Proofs.YtbmcdemnnbndeaaGreatDoor.nz
open Go.RowKit
set_option maxRecDepth 20000
set_option maxHeartbeats 1000000
abbrev c4(a b c d:Int):List AV:=[vi .u64 a,vi .u64 b,vi .u64 c,vi .u64 d]
end Go.Proofs.YtbmcdemnnbndeaaGreatDoor.nz
namespace Go.Proofs.YtbmcdemnnbndeaaGreatDoor.nz
open Go.RowKit
set_option maxRecDepth 20000
set_option maxHeartbeats 1000000
abbrev nilS:AV:=.c (.v (.slice none 0 0))
end Go.Proofs.YtbmcdemnnbndeaaGreatDoor.nz
namespace Go.Proofs.YtbmcdemnnbndeaaGreatDoor.nz
open Go.RowKit
set_option maxRecDepth 20000
set_option maxHeartbeats 1000000
def N6.ok(n:N6):Prop:=U n.a∧U n.b∧U n.c∧U n.d∧U n.e∧U n.x
end Go.Proofs.YtbmcdemnnbndeaaGreatDoor.nz
namespace Go.Proofs.YtbmcdemnnbndeaaGreatDoor
open Go.RowKit
open Nat (reduceBEq)
set_option maxRecDepth 20000
set_option maxHeartbeats 2000000
structure Wl where
 S:List Ac
 L:List lg.Hd
 N:List nz.N6
abbrev acV(l:List Ac):PV:=.sl false 8 l.length (l.flatMap Ac.pv)
abbrev hdV(l:List lg.Hd):PV:=.sl false 11 l.length (l.flatMap lg.Hd.pv)
abbrev noV(l:List nz.N6):PV:=.sl false 6 l.length (l.flatMap nz.N6.pv)
def Wl.pv(w:Wl):List PV:=[acV w.S,hdV w.L,noV w.N]
abbrev wlA(w:Wl):AV:=.agg [.c (acV w.S),.c (hdV w.L),.c (noV w.N)]
structure Wl.ok (w:Wl):Prop where
 s:w.S.length≤60∧∀x∈w.S,x.ok∧x.code.length≤300∧x.store.length≤40
 l:w.L.length≤60∧∀h∈w.L,h.ok
 n:w.N.length≤70∧∀x∈w.N,x.ok
def Q1b(w:Wl):Bool:=okSt w.S&&lg.okL w.L&&nz.okTo w.N w.N.length
theorem X1k(w:Wl)(hw:w.ok):Fn Tryz.prog 6 [wlA w] [] (vi .i64 (if Q1b w then 0 else 200)) []:=by
 obtain⟨S,L,N⟩:=w
 obtain⟨⟨hs,os⟩,⟨hl,ol⟩,⟨hn,on'⟩⟩:=hw
 dsimp only at hs os hl ol hn on'
 have h6:(600:Nat)≤maxLen:=by decide
 have f1:=Q6u false S (by omega) fun x hx=>⟨(os x hx).1,by have:=(os x hx).2;omega⟩
 have f2:=lg.check_fn false L (Nat.le_trans hl (by decide)) ol
 have f3:=nz.check_fn false N (Nat.le_trans hn (by decide))
 unfold Q1b
 dsimp only
 cases e1:okSt S<;>cases e2:lg.okL L<;>cases e3:nz.okTo N N.length<;>simp only[e1,e2,e3,if_true,if_false,Bool.false_eq_true] at f1 f2 f3 ⊢
 all_goals(refine Q0n Tryz.func6 rfl (by rfl) ?_;simp only[Tryz.ntmps6,List.length_cons,List.length_nil,Nat.reduceAdd,Nat.reduceSub,List.replicate,List.cons_append,List.nil_append])
 all_goals(repeat(any_goals(first|((with_reducible refine Q0i ?_ ?_ ?_);rfl;rfl;intro K hK;((apply Q0b (f1);rfl;rfl;rfl;rfl;exact Tryz.func21);kernel_rfl;rfl;(focus((simp only[go_sem]);(try rfl);done));(first|rfl));(simp only[go_sem];refine hK _ ?_;clear hK K))|((with_reducible refine Q0c ?_ ?_);rfl;intro K hK;simp only[go_sem];((repeat(refine ndI (by first|assumption) ?_));refine hK _ ?_;clear hK K))|(with_reducible first|(refine Q0d ?_;refine hR _ ?_;clear hR R)|((first|refine Q0e ?_);intro Ψ hΨ hΨ')|(refine Q0a ?_;intro R hR)|(refine hΨ _ ?_;clear hΨ hΨ' Ψ)|refine Q0j ?_|refine Q0h ?_)|((with_reducible refine hΨ' _ _ ?_ ?_);(focus(simp;done));clear hΨ hΨ' Ψ)|((with_reducible apply Q0s);rfl;rfl;rfl;all_goals(intro hb;first|(cases hb;done)|((try simp only[Bool.not_true,Bool.not_false] at hb);(first|((with_reducible intro K hK);(first|((first|(apply Q0b (f2);rfl;rfl;rfl;rfl;exact Tryz.func22)|(apply Q0b (f3);rfl;rfl;rfl;rfl;exact Tryz.func23));kernel_rfl;rfl;(focus((simp only[go_sem]);(try rfl);done));(first|rfl))|skip);simp only[go_sem];((repeat(refine ndI (by first|assumption) ?_));refine hK _ ?_;clear hK K))|((fail_if_success (with_reducible intro _));simp only[go_sem])))))|((with_reducible apply Q0f);rfl;rfl;all_goals(intro hc;first|(cases hc;done)|(try simp only at hc))))))
 all_goals(refine⟨by simp,⟨_,?_,AV.le_refl _⟩,Q0g (by simp[leH,hget])⟩;simp only[Tryz.results6,resL,ldA,Q0o,go_sem])
 all_goals rfl
end Go.Proofs.YtbmcdemnnbndeaaGreatDoor
namespace Go.Proofs.YtbmcdemnnbndeaaGreatDoor
open Go.RowKit
def bsr(lt:Nat→Bool):Nat→Nat→Nat→Nat
 |0,i,_=>i
 |f+1,i,j=>if i<j then(if lt ((i+j)/2) then bsr lt f ((i+j)/2+1) j else bsr lt f i ((i+j)/2)) else i
theorem Q3i(lt:Nat→Bool):∀(f g i j:Nat),j-i≤f→j-i≤g→bsr lt f i j=bsr lt g i j
 |0,0,_,_,_,_=>rfl
 |0,g+1,i,j,h,_=>by unfold bsr;rw[if_neg (by omega)]
 |f+1,0,i,j,_,h=>by
  conv=>lhs;unfold bsr
  rw[if_neg (by omega)];rfl
 |f+1,g+1,i,j,h1,h2=>by
  unfold bsr
  by_cases h:i<j
  · rw[if_pos h,if_pos h,Q3i lt f g _ j (by omega) (by omega),Q3i lt f g i _ (by omega) (by omega)]
  · rw[if_neg h,if_neg h]
theorem bsr_up{lt:Nat→Bool}{i j r:Nat}(h:i<j)(hl:lt ((i+j)/2)=true)(hr:bsr lt (j-i) i j=r):bsr lt (j-((i+j)/2+1)) ((i+j)/2+1) j=r:=by
 rw[Q3i lt (j-i) (j-i-1+1) i j (by omega) (by omega)] at hr
 unfold bsr at hr
 rw[if_pos h,if_pos hl] at hr
 rw[←hr];exact Q3i lt _ _ _ _ (by omega) (by omega)
theorem bsr_dn{lt:Nat→Bool}{i j r:Nat}(h:i<j)(hl:lt ((i+j)/2)=false)(hr:bsr lt (j-i) i j=r):bsr lt ((i+j)/2-i) i ((i+j)/2)=r:=by
 rw[Q3i lt (j-i) (j-i-1+1) i j (by omega) (by omega)] at hr
 unfold bsr at hr
 rw[if_pos h,hl] at hr
 rw[←hr];exact Q3i lt _ _ _ _ (by omega) (by omega)
theorem Q8n(lt:Nat→Bool):∀(f i j:Nat),i≤j→bsr lt f i j≤j
 |0,i,j,h=>h
 |f+1,i,j,h=>by
  unfold bsr
  split
  · split
    · exact Q8n lt f _ j (by omega)
    · exact Nat.le_trans (Q8n lt f i _ (by omega)) (by omega)
  · exact h
theorem X8a:IntKind.u64.bits=64:=rfl
theorem half{i j:Nat}:((i:Int)+(j:Int)).fdiv (2 ^ (min 1 64))=(((i+j)/2:Nat):Int):=by
 show((i:Int)+(j:Int)).fdiv 2=_
 rw[Int.fdiv_eq_ediv_of_nonneg _ (by omega)];omega
theorem X3w{lt:Nat→Bool}{n:Nat}(mono:∀i j,i≤j→j<n→lt j=true→lt i=true):∀(f i j:Nat),j-i≤f→i≤j→j≤n→(∀k,k<i→lt k=true)→(∀k,j≤k→k<n→lt k=false)→(∀k,k<bsr lt f i j→lt k=true)∧∀k,bsr lt f i j≤k→k<n→lt k=false
 |0,i,j,h0,hij,hjn,h1,h2=>by
  obtain rfl:i=j:=by omega
  exact⟨h1,h2⟩
 |f+1,i,j,h0,hij,hjn,h1,h2=>by
  unfold bsr
  by_cases h:i<j
  · rw[if_pos h]
    cases hm:lt ((i+j)/2) with
    |true=>
     simp only[if_true]
     exact X3w mono f _ j (by omega) (by omega) hjn (fun k hk=>mono k ((i+j)/2) (by omega) (by omega) hm) h2
    |false=>
     simp only[Bool.false_eq_true,if_false]
     refine X3w mono f i _ (by omega) (by omega) (by omega) h1 fun k hk hkn=>?_
     cases hk2:lt k with
     |false=>rfl
     |true=>rw[mono _ k hk hkn hk2] at hm;cases hm
  · rw[if_neg h]
    obtain rfl:i=j:=by omega
    exact⟨h1,h2⟩
section
variable {α : Type} (key:α→Int)
def Q6v(L:List α):Prop:=L.Pairwise fun x y=>key x<key y
def fnd(k:Int):List α→Option α
 |[]=>none
 |y::L=>if key y=k then some y else fnd k L
def lay(k:Int)(o:Option α):List α→List α
 |[]=>o.toList
 |y::L=>if key y<k then y::lay k o L else if key y=k then o.toList++L else o.toList++y::L
variable {key}
theorem Q5s{k:Int}:∀{L:List α} {x:α},fnd key k L=some x→key x=k∧x∈L
 |y::L,x,h=>by
  unfold fnd at h
  split at h
  · rename_i e;cases h;exact⟨e,by simp⟩
  · have:=Q5s h;exact⟨this.1,by simp[this.2]⟩
theorem Q6z{k:Int}:∀{L:List α},(∀x∈L,key x≠k)→fnd key k L=none
 |[],_=>rfl
 |y::L,h=>by
  unfold fnd
  rw[if_neg (h y (by simp))]
  exact Q6z fun x hx=>h x (by simp[hx])
theorem fnd_mem{L:List α}(hr:Q6v key L){x:α}(hx:x∈L):fnd key (key x) L=some x:=by
 induction L with
 |nil=>cases hx
 |cons y L ih=>
  obtain⟨l1,l2⟩:=List.pairwise_cons.1 hr
  unfold fnd
  rcases List.mem_cons.1 hx with rfl|hx
  · rw[if_pos rfl]
  · rw[if_neg (by have:=l1 x hx;omega)];exact ih l2 hx
theorem mem_iff{L:List α}(hr:Q6v key L){x:α}:x∈L↔fnd key (key x) L=some x:=⟨fnd_mem hr,fun h=>(Q5s h).2⟩
theorem X7h:∀{L M:List α},Q6v key L→Q6v key M→(∀x,x∈L↔x∈M)→L=M
 |[],[],_,_,_=>rfl
 |[],y::M,_,_,h=>by have:=(h y).2 (by simp);cases this
 |x::L,[],_,_,h=>by have:=(h x).1 (by simp);cases this
 |x::L,y::M,hL,hM,h=>by
  obtain⟨l1,l2⟩:=List.pairwise_cons.1 hL
  obtain⟨m1,m2⟩:=List.pairwise_cons.1 hM
  have hxy:x=y:=by
   rcases List.mem_cons.1 ((h x).1 (by simp)) with e|e
   · exact e
   · rcases List.mem_cons.1 ((h y).2 (by simp)) with e'|e'
     · exact e'.symm
     · have:=m1 x e;have:=l1 y e';omega
  subst hxy
  rw[X7h l2 m2 fun z=>?_]
  constructor
  · intro hz
    rcases List.mem_cons.1 ((h z).1 (by simp[hz])) with e|e
    · have:=l1 z hz;rw[e] at this;omega
    · exact e
  · intro hz
    rcases List.mem_cons.1 ((h z).2 (by simp[hz])) with e|e
    · have:=m1 z hz;rw[e] at this;omega
    · exact e
theorem fnd_ext{L M:List α}(hL:Q6v key L)(hM:Q6v key M)(h:∀k,fnd key k L=fnd key k M):L=M:=
 X7h hL hM fun x=>by rw[mem_iff hL,mem_iff hM,h]
theorem X6o{k:Int}{o:Option α}:∀{L:List α} {x:α},x∈lay key k o L→x∈o∨x∈L
 |[],x,h=>by
  left
  unfold lay at h
  simpa using h
 |y::L,x,h=>by
  unfold lay at h
  split at h
  · rcases List.mem_cons.1 h with rfl|h
    · right;simp
    · rcases X6o h with h|h
      · exact .inl h
      · right;simp[h]
  · split at h<;>rw[List.mem_append] at h<;>rcases h with h|h
    · left;simpa using h
    · right;simp[h]
    · left;simpa using h
    · exact .inr h
theorem X4i{k:Int}{o:Option α}(ho:∀x∈o,key x=k):∀{L:List α},Q6v key L→Q6v key (lay key k o L)
 |[],_=>by
  unfold lay Q6v
  cases o<;>simp
 |y::L,h=>by
  obtain⟨l1,l2⟩:=List.pairwise_cons.1 h
  unfold lay
  split
  · rename_i hy
    refine List.pairwise_cons.2 ⟨fun z hz=>?_,X4i ho l2⟩
    rcases X6o hz with hz|hz
    · rw[ho z hz];exact hy
    · exact l1 z hz
  · rename_i h1
    split
    · rename_i h2
      cases o with
      |none=>exact l2
      |some x=>
       refine List.pairwise_cons.2 ⟨fun z hz=>?_,l2⟩
       have:=l1 z hz;rw[ho x rfl];omega
    · rename_i h2
      cases o with
      |none=>exact h
      |some x=>
       refine List.pairwise_cons.2 ⟨fun z hz=>?_,h⟩
       rw[ho x rfl]
       rcases List.mem_cons.1 hz with rfl|hz
       · omega
       · have:=l1 z hz;omega
theorem X6t{k:Int}{o:Option α}(ho:∀x∈o,key x=k)(j:Int):∀{L:List α},Q6v key L→fnd key j (lay key k o L)=if j=k then o else fnd key j L
 |[],_=>by
  unfold lay
  cases o with
  |none=>split<;>rfl
  |some x=>
   have:=ho x rfl
   simp only[Option.toList,fnd,this]
   by_cases h:j=k
   · subst h;simp
   · rw[if_neg h,if_neg (by omega)]
 |y::L,h=>by
  obtain⟨l1,l2⟩:=List.pairwise_cons.1 h
  unfold lay
  split
  · rename_i hy
    have ih:=X6t ho j l2
    simp only[fnd]
    rw[ih]
    by_cases hj:j=k
    · rw[if_pos hj,if_neg (by omega),if_pos hj]
    · rw[if_neg hj,if_neg hj]
  · rename_i h1
    split
    · rename_i h2
      cases o with
      |none=>
       simp only[Option.toList,List.nil_append]
       by_cases hj:j=k
       · rw[if_pos hj];exact Q6z fun x hx=>by have:=l1 x hx;omega
       · rw[if_neg hj,fnd,if_neg (by omega)]
      |some x=>
       have:=ho x rfl
       simp only[Option.toList,List.cons_append,List.nil_append,fnd,this]
       by_cases hj:j=k
       · rw[if_pos hj,if_pos hj.symm]
       · rw[if_neg (by omega),if_neg hj,if_neg (by omega)]
    · rename_i h2
      cases o with
      |none=>
       simp only[Option.toList,List.nil_append]
       by_cases hj:j=k
       · rw[if_pos hj,fnd,if_neg (by omega)];exact Q6z fun x hx=>by have:=l1 x hx;omega
       · rw[if_neg hj]
      |some x=>
       have:=ho x rfl
       simp only[Option.toList,List.cons_append,List.nil_append]
       rw[fnd,this]
       by_cases hj:j=k
       · rw[if_pos hj,if_pos hj.symm]
       · rw[if_neg (by omega),if_neg hj]
theorem X5y{k:Int}{o:Option α}(f:α→Nat):∀{L:List α},Q6v key L→((lay key k o L).map f).sum+((fnd key k L).map f).getD 0=(L.map f).sum+(o.map f).getD 0
 |[],_=>by
  unfold lay fnd
  cases o<;>simp
 |y::L,h=>by
  obtain⟨l1,l2⟩:=List.pairwise_cons.1 h
  unfold lay fnd
  by_cases h1:key y<k
  · rw[if_pos h1,if_neg (by omega)]
    have:=X5y f l2 (k:=k) (o:=o)
    simp only[List.map_cons,List.sum_cons]
    omega
  · rw[if_neg h1]
    by_cases h2:key y=k
    · rw[if_pos h2,if_pos h2]
      cases o<;>simp<;>omega
    · rw[if_neg h2,if_neg h2,Q6z fun x hx=>by have:=l1 x hx;omega]
      cases o<;>simp<;>omega
theorem X1i(p:α→Bool):∀L:List α,(L.filter p).length=(L.map fun x=>if p x then 1 else 0).sum
 |[]=>rfl
 |y::L=>by
  have:=X1i p L
  by_cases h:p y=true
  · simp[List.filter_cons,h,this];omega
  · simp[List.filter_cons,h,this]
structure Parts (key:α→Int) (L:List α) (k:Int) (p:Nat):Prop where
 le:p≤L.length
 lo:∀(i:Nat) (h:i<L.length),i<p→key L[i]<k
 hi:∀(i:Nat) (h:i<L.length),p≤i→k≤key L[i]
theorem Parts.tail{y:α}{L:List α}{k:Int}{p:Nat}(h:Parts key (y::L) k (p+1)):Parts key L k p:=
 ⟨by have:=h.le;simpa using this,fun i hi hp=>by have:=h.lo (i+1) (by simpa using hi) (by omega);simpa using this,fun i hi hp=>by have:=h.hi (i+1) (by simpa using hi) (by omega);simpa using this⟩
theorem Q5d{k:Int}:∀{L:List α} {p:Nat},Q6v key L→Parts key L k p→fnd key k L=(L[p]?).filter fun x=>decide (key x=k)
 |[],p,_,_=>by simp[fnd,Option.filter]
 |y::L,0,hr,h=>by
  obtain⟨l1,l2⟩:=List.pairwise_cons.1 hr
  have:=h.hi 0 (by simp) (Nat.le_refl _)
  simp only[List.getElem_cons_zero] at this
  unfold fnd
  simp only[List.getElem?_cons_zero,Option.filter_some,decide_eq_true_eq]
  by_cases e:key y=k
  · rw[if_pos e,if_pos e]
  · rw[if_neg e,if_neg e];exact Q6z fun x hx=>by have:=l1 x hx;omega
 |y::L,p+1,hr,h=>by
  obtain⟨l1,l2⟩:=List.pairwise_cons.1 hr
  have:=h.lo 0 (by simp) (by omega)
  simp only[List.getElem_cons_zero] at this
  unfold fnd
  rw[if_neg (by omega),Q5d l2 h.tail,List.getElem?_cons_succ]
theorem X0n{k:Int}{o:Option α}:∀{L:List α} {p:Nat},Q6v key L→Parts key L k p→lay key k o L=L.take p++o.toList++L.drop (if (fnd key k L).isSome then p+1 else p)
 |[],p,_,h=>by
  have:=h.le
  simp at this
  subst this
  simp[lay,fnd]
 |y::L,0,hr,h=>by
  obtain⟨l1,l2⟩:=List.pairwise_cons.1 hr
  have:=h.hi 0 (by simp) (Nat.le_refl _)
  simp only[List.getElem_cons_zero] at this
  unfold lay fnd
  rw[if_neg (by omega)]
  by_cases e:key y=k
  · rw[if_pos e,if_pos e];simp
  · rw[if_neg e,if_neg e,Q6z fun x hx=>by have:=l1 x hx;omega];simp
 |y::L,p+1,hr,h=>by
  obtain⟨l1,l2⟩:=List.pairwise_cons.1 hr
  have:=h.lo 0 (by simp) (by omega)
  simp only[List.getElem_cons_zero] at this
  unfold lay fnd
  rw[if_pos this,if_neg (show ¬key y=k by omega),X0n l2 h.tail]
  cases (fnd key k L).isSome<;>rfl
theorem X1l{L:List α}{k:Int}{lt:Nat→Bool}(hr:Q6v key L)(hlt:∀(i:Nat) (h:i<L.length),lt i=decide (key L[i]<k)):Parts key L k (bsr lt L.length 0 L.length):=by
 have hp:=List.pairwise_iff_getElem.1 hr
 have sp:=X3w (lt:=lt) (n:=L.length) (fun j i hjk hk h=>by
  rw[hlt i hk,decide_eq_true_eq] at h
  rw[hlt j (by omega),decide_eq_true_eq]
  rcases Nat.lt_or_ge j i with h'|h'
  · have:=hp j i (by omega) hk h';omega
  · obtain rfl:j=i:=by omega
    exact h) L.length 0 L.length (by omega) (Nat.zero_le _) (Nat.le_refl _) (fun k hk=>by omega) (fun k h1 h2=>by omega)
 refine⟨Q8n _ _ _ _ (Nat.zero_le _),fun i h hi=>?_,fun i h hi=>?_⟩
 · have:=sp.1 i hi;rwa [hlt i h,decide_eq_true_eq] at this
 · have:=sp.2 i hi h;rw[hlt i h,decide_eq_false_iff_not] at this;omega
end
end Go.Proofs.YtbmcdemnnbndeaaGreatDoor
namespace Go.Proofs.YtbmcdemnnbndeaaGreatDoor
open Go.RowKit
open Nat (reduceBEq)
set_option maxRecDepth 20000
set_option maxHeartbeats 2000000
theorem X3m(a:Int):Fn Tryz.prog 104 [vi .u64 a] [] (vb false) []:=by
 (refine Q0n Tryz.func104 rfl (by rfl) ?_;simp only[Tryz.ntmps104,List.length_cons,List.length_nil,Nat.reduceAdd,Nat.reduceSub,List.replicate,List.cons_append,List.nil_append])
 (repeat(any_goals(first|((with_reducible refine Q0c ?_ ?_);rfl;intro K hK;simp only[go_sem];((repeat(refine ndI (by first|assumption) ?_));refine hK _ ?_;clear hK K))|(with_reducible first|(refine Q0d ?_;refine hR _ ?_;clear hR R)|((first|refine Q0e ?_);intro Ψ hΨ hΨ')|(refine Q0a ?_;intro R hR)|(refine hΨ _ ?_;clear hΨ hΨ' Ψ)|refine Q0h ?_))))
 all_goals(refine⟨by simp,⟨_,?_,AV.le_refl _⟩,Q0g (by simp[leH,hget])⟩;simp only[Tryz.results104,resL,ldA,Q0o,go_sem])
 all_goals simp
def cmpI(a b:Int):Int:=if a<b then -1 else if b<a then 1 else 0
theorem Q8z(a b:Int):Fn Tryz.prog 88 [vi .u64 a,vi .u64 b] [] (vi .i64 (cmpI a b)) []:=by
 (refine Q0n Tryz.func88 rfl (by rfl) ?_;simp only[Tryz.ntmps88,List.length_cons,List.length_nil,Nat.reduceAdd,Nat.reduceSub,List.replicate,List.cons_append,List.nil_append])
 (repeat(any_goals(first|((with_reducible refine Q0i ?_ ?_ ?_);rfl;rfl;intro K hK;((apply Q0b (X3m _);rfl;rfl;rfl;rfl;exact Tryz.func104);kernel_rfl;rfl;(focus((simp only[go_sem]);(try rfl);done));(first|rfl));(simp only[go_sem];refine hK _ ?_;clear hK K))|((with_reducible refine Q0c ?_ ?_);rfl;intro K hK;simp only[go_sem];((repeat(refine ndI (by first|assumption) ?_));refine hK _ ?_;clear hK K))|(with_reducible first|(refine Q0d ?_;refine hR _ ?_;clear hR R)|((first|refine Q0e ?_);intro Ψ hΨ hΨ')|(refine Q0a ?_;intro R hR)|(refine hΨ _ ?_;clear hΨ hΨ' Ψ)|refine Q0j ?_|refine Q0h ?_)|((with_reducible refine hΨ' _ _ ?_ ?_);(focus(simp;done));clear hΨ hΨ' Ψ)|((with_reducible apply Q0f);rfl;rfl;all_goals(intro hc;first|(cases hc;done)|(try simp only at hc))))))
 all_goals(refine⟨by simp,⟨_,?_,AV.le_refl _⟩,Q0g (by simp[leH,hget])⟩;simp only[Tryz.results88,resL,ldA,Q0o,go_sem])
 all_goals simp_all [cmpI]
 all_goals omega
def cmpK(x y:Nat):Int:=if x<y then -1 else if y<x then 1 else 0
def ltA(L:List Ac)(a:Int)(h:Nat):Bool:=match L[h]? with|some z=>decide (cmpI z.a a<0)|none=>false
def eqA(L:List Ac)(a:Int)(h:Nat):Bool:=match L[h]? with|some z=>cmpI z.a a==0|none=>false
def ltP(l:List Pr)(k:Nat)(h:Nat):Bool:=match l[h]? with|some z=>decide (cmpK z.k k<0)|none=>false
def eqP(l:List Pr)(k:Nat)(h:Nat):Bool:=match l[h]? with|some z=>cmpK z.k k==0|none=>false
theorem Q7p(x:Ac)(a:Int):Fn Tryz.prog 91 [acA x,vi .u64 a] [] (vi .i64 (cmpI x.a a)) []:=by
 (refine Q0n Tryz.func91 rfl (by rfl) ?_;simp only[Tryz.ntmps91,List.length_cons,List.length_nil,Nat.reduceAdd,Nat.reduceSub,List.replicate,List.cons_append,List.nil_append])
 (repeat(any_goals(first|((with_reducible refine Q0i ?_ ?_ ?_);rfl;rfl;intro K hK;((apply Q0b (Q8z _ _);rfl;rfl;rfl;rfl;exact Tryz.func88);kernel_rfl;rfl;(focus((simp only[go_sem]);(try rfl);done));(first|rfl));(simp only[go_sem];refine hK _ ?_;clear hK K))|((with_reducible refine Q0c ?_ ?_);rfl;intro K hK;simp only[go_sem];((repeat(refine ndI (by first|assumption) ?_));refine hK _ ?_;clear hK K))|(with_reducible first|(refine Q0d ?_;refine hR _ ?_;clear hR R)|((first|refine Q0e ?_);intro Ψ hΨ hΨ')|(refine Q0a ?_;intro R hR)|(refine hΨ _ ?_;clear hΨ hΨ' Ψ)|refine Q0h ?_))))
 all_goals(refine⟨by simp,⟨_,?_,AV.le_refl _⟩,Q0g (by simp[leH,hget])⟩;simp only[Tryz.results91,resL,ldA,Q0o,go_sem])
theorem bsfA_fn(ex:Bool)(l:List Ac)(hl:l.length≤4611686018427387903)(a:Int):Fn Tryz.prog 90 [acS ex l,vi .u64 a,.fn 91 []] []
 (.tup [vi .i64 (bsr (ltA l a) l.length 0 l.length:Nat),vb (eqA l a (bsr (ltA l a) l.length 0 l.length))]) []:=by
 (refine Q0n Tryz.func90 rfl (by rfl) ?_;simp only[Tryz.ntmps90,List.length_cons,List.length_nil,Nat.reduceAdd,Nat.reduceSub,List.replicate,List.cons_append,List.nil_append])
 (repeat(any_goals(first|((with_reducible refine Q0c ?_ ?_);rfl;intro K hK;simp only[go_sem];((repeat(refine ndI (by first|assumption) ?_));refine hK _ ?_;clear hK K))|(with_reducible first|(refine Q0d ?_;refine hR _ ?_;clear hR R)|((first|refine Q0e ?_|refine Q0l ?_);intro Ψ hΨ hΨ')|(refine Q0a ?_;intro R hR)|(refine hΨ _ ?_;clear hΨ hΨ' Ψ)))))
 generalize hr:bsr (ltA l a) l.length 0 l.length=r
 have hrl:r≤l.length:=by rw[←hr];exact Q8n _ _ _ _ (Nat.zero_le _)
 refine Q5v (α:={p:Nat×Nat // p.1≤p.2∧p.2≤l.length∧bsr (ltA l a) (p.2-p.1) p.1 p.2=r}) (fun p=>⟨[acS ex l,vi .u64 a,.fn 91 [],.any,.any,.any,.any,.any,vi .i64 l.length,vi .i64 p.1.1,vi .i64 p.1.2,.any,.any,.any,.any,.any,.any,.any,.any,.any,.any,.any,.any,.any,.any,.any,.any,.any,.any,.any,.any,.any,.any,.any,.any,.any,.any,.any,.any,.any,.any,.any,.any,.any,.any,.any,.any,.any,.any],[]⟩) (fun p=>p.1.2-p.1.1) ⟨(0,l.length),by simp,by simp,hr⟩ (St.le_of (by simp[leT]) (by simp[leH,hget])) ?_
 rintro ⟨⟨i,j⟩,h1,h2,h3⟩ Ψ hΨ hΨ'
 dsimp only at h1 h2 h3 hΨ ⊢
 rcases Nat.lt_or_ge i j with hlt|hge
 · have e1:(decide ((i:Int)<(j:Int)))=true:=by simpa using hlt
   obtain⟨y,hy⟩:∃y,l[(i+j)/2]? = some y:=⟨l[(i+j)/2],List.getElem?_eq_getElem (by omega)⟩
   have e2:=X5v hy
   have e8:ltA l a ((i+j)/2)=decide (cmpI y.a a<0):=by simp[ltA,ltP,hy]
   (have W:=ndI e1 (ndI e2 (ndI @wrI (ndI @wrU (ndI @half X8a))));(repeat(any_goals(first|((with_reducible refine Q0i ?_ ?_ ?_);rfl;rfl;intro K hK;((apply Q0b (Q7p y a);rfl;rfl;rfl;rfl;exact Tryz.func91);kernel_rfl;rfl;(focus((simp(disch:=omega) only[go_sem,W,Int.reduceToNat]);(try rfl);done));(first|rfl));(simp(disch:=omega) only[go_sem,W,Int.reduceToNat];refine hK _ ?_;clear hK K))|((with_reducible refine Q0c ?_ ?_);rfl;intro K hK;simp(disch:=omega) only[go_sem,W,Int.reduceToNat];((repeat(refine ndI (by first|assumption|omega|rfl) ?_));refine hK _ ?_;clear hK K))|(with_reducible first|(refine Q0d ?_;refine hR _ ?_;clear hR R)|((first|refine Q0e ?_|refine Q0l ?_);intro Ψ hΨ hΨ')|(refine Q0a ?_;intro R hR)|(refine hΨ _ ?_;clear hΨ hΨ' Ψ)|refine Q0j ?_)|((with_reducible refine hΨ' _ _ ?_ ?_);(focus(simp;done));clear hΨ hΨ' Ψ)|((with_reducible apply Q0f);rfl;rfl;all_goals(intro hc;first|(cases hc;done)|(try simp only at hc)))))))
   · exact hΨ _ ⟨((i+j)/2+1,j),by simp only;omega,h2,bsr_up hlt (by rw[e8];exact hc) h3⟩ (by simp only;omega) (St.le_of (by simp[leT]) (by simp[leH,hget]))
   · exact hΨ _ ⟨(i,(i+j)/2),by simp only;omega,by simp only;omega,bsr_dn hlt (by rw[e8];exact hc) h3⟩ (by simp only;omega) (St.le_of (by simp[leT]) (by simp[leH,hget]))
 · have e1:(decide ((i:Int)<(j:Int)))=false:=by simpa using hge
   obtain rfl:i=j:=by omega
   rw[Nat.sub_self] at h3
   obtain rfl:i=r:=h3
   rcases Nat.lt_or_ge i l.length with hlt|hge
   · have e3:(decide ((i:Int)<(l.length:Int)))=true:=by simpa using hlt
     obtain⟨y,hy⟩:∃y,l[i]? = some y:=⟨l[i],List.getElem?_eq_getElem hlt⟩
     have e2:=X5v hy
     (have W:=ndI e1 (ndI e2 e3);(repeat(any_goals(first|((with_reducible refine Q0c ?_ ?_);rfl;intro K hK;simp(disch:=omega) only[go_sem,W];((repeat(refine ndI (by first|assumption|rfl) ?_));refine hK _ ?_;clear hK K))|(with_reducible first|(refine Q0d ?_;refine hR _ ?_;clear hR R)|((first|refine Q0e ?_);intro Ψ hΨ hΨ')|(refine Q0a ?_;intro R hR)|(refine hΨ _ ?_;clear hΨ hΨ' Ψ)|refine Q0h ?_|refine Q1f ?_)|((with_reducible refine hΨ' _ _ ?_ ?_);(focus(simp;done));clear hΨ hΨ' Ψ)|((with_reducible apply Q0s);rfl;rfl;rfl;all_goals(intro hb;first|(cases hb;done)|((try simp only[Bool.not_true,Bool.not_false] at hb);(first|((with_reducible intro K hK);(first|((apply Q0b (Q7p y a);rfl;rfl;rfl;rfl;exact Tryz.func91);kernel_rfl;rfl;(focus((simp(disch:=omega) only[go_sem,W]);(try rfl);done));(first|rfl))|skip);simp(disch:=omega) only[go_sem,W];((repeat(refine ndI (by first|assumption|omega|rfl) ?_));refine hK _ ?_;clear hK K))))))|((with_reducible apply Q0f);rfl;rfl;all_goals(intro hc;first|(cases hc;done)|(try simp only at hc)))))))
     all_goals(refine⟨by simp,⟨_,?_,AV.le_refl _⟩,Q0g (by simp[leH,hget])⟩;simp only[Tryz.results90,resL,ldA,Q0o,go_sem])
     all_goals simp[eqA,eqP,hr,hy]
   · have e3:(decide ((i:Int)<(l.length:Int)))=false:=by simpa using hge
     have e4:l[i]? = none:=List.getElem?_eq_none hge
     (repeat(any_goals(first|((with_reducible refine Q0c ?_ ?_);rfl;intro K hK;simp(disch:=omega) only[go_sem,e1,e3];((repeat(refine ndI (by first|assumption|rfl) ?_));refine hK _ ?_;clear hK K))|(with_reducible first|(refine Q0d ?_;refine hR _ ?_;clear hR R)|((first|refine Q0e ?_);intro Ψ hΨ hΨ')|(refine Q0a ?_;intro R hR)|(refine hΨ _ ?_;clear hΨ hΨ' Ψ)|refine Q0h ?_|refine Q1f ?_)|((with_reducible refine hΨ' _ _ ?_ ?_);(focus(simp;done));clear hΨ hΨ' Ψ)|((with_reducible apply Q0s);rfl;rfl;rfl;all_goals(intro hb;first|(cases hb;done)|((try simp only[Bool.not_true,Bool.not_false] at hb);(first|((fail_if_success (with_reducible intro _));simp(disch:=omega) only[go_sem,e1,e3])))))|((with_reducible apply Q0f);rfl;rfl;all_goals(intro hc;first|(cases hc;done)|(try simp only at hc))))))
     all_goals(refine⟨by simp,⟨_,?_,AV.le_refl _⟩,Q0g (by simp[leH,hget])⟩;simp only[Tryz.results90,resL,ldA,Q0o,go_sem])
     all_goals simp[eqA,eqP,hr,e4]
theorem Q7o(ex:Bool)(L:List Ac)(hl:L.length≤900)(a:Int):Fn Tryz.prog 67 [stA ex L,vi .u64 a] [] (.tup [vi .i64 (bsr (ltA L a) L.length 0 L.length:Nat),vb (eqA L a (bsr (ltA L a) L.length 0 L.length))]) []:=by
 (refine Q0n Tryz.func67 rfl (by rfl) ?_;simp only[Tryz.ntmps67,List.length_cons,List.length_nil,Nat.reduceAdd,Nat.reduceSub,List.replicate,List.cons_append,List.nil_append])
 (repeat(any_goals(first|((with_reducible refine Q0i ?_ ?_ ?_);rfl;rfl;intro K hK;((apply Q0b (bsfA_fn ex L (by omega) a);rfl;rfl;rfl;rfl;exact Tryz.func90);kernel_rfl;rfl;(focus((simp only[go_sem]);(try rfl);done));(first|rfl));(simp only[go_sem];refine hK _ ?_;clear hK K))|((with_reducible refine Q0c ?_ ?_);rfl;intro K hK;simp only[go_sem];((repeat(refine ndI (by first|assumption) ?_));refine hK _ ?_;clear hK K))|(with_reducible first|(refine Q0d ?_;refine hR _ ?_;clear hR R)|((first|refine Q0e ?_);intro Ψ hΨ hΨ')|(refine Q0a ?_;intro R hR)|(refine hΨ _ ?_;clear hΨ hΨ' Ψ)|refine Q0h ?_))))
 all_goals(refine⟨by simp,⟨_,?_,AV.le_refl _⟩,Q0g (by simp[leH,hget])⟩;simp only[Tryz.results67,resL,ldA,Q0o,go_sem])
end Go.Proofs.YtbmcdemnnbndeaaGreatDoor
namespace Go.Proofs.YtbmcdemnnbndeaaGreatDoor
open Go.RowKit
open Nat (reduceBEq)
set_option maxRecDepth 20000
set_option maxHeartbeats 2000000
def rcB(l:List Nat):List AV:=(l.flatMap bpv).map .c
theorem rcB_len(l:List Nat):(rcB l).length=l.length:=by unfold rcB;rw[List.length_map,Q0u Q3f,Nat.mul_one]
def rcP(l:List Pr):List AV:=(l.flatMap Pr.pv).map .c
theorem rcP_len(l:List Pr):(rcP l).length=l.length*8:=by unfold rcP;rw[List.length_map,Q0u Q9d]
theorem X5t(ex:Bool)(l:List Nat)(hl:l.length≤1000000):Fn Tryz.prog 17 [.c (.sl ex 1 l.length (l.flatMap bpv))] [] (.row 7 5 1 l.length) [(7,rcB l)]:=by
 have e1:=rcB_len l
 unfold rcB at e1 ⊢
 (refine Q0n Tryz.func17 rfl (by rfl) ?_;simp only[Tryz.ntmps17,List.length_cons,List.length_nil,Nat.reduceAdd,Nat.reduceSub,List.replicate,List.cons_append,List.nil_append])
 (repeat(any_goals(first|((have hz0:=hb0 hc);(with_reducible refine Q4u ?_ ?_);rfl;intro K hK;refine OpA.nilrow_after 2 7 5 1 (Q3d ?_);(simp(disch:=omega) only[go_sem,e1,Q0m,Nat.mul_one]);(repeat(refine And.intro (by first|assumption|rfl) ?_));refine hK _ ?_;clear hK K;clear hb0)|((with_reducible refine Q0c ?_ ?_);rfl;intro K hK;simp(disch:=omega) only[go_sem,e1,Q0m,Nat.mul_one];((repeat(refine ndI (by first|assumption|omega|rfl) ?_));refine hK _ ?_;clear hK K))|((with_reducible refine Q0c ?_ ?_);rfl;intro K hK;refine Q6p rfl rfl (by first|exact .inl rfl) ?_ rfl ?_;(focus(simp(disch:=omega) only[go_sem];try rfl));(intro b hb0;simp(disch:=omega) only[eq_self,go_sem,e1,Q0m,Nat.mul_one];(with_reducible refine hK _ ?_);clear hK K))|(with_reducible first|(refine Q0d ?_;refine hR _ ?_;clear hR R)|((first|refine Q0e ?_);intro Ψ hΨ hΨ')|(refine Q0a ?_;intro R hR)|(refine hΨ _ ?_;clear hΨ hΨ' Ψ)|refine Q0j ?_|refine Q0h ?_)|((with_reducible refine hΨ' _ _ ?_ ?_);(focus(simp;done));clear hΨ hΨ' Ψ)|((with_reducible apply Q0f);rfl;rfl;all_goals(intro hc;first|(try simp only at hc))))))
 all_goals(try(obtain rfl:=List.eq_nil_of_length_eq_zero hz0))
 all_goals exact⟨by simp,⟨_,rfl,AV.le_refl _⟩,Q0g (by simp[leH,hget])⟩
theorem X5s(ex:Bool)(l:List Pr)(hl:l.length≤1000000):Fn Tryz.prog 18 [.c (.sl ex 8 l.length (l.flatMap Pr.pv))] [] (.row 7 67 8 l.length) [(7,rcP l)]:=by
 have e1:=rcP_len l
 unfold rcP at e1 ⊢
 (refine Q0n Tryz.func18 rfl (by rfl) ?_;simp only[Tryz.ntmps18,List.length_cons,List.length_nil,Nat.reduceAdd,Nat.reduceSub,List.replicate,List.cons_append,List.nil_append])
 (repeat(any_goals(first|((have hz0:=hb0 hc);(with_reducible refine Q4u ?_ ?_);rfl;intro K hK;refine OpA.nilrow_after 2 7 67 8 (Q3d ?_);(simp(disch:=omega) only[go_sem,e1,Q0m]);(repeat(refine And.intro (by first|assumption|rfl) ?_));refine hK _ ?_;clear hK K;clear hb0)|((with_reducible refine Q0c ?_ ?_);rfl;intro K hK;simp(disch:=omega) only[go_sem,e1,Q0m];((repeat(refine ndI (by first|assumption|omega|rfl) ?_));refine hK _ ?_;clear hK K))|((with_reducible refine Q0c ?_ ?_);rfl;intro K hK;refine Q6p rfl rfl (by first|exact .inl rfl) ?_ rfl ?_;(focus(simp(disch:=omega) only[go_sem];try rfl));(intro b hb0;simp(disch:=omega) only[eq_self,go_sem,e1,Q0m];(with_reducible refine hK _ ?_);clear hK K))|(with_reducible first|(refine Q0d ?_;refine hR _ ?_;clear hR R)|((first|refine Q0e ?_);intro Ψ hΨ hΨ')|(refine Q0a ?_;intro R hR)|(refine hΨ _ ?_;clear hΨ hΨ' Ψ)|refine Q0j ?_|refine Q0h ?_)|((with_reducible refine hΨ' _ _ ?_ ?_);(focus(simp;done));clear hΨ hΨ' Ψ)|((with_reducible apply Q0f);rfl;rfl;all_goals(intro hc;first|(try simp only at hc))))))
 all_goals(try(obtain rfl:=List.eq_nil_of_length_eq_zero hz0))
 all_goals exact⟨by simp,⟨_,rfl,AV.le_refl _⟩,Q0g (by simp[leH,hget])⟩
theorem X1j(ex:Bool)(l:List Ac)(hl:l.length≤1000000):Fn Tryz.prog 16 [acS ex l] [] (.row 7 62 8 l.length) [(7,rcS l)]:=by
 have e1:=Q6j l
 unfold rcS at e1 ⊢
 (refine Q0n Tryz.func16 rfl (by rfl) ?_;simp only[Tryz.ntmps16,List.length_cons,List.length_nil,Nat.reduceAdd,Nat.reduceSub,List.replicate,List.cons_append,List.nil_append])
 (repeat(any_goals(first|((have hz0:=hb0 hc);(with_reducible refine Q4u ?_ ?_);rfl;intro K hK;refine OpA.nilrow_after 2 7 62 8 (Q3d ?_);(simp(disch:=omega) only[go_sem,e1,Q0m]);(repeat(refine And.intro (by first|assumption|rfl) ?_));refine hK _ ?_;clear hK K;clear hb0)|((with_reducible refine Q0c ?_ ?_);rfl;intro K hK;simp(disch:=omega) only[go_sem,e1,Q0m];((repeat(refine ndI (by first|assumption|omega|rfl) ?_));refine hK _ ?_;clear hK K))|((with_reducible refine Q0c ?_ ?_);rfl;intro K hK;refine Q6p rfl rfl (by first|exact .inl rfl) ?_ rfl ?_;(focus(simp(disch:=omega) only[go_sem];try rfl));(intro b hb0;simp(disch:=omega) only[eq_self,go_sem,e1,Q0m];(with_reducible refine hK _ ?_);clear hK K))|(with_reducible first|(refine Q0d ?_;refine hR _ ?_;clear hR R)|((first|refine Q0e ?_);intro Ψ hΨ hΨ')|(refine Q0a ?_;intro R hR)|(refine hΨ _ ?_;clear hΨ hΨ' Ψ)|refine Q0j ?_|refine Q0h ?_)|((with_reducible refine hΨ' _ _ ?_ ?_);(focus(simp;done));clear hΨ hΨ' Ψ)|((with_reducible apply Q0f);rfl;rfl;all_goals(intro hc;first|(try simp only at hc))))))
 all_goals(try(obtain rfl:=List.eq_nil_of_length_eq_zero hz0))
 all_goals exact⟨by simp,⟨_,rfl,AV.le_refl _⟩,Q0g (by simp[leH,hget])⟩
theorem X2l(x:Ac)(hc:x.code.length≤1000000)(hs:x.store.length≤1000000):Fn Tryz.prog 68 [acA x] [] (.agg [vi .u64 x.a,vi .u64 (l0 x.b),vi .u64 (l1 x.b),vi .u64 (l2 x.b),vi .u64 (l3 x.b),vi .u64 x.n,.row 5 5 1 x.code.length,.row 8 67 8 x.store.length]) [(5,rcB x.code),(8,rcP x.store)]:=by
 have c1:=X5t false x.code hc
 have c2:=X5s false x.store hs
 obtain⟨a,b,n,code,store⟩:=x
 dsimp only at hc hs c1 c2 ⊢
 have r1:∀d,AV.refsL d ((code.flatMap bpv).map AV.c)=false:=fun d=>Q0m d _
 have r2:∀d,AV.refsL d ((store.flatMap Pr.pv).map AV.c)=false:=fun d=>Q0m d _
 have e1:((code.flatMap bpv).map AV.c).length=code.length:=by rw[List.length_map,Q0u Q3f,Nat.mul_one]
 have e2:((store.flatMap Pr.pv).map AV.c).length=store.length*8:=by rw[List.length_map,Q0u Q9d]
 unfold rcB at c1 ⊢
 unfold rcP at c2 ⊢
 (refine Q0n Tryz.func68 rfl (by rfl) ?_;simp only[Tryz.ntmps68,List.length_cons,List.length_nil,Nat.reduceAdd,Nat.reduceSub,List.replicate,List.cons_append,List.nil_append])
 (repeat(any_goals(first|((with_reducible refine Q0c ?_ ?_);rfl;intro K hK;simp only[go_sem];((repeat(refine ndI (by first|assumption) ?_));refine hK _ ?_;clear hK K))|(with_reducible first|(refine Q0d ?_;refine hR _ ?_;clear hR R)|((first|refine Q0e ?_);intro Ψ hΨ hΨ')|(refine Q0a ?_;intro R hR)|(refine hΨ _ ?_;clear hΨ hΨ' Ψ)))))
 refine X6v 10 (by decide) (by kernel_rfl) (by kernel_rfl) (by kernel_rfl) (by kernel_rfl) (by simp[Q1n,Q5f,St.free,Q2i,AV.refsL,AV.refs]) ?_
 intro R hR
 simp only[List.take_succ_cons,List.take_zero,List.drop_succ_cons,List.drop_zero] at hR ⊢
 (repeat(any_goals(first|(((with_reducible apply Q0w);rfl;rfl;(simp only[rdE,rdOf,go_sem];rfl);(intro τ hA hQ hN;((try simp only[Q1a,Op.operands,Call.operands,go_sem,List.mem_cons,List.not_mem_nil,forall_eq_or_imp,forall_eq,List.append_toArray,Option.toArray] at hA);(try simp only[go_sem,List.mem_cons,List.not_mem_nil,forall_eq_or_imp,forall_eq] at hQ hN);(first|(revert hA;intro hA));(first|(revert hQ;intro hQ));(first|(revert hN;intro hN));simp only[go_sem,hA,hQ,hN];(repeat(refine ndI (by first|assumption) ?_));(first|apply Q0z))));(simp only[St.eff,setO,Q0t,go_sem])))))
 refine Q9k c1 rfl rfl rfl rfl rfl Tryz.func17 (by kernel_rfl) rfl ?_ rfl (by omega) ?_
 · simp only[Q1e,Q1y,AV.ren,go_sem]
 simp only[St.eff,setO,Q0t,go_sem]
 (repeat(any_goals(first|(((with_reducible apply Q0w);rfl;rfl;(simp only[rdE,rdOf,go_sem,r1,r2];rfl);(intro τ hA hQ hN;((try simp only[Q1a,Op.operands,Call.operands,go_sem,r1,r2,go_sem,List.mem_cons,List.not_mem_nil,forall_eq_or_imp,forall_eq,List.append_toArray,Option.toArray] at hA);(try simp only[go_sem,r1,r2,List.mem_cons,List.not_mem_nil,forall_eq_or_imp,forall_eq] at hQ hN);(first|(revert hA;intro hA));(first|(revert hQ;intro hQ));(first|(revert hN;intro hN));simp only[go_sem,r1,r2,go_sem,hA,hQ,hN];(repeat(refine ndI (by first|assumption) ?_));(first|apply Q0z))));(simp only[St.eff,setO,Q0t,go_sem,r1,r2])))))
 refine Q9k c2 rfl rfl rfl rfl rfl Tryz.func18 (by kernel_rfl) rfl ?_ rfl (by omega) ?_
 · simp only[Q1e,Q1y,AV.ren,go_sem]
 simp only[St.eff,setO,Q0t,go_sem]
 (have W:=ndI r1 (ndI r2 (ndI e1 e2));(repeat(any_goals(first|((with_reducible refine Q0v ?_ ?_);(apply Q5i);(focus(repeat(first|exact Sims.nil|((apply Sims.cons);(focus(first|((apply Ef.sim_row);assumption)|exact Ef.sim_refl _))))));kernel_rfl;(with_reducible refine hR _ ?_);clear hR R)|(((with_reducible apply Q0w);rfl;rfl;(simp only[rdE,rdOf,go_sem,W];rfl);(intro τ hA hQ hN;((try simp only[Q1a,Op.operands,Call.operands,go_sem,W,go_sem,List.mem_cons,List.not_mem_nil,forall_eq_or_imp,forall_eq,List.append_toArray,Option.toArray] at hA);(try simp only[go_sem,W,List.mem_cons,List.not_mem_nil,forall_eq_or_imp,forall_eq] at hQ hN);(first|(revert hA;intro hA));(first|(revert hQ;intro hQ));(first|(revert hN;intro hN));simp only[go_sem,W,go_sem,hA,hQ,hN];(repeat(refine ndI (by first|assumption) ?_));(first|apply Q0z|apply Q2g))));(simp only[St.eff,setO,Q0t,go_sem,W]))))))
 refine Q0d ?_
 (repeat(any_goals(first|((with_reducible refine Q0c ?_ ?_);rfl;intro K hK;simp only[go_sem,r1,r2];((repeat(refine ndI (by first|assumption) ?_));refine hK _ ?_;clear hK K))|(with_reducible first|(refine Q0d ?_;refine hR _ ?_;clear hR R)|((first|refine Q0e ?_);intro Ψ hΨ hΨ')|(refine Q0a ?_;intro R hR)|(refine hΨ _ ?_;clear hΨ hΨ' Ψ)|refine Q0h ?_))))
 all_goals(refine⟨by simp,⟨_,?_,AV.le_refl _⟩,Q0g (by simp[leH,hget])⟩;simp only[Tryz.results68,resL,ldA,Q0o,go_sem])
theorem X5p(x:Ac)(hc:x.code.length≤1000000)(hs:x.store.length≤1000000):Fn Tryz.prog 68 [acA x] [] (acA x) []:=by
 have k:=X2l x hc hs
 have k1:=k.frzN (d:=5) (pcs:=x.code.flatMap bpv) rfl
 have k2:=k1.frzN (d:=8) (pcs:=x.store.flatMap Pr.pv) (by simp[frzH,Q1g,rcP,rcB])
 have e1:(x.code.flatMap bpv).length=x.code.length*1:=Q0u Q3f _
 have e2:(x.store.flatMap Pr.pv).length=x.store.length*8:=Q0u Q9d _
 simpa [-List.length_flatMap,e1,e2,ac8,AV.frz,AV.frzL,frzH,acA,vi,bsV,psV] using k2
abbrev raS(l:List Ac):List AV:=(l.flatMap Ac.pv).map .c
theorem Q3p(l:List Ac):(raS l).length=l.length*8:=by rw[List.length_map,Q0u Q6a]
theorem X6q(l:List Ac)(x:Ac)(hl:l.length≤1000000):Fn Tryz.prog 70 [.row 1000 62 8 l.length,vi .i64 l.length,.row 1001 62 8 1] [(1000,raS l),(1001,raS [x])] (.row 25 62 8 (l.length+1)) [(25,raS l++raS [x])]:=by
 have e1:=Q3p l
 have e2:(raS [x]).length=8:=rfl
 have e3:(l.length+1)*96≤140737488355328:=by omega
 (refine Q0n Tryz.func70 rfl (by rfl) ?_;simp only[Tryz.ntmps70,List.length_cons,List.length_nil,Nat.reduceAdd,Nat.reduceSub,List.replicate,List.cons_append,List.nil_append])
 (have W:=ndI e1 (ndI e2 @Q0m);(repeat(any_goals(first|((with_reducible refine Q0c ?_ ?_);rfl;intro K hK;simp(disch:=omega) only[go_sem,W];((repeat(refine ndI (by first|assumption|rfl) ?_));refine hK _ ?_;clear hK K))|((with_reducible refine Q0c ?_ ?_);rfl;intro K hK;(try simp(disch:=omega) only[go_sem,W]);(repeat(refine ndI (by first|assumption|rfl) ?_));refine Q7u rfl rfl rfl rfl rfl ?_ rfl rfl rfl rfl ?_ ?_ ?_;(focus(simp only[go_sem];try rfl));(intro h;first|cases h);(first|omega);(intro q hq1 hq2;(simp(disch:=omega) only[go_sem,W];refine hK _ ?_;clear hK K)))|(with_reducible first|(refine Q0d ?_;refine hR _ ?_;clear hR R)|((first|refine Q0e ?_);intro Ψ hΨ hΨ')|(refine Q0a ?_;intro R hR)|(refine hΨ _ ?_;clear hΨ hΨ' Ψ)|refine Q0j ?_|refine Q0h ?_)|((with_reducible refine hΨ' _ _ ?_ ?_);(focus(simp;done));clear hΨ hΨ' Ψ)|((with_reducible apply Q0f);rfl;rfl;all_goals(intro hc;first|(cases hc;done)|(try simp only at hc)))))))
 all_goals(refine⟨by simp,⟨_,?_,AV.le_refl _⟩,Q0g (by simp[leH,hget])⟩;simp only[Tryz.results70,resL,ldA,Q0o,go_sem])
theorem raS_app(l:List Ac)(x:Ac)(i:Nat):(raS l).take (i*8)++raS [x]++(raS l).drop (i*8)=raS (l.take i)++raS [x]++raS (l.drop i):=by
 simp only[raS,←List.map_take,←List.map_drop,Q2u Q6a,Q3v Q6a]
theorem X5c(l:List Ac)(x:Ac)(i c:Nat)(hi:i<l.length)(hc0:l.length≤c)(hc1:c<l.length+1)(hl:l.length≤1000000):Fn Tryz.prog 70 [.cut 1000 62 8 0 l.length c true,vi .i64 i,.row 1001 62 8 1] [(1000,raS l),(1001,raS [x])] (.row 40 62 8 (l.length+1)) [(40,raS (l.take i)++raS [x]++raS (l.drop i))]:=by
 have e1:=Q3p l
 have e2:(raS [x]).length=8:=rfl
 have e3:(decide ((i:Int)=(l.length:Int)))=false:=by simp;omega
 have e4:((i:Int)==(l.length:Int))=false:=by simp;omega
 have e5:(decide ((l.length:Int)+1>(c:Int)))=true:=by simp;omega
 have e6:(l.length:Int)+1-(i:Int)=((l.length+1-i:Nat):Int):=by omega
 have e7:(i:Int)+1=((i+1:Nat):Int):=by omega
 (refine Q0n Tryz.func70 rfl (by rfl) ?_;simp only[Tryz.ntmps70,List.length_cons,List.length_nil,Nat.reduceAdd,Nat.reduceSub,List.replicate,List.cons_append,List.nil_append])
 (have W:=ndI e1 (ndI e2 (ndI e3 (ndI e4 (ndI e5 (ndI e6 (ndI e7 @wrI))))));(repeat(any_goals(first|((with_reducible refine Q0c ?_ ?_);rfl;intro K hK;simp(disch:=omega) only[go_sem,W,Int.natCast_one];((repeat(refine ndI (by first|assumption|rfl) ?_));refine hK _ ?_;clear hK K))|((with_reducible refine Q0c ?_ ?_);rfl;intro K hK;(try simp(disch:=omega) only[go_sem,W,Int.natCast_one]);(repeat(refine ndI (by first|assumption|rfl) ?_));refine Q2s rfl rfl rfl rfl rfl ?_ rfl rfl rfl rfl ?_ ?_ ?_;(focus(simp only[go_sem];try rfl));(intro h;first|rfl|cases h);(first|omega);(simp(disch:=omega) only[go_sem,W,Int.natCast_one];refine hK _ ?_;clear hK K))|((with_reducible refine Q0c ?_ ?_);rfl;intro K hK;(try simp(disch:=omega) only[go_sem,W,Int.natCast_one]);(repeat(refine ndI (by first|assumption) ?_));refine Q5o rfl rfl ?_ rfl ?_;(focus(simp(disch:=omega) only[go_sem];try rfl));(simp(disch:=omega) only[go_sem,W,Int.natCast_one];refine hK _ ?_;clear hK K))|((with_reducible refine Q0c ?_ ?_);rfl;intro K hK;(try simp(disch:=omega) only[go_sem,W,Int.natCast_one]);(repeat(refine ndI (by first|assumption) ?_));apply Q7x;rfl;rfl;rfl;(focus(simp only[go_sem];try rfl));(first|omega);rfl;rfl;rfl;rfl;(first|(simp(disch:=omega) only[go_sem,W,Int.natCast_one,spl,List.length_append,List.length_map,List.length_take,List.length_drop,List.length_replicate];omega));(first|(simp(disch:=omega) only[go_sem,W,Int.natCast_one,spl,List.length_append,List.length_map,List.length_take,List.length_drop,List.length_replicate];omega));(simp(disch:=omega) only[go_sem,W,Int.natCast_one];refine hK _ ?_;clear hK K))|((with_reducible refine Q0c ?_ ?_);rfl;intro K hK;(try simp(disch:=omega) only[go_sem,W,Int.natCast_one]);(repeat(refine ndI (by first|assumption) ?_));apply Q5x;rfl;rfl;rfl;(focus(simp only[go_sem];try rfl));(focus(simp(disch:=omega) only[go_sem];try rfl));(first|omega);(first|omega);rfl;rfl;rfl;(first|omega);(first|omega);(first|omega);(first|omega);rfl;(first|(simp[St.free,Q2i,AV.refs,AV.refsL]));(first|omega);(first|(simp[St.free,Q2i,AV.refs,AV.refsL]));(intro c' hc';(simp(disch:=omega) only[go_sem,W,Int.natCast_one];refine hK _ ?_;clear hK K)))|(with_reducible first|(refine Q0d ?_;refine hR _ ?_;clear hR R)|((first|refine Q0e ?_);intro Ψ hΨ hΨ')|(refine Q0a ?_;intro R hR)|(refine hΨ _ ?_;clear hΨ hΨ' Ψ)|refine Q0j ?_|refine Q0h ?_)|((with_reducible refine hΨ' _ _ ?_ ?_);(focus(simp;done));clear hΨ hΨ' Ψ)|((with_reducible apply Q0f);rfl;rfl;all_goals(intro hc;first|(cases hc;done)|(try simp only at hc)))|((with_reducible refine Q0v ?_ ?_);kernel_rfl;(with_reducible refine hR _ ?_);clear hR R)|((first|((with_reducible apply Q0w);rfl;rfl;(simp(disch:=omega) only[rdE,rdOf,go_sem,W,Int.natCast_one];rfl);(intro τ hA hQ hN;((try simp only[Q1a,Op.operands,Call.operands,go_sem,W,Int.natCast_one,go_sem,List.mem_cons,List.not_mem_nil,forall_eq_or_imp,forall_eq,List.append_toArray,Option.toArray] at hA);(try simp only[go_sem,W,Int.natCast_one,List.mem_cons,List.not_mem_nil,forall_eq_or_imp,forall_eq] at hQ hN);(first|(revert hA;intro hA));(first|(revert hQ;intro hQ));(first|(revert hN;intro hN));simp(disch:=omega) only[go_sem,W,Int.natCast_one,go_sem,hA,hQ,hN];(repeat(refine ndI (by first|assumption|rfl) ?_));(first|apply Q0z))))|((first|((with_reducible apply Q2r);rfl));apply Q3h;rfl;rfl;rfl;rfl;rfl;(focus(simp only[go_sem];try rfl));rfl;rfl;rfl;rfl;(intro h;first|cases h);(first|omega))|((first|((with_reducible apply Q2r);rfl));apply Q9u;rfl;rfl;rfl;(focus(simp only[go_sem];try rfl));(first|omega);rfl;rfl;rfl;rfl;(first|(simp(disch:=omega) only[go_sem,W,Int.natCast_one,spl,List.length_append,List.length_map,List.length_take,List.length_drop,List.length_replicate];omega));(first|(simp(disch:=omega) only[go_sem,W,Int.natCast_one,spl,List.length_append,List.length_map,List.length_take,List.length_drop,List.length_replicate];omega));rfl));(simp(disch:=omega) only[St.eff,setO,Q0t,go_sem,W,Int.natCast_one]))|((with_reducible refine Q0q ?_ ?_ ?_ ?_);kernel_rfl;kernel_rfl;(simp[Q1n,Q5f,St.free,Q2i,AV.refsL,AV.refs]);intro R hR)))))
 refine⟨by simp,⟨_,rfl,?_⟩,Q0g ⟨?_,trivial⟩⟩
 · rw[show i+(l.length+1-i)=l.length+1 by omega]
   exact AV.le_cut _ _ _ _ _
 · simp only[Q1g,Nat.reduceEqDiff,if_false,if_true,Option.some.injEq]
   rw[show min 1 (i+(l.length+1-i)-i)=1 by omega,show min (l.length-i) (i+(l.length+1-i)-(i+1))=l.length-i by omega,show(l.length+1-i)*8=8+(l.length-i)*8 by omega,show(i+1)*8=i*8+8 by omega,Nat.one_mul,
    List.take_of_length_le (show(raS [x]).length≤8 by omega),List.take_of_length_le (show(raS [x]).length≤8 by omega),List.take_take,Nat.min_self]
   rw[X7s (raS l) (raS [x]) AV.any (i*8) 8 ((l.length-i)*8) (by omega) (by omega)]
   exact raS_app l x i
theorem ovS:Q9b Tryz.prog 92 22:=⟨_,4,Tryz.func92,by kernel_rfl,by kernel_rfl,by kernel_rfl,by kernel_rfl⟩
theorem X8w(l:List Ac)(x:Ac)(i c:Nat)(hi:i<l.length)(hc1:l.length+1≤c)(hl:l.length≤1000000):Fn Tryz.prog 70 [.cut 1000 62 8 0 l.length c true,vi .i64 i,.row 1001 62 8 1] [(1000,raS l++List.replicate ((c-l.length)*8) .any),(1001,raS [x])] (.row 1000 62 8 (l.length+1)) [(1000,raS (l.take i)++raS [x]++raS (l.drop i)++List.replicate ((c-l.length-1)*8) .any)]:=by
 have e1:=Q3p l
 have e2:(raS [x]).length=8:=rfl
 have e4:((i:Int)==(l.length:Int))=false:=by simp;omega
 have e5:(decide ((l.length:Int)+1>(c:Int)))=false:=by simp;omega
 have e6:(l.length:Int)+1=((l.length+1:Nat):Int):=by omega
 have e7:(i:Int)+1=((i+1:Nat):Int):=by omega
 have e8:(decide (((l.length+1:Nat):Int)>(c:Int)))=false:=by simp;omega
 (refine Q0n Tryz.func70 rfl (by rfl) ?_;simp only[Tryz.ntmps70,List.length_cons,List.length_nil,Nat.reduceAdd,Nat.reduceSub,List.replicate,List.cons_append,List.nil_append])
 (have W:=ndI e1 (ndI e2 (ndI e4 (ndI e5 (ndI e6 (ndI e7 (ndI e8 @wrI))))));(repeat(any_goals(first|((with_reducible refine Q0c ?_ ?_);rfl;intro K hK;simp(disch:=omega) only[go_sem,W,Int.natCast_one];((repeat(refine ndI (by first|assumption|rfl) ?_));refine hK _ ?_;clear hK K))|((with_reducible refine Q0c ?_ ?_);rfl;intro K hK;(try simp(disch:=omega) only[go_sem,W,Int.natCast_one]);(repeat(refine ndI (by first|assumption|rfl) ?_));refine Q2s rfl rfl rfl rfl rfl ?_ rfl rfl rfl rfl ?_ ?_ ?_;(focus(simp only[go_sem];try rfl));(intro h;first|rfl|cases h);(first|omega);(simp(disch:=omega) only[go_sem,W,Int.natCast_one];refine hK _ ?_;clear hK K))|((with_reducible refine Q0c ?_ ?_);rfl;intro K hK;(try simp(disch:=omega) only[go_sem,W,Int.natCast_one]);(repeat(refine ndI (by first|assumption) ?_));refine Q5o rfl rfl ?_ rfl ?_;(focus(simp(disch:=omega) only[go_sem];try rfl));(simp(disch:=omega) only[go_sem,W,Int.natCast_one];refine hK _ ?_;clear hK K))|((with_reducible refine Q0c ?_ ?_);rfl;intro K hK;(try simp(disch:=omega) only[go_sem,W,Int.natCast_one]);(repeat(refine ndI (by first|assumption) ?_));apply Q7x;rfl;rfl;rfl;(focus(simp only[go_sem];try rfl));(first|omega);rfl;rfl;rfl;rfl;(first|(simp(disch:=omega) only[go_sem,W,Int.natCast_one,spl,List.length_append,List.length_map,List.length_take,List.length_drop,List.length_replicate];omega));(first|(simp(disch:=omega) only[go_sem,W,Int.natCast_one,spl,List.length_append,List.length_map,List.length_take,List.length_drop,List.length_replicate];omega));(simp(disch:=omega) only[go_sem,W,Int.natCast_one];refine hK _ ?_;clear hK K))|((with_reducible refine Q0c ?_ ?_);rfl;intro K hK;(try simp(disch:=omega) only[go_sem,W,Int.natCast_one]);(repeat(refine ndI (by first|assumption) ?_));apply Q9e (ovS);rfl;rfl;rfl;rfl;rfl;(focus(simp only[go_sem];try rfl));rfl;rfl;decide;(first|omega);(first|omega);rfl;rfl;(simp(disch:=omega) only[go_sem,W,Int.natCast_one];refine hK _ ?_;clear hK K))|(with_reducible first|(refine Q0d ?_;refine hR _ ?_;clear hR R)|((first|refine Q0e ?_);intro Ψ hΨ hΨ')|(refine Q0a ?_;intro R hR)|(refine hΨ _ ?_;clear hΨ hΨ' Ψ)|refine Q0j ?_|refine Q0h ?_)|((with_reducible refine hΨ' _ _ ?_ ?_);(focus(simp;done));clear hΨ hΨ' Ψ)|((with_reducible apply Q0f);rfl;rfl;all_goals(intro hc;first|(cases hc;done)|(try simp only at hc)))|((with_reducible refine Q0v ?_ ?_);kernel_rfl;(with_reducible refine hR _ ?_);clear hR R)|((first|((with_reducible apply Q0w);rfl;rfl;(simp(disch:=omega) only[rdE,rdOf,go_sem,W,Int.natCast_one];rfl);(intro τ hA hQ hN;((try simp only[Q1a,Op.operands,Call.operands,go_sem,W,Int.natCast_one,go_sem,List.mem_cons,List.not_mem_nil,forall_eq_or_imp,forall_eq,List.append_toArray,Option.toArray] at hA);(try simp only[go_sem,W,Int.natCast_one,List.mem_cons,List.not_mem_nil,forall_eq_or_imp,forall_eq] at hQ hN);(first|(revert hA;intro hA));(first|(revert hQ;intro hQ));(first|(revert hN;intro hN));simp(disch:=omega) only[go_sem,W,Int.natCast_one,go_sem,hA,hQ,hN];(repeat(refine ndI (by first|assumption|rfl) ?_));(first|apply Q0z))))|((first|((with_reducible apply Q2r);rfl));apply Q3h;rfl;rfl;rfl;rfl;rfl;(focus(simp only[go_sem];try rfl));rfl;rfl;rfl;rfl;(intro h;first|cases h);(first|omega))|((first|((with_reducible apply Q2r);rfl));apply Q9u;rfl;rfl;rfl;(focus(simp only[go_sem];try rfl));(first|omega);rfl;rfl;rfl;rfl;(first|(simp(disch:=omega) only[go_sem,W,Int.natCast_one,spl,List.length_append,List.length_map,List.length_take,List.length_drop,List.length_replicate];omega));(first|(simp(disch:=omega) only[go_sem,W,Int.natCast_one,spl,List.length_append,List.length_map,List.length_take,List.length_drop,List.length_replicate];omega));rfl));(simp(disch:=omega) only[St.eff,setO,Q0t,go_sem,W,Int.natCast_one]))|((with_reducible refine Q0q ?_ ?_ ?_ ?_);kernel_rfl;kernel_rfl;(simp[Q1n,Q5f,St.free,Q2i,AV.refsL,AV.refs]);intro R hR)))))
 refine⟨by simp,⟨_,rfl,AV.le_cut _ _ _ _ _⟩,Q0g ⟨?_,trivial⟩⟩
 simp only[Q1g,if_true,Option.some.injEq]
 rw[show min 1 (l.length+1-i)=1 by omega,show min (l.length+1-i) (l.length+1-(i+1))=l.length-i by omega,show(i+1)*8=i*8+8 by omega,Nat.one_mul,
  List.take_of_length_le (show(raS [x]).length≤8 by omega),List.take_of_length_le (show(raS [x]).length≤8 by omega),List.take_take,Nat.min_eq_left (show(l.length-i)*8≤(l.length+1-i)*8 by omega)]
 rw[lay_in (raS l) (raS [x]) (List.replicate ((c-l.length)*8) AV.any) (i*8) 8 ((l.length-i)*8) ((c-l.length-1)*8) (by omega) (by omega) (by rw[List.length_replicate];omega),raS_app,List.drop_replicate]
 congr 2
 omega
theorem X8x(l:List Ac)(x:Ac)(i:Nat)(hi:i≤l.length)(hl:l.length≤1000000):Fn Tryz.prog 70 [.row 1000 62 8 l.length,vi .i64 i,.row 1001 62 8 1] [(1000,raS l),(1001,raS [x])] (.row 1 62 8 (l.length+1)) [(1,raS (l.take i++x::l.drop i))]:=by
 have e:raS (l.take i++x::l.drop i)=raS (l.take i)++raS [x]++raS (l.drop i):=by simp[raS]
 rw[e]
 rcases Nat.lt_or_ge i l.length with hlt|hge
 · refine Fn.cut0x (Q3p l) fun c h1 h2=>?_
   rcases Nat.lt_or_ge c (l.length+1) with hc|hc
   · obtain rfl:c=l.length:=by omega
     refine Fn.rename (fun r=>if r=1 then 40 else r) ?_ (by simp) (by simp)
     have:=X5c l x i l.length hlt h1 hc hl
     simpa [AV.ren,renH,raS] using this
   · refine Fn.rename (fun r=>if r=1 then 1000 else r) ?_ (by simp) (by simp)
     refine(X8w l x i c hlt hc hl).weaken (by simp only[AV.ren];exact AV.le_refl _) ?_
     simp only[renH,AV.renL,X7j,Q0p,if_true]
     exact leHp (ds:=List.replicate ((c-l.length-1)*8) .any) (by simp[Q1g,raS])
 · obtain rfl:i=l.length:=by omega
   refine Fn.rename (fun r=>if r=1 then 25 else r) ?_ (by simp) (by simp)
   have:=X6q l x hl
   simpa [AV.ren,renH,raS] using this
theorem X8o(l m:List Ac):raS (l++m)=raS l++raS m:=by simp[raS]
theorem raS_take(l:List Ac)(i:Nat)(R:List AV)(h:i≤l.length):List.take (i*8) (raS l++R)=raS (l.take i):=by
 rw[List.take_append_of_le_length (by rw[Q3p];omega)]
 simp only[raS,←List.map_take,Q2u Q6a]
theorem raS_drop(l:List Ac)(i:Nat)(R:List AV)(h:i≤l.length):List.drop (i*8) (raS l++R)=raS (l.drop i)++R:=by
 rw[List.drop_append_of_le_length (by rw[Q3p];omega)]
 simp only[raS,←List.map_drop,Q3v Q6a]
theorem deleteS_c(l:List Ac)(i c:Nat)(hi:i<l.length)(hc:l.length≤c)(hc2:c≤maxLen)(hl:l.length≤1000000):∃Y,Fn Tryz.prog 69 [.cut 1000 62 8 0 l.length c true,vi .i64 i,vi .i64 (i+1:Nat)] [(1000,raS l++List.replicate ((c-l.length)*8) .any)] (.row 1000 62 8 (l.length-1)) [(1000,raS (l.take i++l.drop (i+1))++Y)]:=by
 have e1:=Q3p l
 have e2:((i:Int)==((i+1:Nat):Int))=false:=by simp;omega
 unfold maxLen at hc2
 have hA:=raS_take l i (List.replicate ((c-l.length)*8) .any) (by omega)
 have hB:List.take ((l.length-(i+1))*8) (List.drop ((i+1)*8) (raS l++List.replicate ((c-l.length)*8) .any))=raS (l.drop (i+1)):=by
  rw[raS_drop l (i+1) _ hi]
  rw[List.take_append_of_le_length (by rw[Q3p,List.length_drop];omega),List.take_of_length_le (by rw[Q3p,List.length_drop];omega)]
 refine⟨Q7k [.int .u64 0,.int .u64 0,.int .u64 0,.int .u64 0,.int .u64 0,.int .u64 0,.slice none 0 0,.slice none 0 0] (l.length-(i+(l.length-(i+1))))++List.drop ((i+(l.length-(i+1)))*8+(Q7k [.int .u64 0,.int .u64 0,.int .u64 0,.int .u64 0,.int .u64 0,.int .u64 0,.slice none 0 0,.slice none 0 0] (l.length-(i+(l.length-(i+1))))).length) (List.take (i*8) (raS l++List.replicate ((c-l.length)*8) .any)++List.take ((l.length-(i+1))*8) (List.drop ((i+1)*8) (raS l++List.replicate ((c-l.length)*8) .any))++List.drop (i*8+(List.take ((l.length-(i+1))*8) (List.drop ((i+1)*8) (raS l++List.replicate ((c-l.length)*8) .any))).length) (raS l++List.replicate ((c-l.length)*8) .any)),?_⟩
 (refine Q0n Tryz.func69 rfl (by rfl) ?_;simp only[Tryz.ntmps69,List.length_cons,List.length_nil,Nat.reduceAdd,Nat.reduceSub,List.replicate,List.cons_append,List.nil_append])
 (have W:=ndI e1 (ndI e2 @wrI);(repeat(any_goals(first|((with_reducible refine Q0c ?_ ?_);rfl;intro K hK;simp(disch:=omega) only[go_sem,W];((repeat(refine ndI (by first|assumption|rfl) ?_));refine hK _ ?_;clear hK K))|((with_reducible refine Q0c ?_ ?_);rfl;intro K hK;(try simp(disch:=omega) only[go_sem,W]);(repeat(refine ndI (by first|assumption|rfl) ?_));refine Q2s rfl rfl rfl rfl rfl ?_ rfl rfl rfl rfl ?_ ?_ ?_;(focus(simp only[go_sem];try rfl));(intro h;first|rfl);(first|omega);(simp(disch:=omega) only[go_sem,W];refine hK _ ?_;clear hK K))|((with_reducible refine Q0c ?_ ?_);rfl;intro K hK;(try simp(disch:=omega) only[go_sem,W]);(repeat(refine ndI (by first|assumption) ?_));apply X4w;rfl;rfl;(focus(simp only[go_sem];try rfl));(first|omega);(simp(disch:=omega) only[go_sem,Option.bind_some];rfl);rfl;rfl;rfl;rfl;(first|(simp(disch:=omega) only[go_sem,W,spl,List.length_append,List.length_map,List.length_take,List.length_drop,List.length_replicate];omega));(simp(disch:=omega) only[go_sem,W];refine hK _ ?_;clear hK K))|(with_reducible first|(refine Q0d ?_;refine hR _ ?_;clear hR R)|((first|refine Q0e ?_);intro Ψ hΨ hΨ')|(refine Q0a ?_;intro R hR)|(refine hΨ _ ?_;clear hΨ hΨ' Ψ)|refine Q0j ?_|refine Q0h ?_)|((with_reducible apply Q0f);rfl;rfl;all_goals(intro hc;first|(cases hc;done)|(try simp only at hc)))|((with_reducible refine Q0v ?_ ?_);kernel_rfl;(with_reducible refine hR _ ?_);clear hR R)|((first|((with_reducible apply Q0w);rfl;rfl;(simp(disch:=omega) only[rdE,rdOf,go_sem,W];rfl);(intro τ hA hQ hN;((try simp only[Q1a,Op.operands,Call.operands,go_sem,W,go_sem,List.mem_cons,List.not_mem_nil,forall_eq_or_imp,forall_eq,List.append_toArray,Option.toArray] at hA);(try simp only[go_sem,W,List.mem_cons,List.not_mem_nil,forall_eq_or_imp,forall_eq] at hQ hN);(first|(revert hA;intro hA));(first|(revert hQ;intro hQ));(first|(revert hN;intro hN));simp(disch:=omega) only[go_sem,W,go_sem,hA,hQ,hN];(repeat(refine ndI (by first|assumption|rfl) ?_));(first|apply Q0z))))|((first|((with_reducible apply Q2r);rfl));apply Q3h;rfl;rfl;rfl;rfl;rfl;(focus(simp only[go_sem];try rfl));rfl;rfl;rfl;rfl;(intro h;first|rfl|cases h);(first|omega))|((first|((with_reducible apply Q2r);rfl));apply Q7t;rfl;rfl;rfl;(focus(simp only[go_sem];try rfl));(first|omega);rfl;rfl;rfl;rfl;rfl;(first|(simp(disch:=omega) only[go_sem,W,spl,List.length_append,List.length_map,List.length_take,List.length_drop,List.length_replicate];omega));(first|omega);(first|(simp(disch:=omega) only[go_sem,W,spl,List.length_append,List.length_map,List.length_take,List.length_drop,List.length_replicate];omega));rfl));(simp(disch:=omega) only[St.eff,setO,Q0t,go_sem,W]))|((with_reducible refine Q0q ?_ ?_ ?_ ?_);kernel_rfl;kernel_rfl;(simp[Q1n,Q5f,St.free,Q2i,AV.refsL,AV.refs,Q3k]);intro R hR)))))
 refine⟨by simp,⟨_,rfl,?_⟩,Q0g ⟨?_,trivial⟩⟩
 · rw[show i+(l.length-(i+1))=l.length-1 by omega]
   exact AV.le_cut _ _ _ _ _
 · simp only[Q1g,if_true,Option.some.injEq]
   rw[hA,hB,List.take_append_of_le_length (by simp only[List.length_append,Q3p,List.length_take,List.length_drop];omega),List.take_of_length_le (by simp only[List.length_append,Q3p,List.length_take,List.length_drop];omega),←X8o,List.append_assoc]
   try rfl
theorem X9a(l:List Ac)(i:Nat)(hi:i<l.length)(hl:l.length≤1000000):Fn Tryz.prog 69 [.row 1000 62 8 l.length,vi .i64 i,vi .i64 (i+1:Nat)] [(1000,raS l)] (.row 1000 62 8 (l.length-1)) [(1000,raS (l.take i++l.drop (i+1)))]:=by
 refine Fn.cut0x (Q3p l) fun c h1 h2=>?_
 obtain⟨Y,hY⟩:=deleteS_c l i c hi h1 h2 hl
 refine hY.weaken (AV.le_refl _) ?_
 exact leHp (ds:=Y) (by simp[Q1g])
end Go.Proofs.YtbmcdemnnbndeaaGreatDoor
namespace Go.Proofs.YtbmcdemnnbndeaaGreatDoor.nz
open Go.RowKit
set_option maxRecDepth 20000
set_option maxHeartbeats 1000000
abbrev rcN(l:List N6):List AV:=(l.flatMap N6.pv).map .c
theorem rcN_len(l:List N6):(rcN l).length=l.length*6:=by rw[List.length_map,Q0u pv_len]
end Go.Proofs.YtbmcdemnnbndeaaGreatDoor.nz
namespace Go.Proofs.YtbmcdemnnbndeaaGreatDoor.nz
open Go.RowKit
open Nat (reduceBEq)
set_option maxRecDepth 20000
set_option maxHeartbeats 1000000
theorem cloneN_fn(ex:Bool)(l:List N6)(hl:l.length≤1000000):Fn Tryz.prog 20 [nsl ex l] [] (.row 7 73 6 l.length) [(7,rcN l)]:=by
 have e1:=rcN_len l
 (refine Q0n Tryz.func20 rfl (by rfl) ?_;simp only[Tryz.ntmps20,List.length_cons,List.length_nil,Nat.reduceAdd,Nat.reduceSub,List.replicate,List.cons_append,List.nil_append])
 (repeat(any_goals(first|((have hz0:=hb0 hc);(with_reducible refine Q4u ?_ ?_);rfl;intro K hK;refine OpA.nilrow_after 2 7 73 6 (Q3d ?_);(simp(disch:=omega) only[go_sem,e1,Q0m]);(repeat(refine And.intro (by first|assumption|rfl) ?_));refine hK _ ?_;clear hK K;clear hb0)|((with_reducible refine Q0c ?_ ?_);rfl;intro K hK;simp(disch:=omega) only[go_sem,e1,Q0m];((repeat(refine ndI (by first|assumption|omega|rfl) ?_));refine hK _ ?_;clear hK K))|((with_reducible refine Q0c ?_ ?_);rfl;intro K hK;refine Q6p rfl rfl (by first|exact .inl rfl) ?_ rfl ?_;(focus(simp(disch:=omega) only[go_sem];try rfl));(intro b hb0;simp(disch:=omega) only[eq_self,go_sem,e1,Q0m];(with_reducible refine hK _ ?_);clear hK K))|(with_reducible first|(refine Q0d ?_;refine hR _ ?_;clear hR R)|((first|refine Q0e ?_);intro Ψ hΨ hΨ')|(refine Q0a ?_;intro R hR)|(refine hΨ _ ?_;clear hΨ hΨ' Ψ)|refine Q0j ?_|refine Q0h ?_)|((with_reducible refine hΨ' _ _ ?_ ?_);(focus(simp;done));clear hΨ hΨ' Ψ)|((with_reducible apply Q0f);rfl;rfl;all_goals(intro hc;first|(try simp only at hc))))))
 all_goals(try(obtain rfl:=List.eq_nil_of_length_eq_zero hz0))
 all_goals exact⟨by simp,⟨_,rfl,AV.le_refl _⟩,Q0g (by simp[leH,hget])⟩
end Go.Proofs.YtbmcdemnnbndeaaGreatDoor.nz
namespace Go.Proofs.YtbmcdemnnbndeaaGreatDoor.lg
open Go.RowKit
open Nat (reduceBEq)
set_option maxRecDepth 20000
set_option maxHeartbeats 2000000
def posA(l:List Hd)(a:Int):Nat:=l.findIdx fun h=>decide (a≤h.a)
theorem X6e(l:List Hd)(a:Int):posA l a≤l.length:=List.findIdx_le_length
theorem posA_at{l:List Hd}{a:Int}{i:Nat}{y:Hd}(h:∀j,j<i→∀n,l[j]? = some n→n.a<a)(hy:l[i]? = some y)(hm:a≤y.a):posA l a=i:=by
 obtain⟨hlt,rfl⟩:=List.getElem?_eq_some_iff.1 hy
 unfold posA
 rw[List.findIdx_eq hlt]
 refine⟨by simpa using hm,fun j hj=>?_⟩
 have:=h j hj _ (List.getElem?_eq_getElem (by omega))
 simp;omega
theorem posA_none{l:List Hd}{a:Int}(h:∀j,j<l.length→∀n,l[j]? = some n→n.a<a):posA l a=l.length:=by
 unfold posA
 rw[List.findIdx_eq_length]
 intro x hx
 obtain⟨j,hj⟩:=List.mem_iff_getElem?.1 hx
 have:=h j (List.getElem?_eq_some_iff.1 hj).1 x hj
 simp;omega
theorem Q7p(x:Int)(p s:Nat)(d f a:Int):Fn Tryz.prog 108 [h11 x p s d f,.ptr 1003 0] [(1003,[vi .u64 a])] (vb (decide (x≥a))) [(1003,[vi .u64 a])]:=by
 (refine Q0n Tryz.func108 rfl (by rfl) ?_;simp only[Tryz.ntmps108,List.length_cons,List.length_nil,Nat.reduceAdd,Nat.reduceSub,List.replicate,List.cons_append,List.nil_append])
 (repeat(any_goals(first|((with_reducible refine Q0c ?_ ?_);rfl;intro K hK;simp only[go_sem];((repeat(refine ndI (by first|assumption) ?_));refine hK _ ?_;clear hK K))|(with_reducible first|(refine Q0d ?_;refine hR _ ?_;clear hR R)|((first|refine Q0e ?_);intro Ψ hΨ hΨ')|(refine Q0a ?_;intro R hR)|(refine hΨ _ ?_;clear hΨ hΨ' Ψ)|refine Q0h ?_))))
 all_goals(refine⟨by simp,⟨_,?_,AV.le_refl _⟩,Q0g (by simp[leH,hget])⟩;simp only[Tryz.results108,resL,ldA,Q0o,go_sem])
theorem index_fn(ex:Bool)(l:List Hd)(hl:l.length≤1000)(a:Int):Fn Tryz.prog 107 [hsl ex l,.fn 108 [.ptr 1003 0]] [(1003,[vi .u64 a])] (vi .i64 (if posA l a<l.length then(posA l a:Int) else -1)) [(1003,[vi .u64 a])]:=by
 obtain⟨tr,htr⟩:∃r:Int,(if posA l a<l.length then(posA l a:Int) else -1)=r:=⟨_,rfl⟩
 rw[htr]
 (refine Q0n Tryz.func107 rfl (by rfl) ?_;simp only[Tryz.ntmps107,List.length_cons,List.length_nil,Nat.reduceAdd,Nat.reduceSub,List.replicate,List.cons_append,List.nil_append])
 (repeat(any_goals(first|((with_reducible refine Q0c ?_ ?_);rfl;intro K hK;simp only[go_sem];((repeat(refine ndI (by first|assumption) ?_));refine hK _ ?_;clear hK K))|(with_reducible first|(refine Q0d ?_;refine hR _ ?_;clear hR R)|((first|refine Q0e ?_|refine Q0l ?_);intro Ψ hΨ hΨ')|(refine Q0a ?_;intro R hR)|(refine hΨ _ ?_;clear hΨ hΨ' Ψ)))))
 refine Q5v (α:={i:Nat // i≤l.length∧∀j,j<i→∀n,l[j]? = some n→n.a<a}) (fun p=>⟨[hsl ex l,.fn 108 [.ptr 1003 0],.any,.any,.any,.any,hsl ex l,vi .i64 l.length,vi .i64 p.1,.any,.any,.any,.any,.any,.any,.any,.any,.any,.any],[(1003,[vi .u64 a])]⟩) (fun p=>l.length-p.1) ⟨0,Nat.zero_le _,fun j hj=>by omega⟩ (St.le_of (by simp[leT]) (by simp[leH,hget])) ?_
 rintro ⟨i,hi,hno⟩ Ψ hΨ hΨ'
 dsimp only at hi hΨ ⊢
 rcases Nat.lt_or_ge i l.length with hlt|hge
 · obtain⟨y,hy⟩:∃y,l[i]? = some y:=⟨l[i],List.getElem?_eq_getElem hlt⟩
   have k1:(decide ((i:Int)<(l.length:Int)))=true:=by simpa using hlt
   have k2:=X2e hy
   have k7:(i:Int)+1=((i+1:Nat):Int):=by omega
   have pl:=Q7p y.a y.p y.s y.d y.f a
   by_cases hm:a≤y.a
   · have e:(decide (y.a≥a))=true:=by simpa using hm
     rw[e] at pl
     have hp:=posA_at hno hy hm
     rw[hp,if_pos hlt] at htr
     (have W:=ndI k1 (ndI k2 (ndI k7 @wrI));(repeat(any_goals(first|((with_reducible refine Q0i ?_ ?_ ?_);rfl;rfl;intro K hK;(apply Q0y (pl) (fun r=>r);rfl;rfl;rfl;rfl;exact Tryz.func108;kernel_rfl;rfl;rfl;(intro r hr q hq h;simp(disch:=omega) only[List.map_cons,List.map_nil,List.cons_append,List.nil_append,List.mem_cons,List.not_mem_nil,or_false] at hr hq;(try dsimp only at h);first|omega);(simp(disch:=omega) only[Q1e,Q1y,AV.ren,AV.renL,Q0p,List.mem_cons,List.not_mem_nil,forall_eq_or_imp,forall_eq,Q1v,List.contains_cons,List.contains_nil,AV.refsL,AV.refs,Q0m,AV.inN,AV.inNL,inH,Q0x,go_sem,W]));(simp(disch:=omega) only[Q0t,Q1w,renH,AV.ren,AV.renL,Q0p,go_sem,W];refine hK _ ?_;clear hK K))|((with_reducible refine Q0c ?_ ?_);rfl;intro K hK;simp(disch:=omega) only[go_sem,W];((repeat(refine ndI (by first|assumption|omega|rfl) ?_));refine hK _ ?_;clear hK K))|(with_reducible first|(refine Q0d ?_;refine hR _ ?_;clear hR R)|((first|refine Q0e ?_|refine Q0l ?_);intro Ψ hΨ hΨ')|(refine Q0a ?_;intro R hR)|(refine hΨ _ ?_;clear hΨ hΨ' Ψ)|refine Q0j ?_|refine Q0h ?_)|((with_reducible refine hΨ' _ _ ?_ ?_);(focus(simp;done));clear hΨ hΨ' Ψ)|((with_reducible apply Q0f);rfl;rfl;all_goals(intro hc;first|(cases hc;done)|(try simp only at hc)))))))
     all_goals(refine⟨by simp,⟨_,?_,AV.le_refl _⟩,Q0g (by simp[leH,hget])⟩;simp only[Tryz.results107,resL,ldA,Q0o,go_sem])
     all_goals rw[htr]
   · have e:(decide (y.a≥a))=false:=by simp;omega
     rw[e] at pl
     (have W:=ndI k1 (ndI k2 (ndI k7 @wrI));(repeat(any_goals(first|((with_reducible refine Q0i ?_ ?_ ?_);rfl;rfl;intro K hK;(apply Q0y (pl) (fun r=>r);rfl;rfl;rfl;rfl;exact Tryz.func108;kernel_rfl;rfl;rfl;(intro r hr q hq h;simp(disch:=omega) only[List.map_cons,List.map_nil,List.cons_append,List.nil_append,List.mem_cons,List.not_mem_nil,or_false] at hr hq;(try dsimp only at h);first|omega);(simp(disch:=omega) only[Q1e,Q1y,AV.ren,AV.renL,Q0p,List.mem_cons,List.not_mem_nil,forall_eq_or_imp,forall_eq,Q1v,List.contains_cons,List.contains_nil,AV.refsL,AV.refs,Q0m,AV.inN,AV.inNL,inH,Q0x,go_sem,W]));(simp(disch:=omega) only[Q0t,Q1w,renH,AV.ren,AV.renL,Q0p,go_sem,W];refine hK _ ?_;clear hK K))|((with_reducible refine Q0c ?_ ?_);rfl;intro K hK;simp(disch:=omega) only[go_sem,W];((repeat(refine ndI (by first|assumption|omega|rfl) ?_));refine hK _ ?_;clear hK K))|(with_reducible first|(refine Q0d ?_;refine hR _ ?_;clear hR R)|((first|refine Q0e ?_|refine Q0l ?_);intro Ψ hΨ hΨ')|(refine Q0a ?_;intro R hR)|(refine hΨ _ ?_;clear hΨ hΨ' Ψ)|refine Q0j ?_)|((with_reducible refine hΨ' _ _ ?_ ?_);(focus(simp;done));clear hΨ hΨ' Ψ)|((with_reducible apply Q0f);rfl;rfl;all_goals(intro hc;first|(cases hc;done)|(try simp only at hc)))))))
     refine hΨ _ ⟨i+1,hlt,fun j hj n hn=>?_⟩ (by simp only;omega) (St.le_of (by simp[leT]) (by simp[leH,hget]))
     rcases Nat.lt_or_ge j i with h'|h'
     · exact hno j h' n hn
     · obtain rfl:j=i:=by omega
       rw[hy] at hn;cases hn;omega
 · have k1:(decide ((i:Int)<(l.length:Int)))=false:=by simpa using hge
   have hp:=posA_none (l:=l) (a:=a) fun j hj=>hno j (by omega)
   rw[hp,if_neg (Nat.lt_irrefl _)] at htr
   (repeat(any_goals(first|((with_reducible refine Q0c ?_ ?_);rfl;intro K hK;simp only[go_sem,k1];((repeat(refine ndI (by first|assumption) ?_));refine hK _ ?_;clear hK K))|(with_reducible first|(refine Q0d ?_;refine hR _ ?_;clear hR R)|((first|refine Q0e ?_);intro Ψ hΨ hΨ')|(refine Q0a ?_;intro R hR)|(refine hΨ _ ?_;clear hΨ hΨ' Ψ)|refine Q0h ?_|refine Q1f ?_)|((with_reducible refine hΨ' _ _ ?_ ?_);(focus(simp;done));clear hΨ hΨ' Ψ)|((with_reducible apply Q0f);rfl;rfl;all_goals(intro hc;first|(cases hc;done)|(try simp only at hc))))))
   all_goals(refine⟨by simp,⟨_,?_,AV.le_refl _⟩,Q0g (by simp[leH,hget])⟩;simp only[Tryz.results107,resL,ldA,Q0o,go_sem])
   all_goals rw[←htr]
def isA(l:List Hd)(a:Int):Bool:=match l[posA l a]? with|some y=>y.a==a|none=>false
theorem Q7o(ex:Bool)(l:List Hd)(hl:l.length≤1000)(a:Int):Fn Tryz.prog 103 [lg ex l,vi .u64 a] [] (.tup [vi .i64 (posA l a:Int),vb (isA l a)]) []:=by
 have ix:=index_fn ex l hl a
 have hle:=X6e l a
 rcases Nat.lt_or_ge (posA l a) l.length with hlt|hge
 · rw[if_pos hlt] at ix
   obtain⟨y,hy⟩:∃y,l[posA l a]? = some y:=⟨_,List.getElem?_eq_getElem hlt⟩
   have hA:isA l a=(y.a==a):=by unfold isA;rw[hy]
   rw[hA]
   have k2:=X2e hy
   generalize posA l a=i at ix hlt hy k2
   have k3:(decide ((i:Int)<0))=false:=by simp
   (refine Q0n Tryz.func103 rfl (by rfl) ?_;simp only[Tryz.ntmps103,List.length_cons,List.length_nil,Nat.reduceAdd,Nat.reduceSub,List.replicate,List.cons_append,List.nil_append])
   (repeat(any_goals(first|((with_reducible refine Q0i ?_ ?_ ?_);rfl;rfl;intro K hK;(apply Q0y (ix) (fun r=>r-1000);rfl;rfl;rfl;rfl;exact Tryz.func107;kernel_rfl;rfl;rfl;(intro r hr q hq h;simp(disch:=omega) only[List.map_cons,List.map_nil,List.cons_append,List.nil_append,List.mem_cons,List.not_mem_nil,or_false] at hr hq;(try dsimp only at h);first|omega);(simp(disch:=omega) only[Q1e,Q1y,AV.ren,AV.renL,Q0p,List.mem_cons,List.not_mem_nil,forall_eq_or_imp,forall_eq,Q1v,List.contains_cons,List.contains_nil,AV.refsL,AV.refs,Q0m,AV.inN,AV.inNL,inH,Q0x,go_sem,k2,k3]));(simp(disch:=omega) only[Q0t,Q1w,renH,AV.ren,AV.renL,Q0p,go_sem,k2,k3];refine hK _ ?_;clear hK K))|((with_reducible refine Q0c ?_ ?_);rfl;intro K hK;simp(disch:=omega) only[go_sem,k2,k3];((repeat(refine ndI (by first|assumption|rfl) ?_));refine hK _ ?_;clear hK K))|(with_reducible first|(refine Q0d ?_;refine hR _ ?_;clear hR R)|((first|refine Q0e ?_);intro Ψ hΨ hΨ')|(refine Q0a ?_;intro R hR)|(refine hΨ _ ?_;clear hΨ hΨ' Ψ)|refine Q0j ?_|refine Q0h ?_)|((with_reducible apply Q0f);rfl;rfl;all_goals(intro hc;first|(cases hc;done)|(try simp only at hc)))|((with_reducible refine Q0v ?_ ?_);kernel_rfl;(with_reducible refine hR _ ?_);clear hR R)|(((with_reducible apply Q0w);rfl;rfl;(simp(disch:=omega) only[rdE,rdOf,go_sem,k2,k3];rfl);(intro τ hA hQ hN;((try simp only[Q1a,Op.operands,Call.operands,go_sem,k2,k3,go_sem,List.mem_cons,List.not_mem_nil,forall_eq_or_imp,forall_eq,List.append_toArray,Option.toArray] at hA);(try simp only[go_sem,k2,k3,List.mem_cons,List.not_mem_nil,forall_eq_or_imp,forall_eq] at hQ hN);(first|(revert hA;intro hA));(first|(revert hQ;intro hQ));(first|(revert hN;intro hN));simp(disch:=omega) only[go_sem,k2,k3,go_sem,hA,hQ,hN];(repeat(refine ndI (by first|assumption|omega|rfl) ?_));(first|apply Q0z))));(simp(disch:=omega) only[St.eff,setO,Q0t,go_sem,k2,k3]))|((with_reducible refine Q0q ?_ ?_ ?_ ?_);kernel_rfl;kernel_rfl;(first|kernel_rfl);intro R hR))))
   all_goals(refine⟨by simp,⟨_,?_,AV.le_refl _⟩,Q0g (by simp[leH,hget])⟩;simp only[Tryz.results103,resL,ldA,Q0o,go_sem])
 · have e:posA l a=l.length:=by omega
   have hA:isA l a=false:=by unfold isA;rw[e,List.getElem?_eq_none (Nat.le_refl _)]
   rw[hA,e]
   rw[if_neg (by omega)] at ix
   (refine Q0n Tryz.func103 rfl (by rfl) ?_;simp only[Tryz.ntmps103,List.length_cons,List.length_nil,Nat.reduceAdd,Nat.reduceSub,List.replicate,List.cons_append,List.nil_append])
   (repeat(any_goals(first|((with_reducible refine Q0i ?_ ?_ ?_);rfl;rfl;intro K hK;(apply Q0y (ix) (fun r=>r-1000);rfl;rfl;rfl;rfl;exact Tryz.func107;kernel_rfl;rfl;rfl;(intro r hr q hq h;simp only[List.map_cons,List.map_nil,List.cons_append,List.nil_append,List.mem_cons,List.not_mem_nil,or_false] at hr hq;(try dsimp only at h);first|omega);(simp only[Q1e,Q1y,AV.ren,AV.renL,Q0p,List.mem_cons,List.not_mem_nil,forall_eq_or_imp,forall_eq,Q1v,List.contains_cons,List.contains_nil,AV.refsL,AV.refs,Q0m,AV.inN,AV.inNL,inH,Q0x,go_sem,Int.reduceLT,Int.reduceNeg,decide_true]));(simp only[Q0t,Q1w,renH,AV.ren,AV.renL,Q0p,go_sem,Int.reduceLT,Int.reduceNeg,decide_true];refine hK _ ?_;clear hK K))|((with_reducible refine Q0c ?_ ?_);rfl;intro K hK;simp only[go_sem,Int.reduceLT,Int.reduceNeg,decide_true];((repeat(refine ndI (by first|assumption) ?_));refine hK _ ?_;clear hK K))|(with_reducible first|(refine Q0d ?_;refine hR _ ?_;clear hR R)|((first|refine Q0e ?_);intro Ψ hΨ hΨ')|(refine Q0a ?_;intro R hR)|(refine hΨ _ ?_;clear hΨ hΨ' Ψ)|refine Q0h ?_)|((with_reducible refine hΨ' _ _ ?_ ?_);(focus(simp;done));clear hΨ hΨ' Ψ)|((with_reducible apply Q0f);rfl;rfl;all_goals(intro hc;first|(cases hc;done)|(try simp only at hc))))))
   all_goals(refine⟨by simp,⟨_,?_,AV.le_refl _⟩,Q0g (by simp[leH,hget])⟩;simp only[Tryz.results103,resL,ldA,Q0o,go_sem])
def findH(l:List Hd)(a:Int):Hd:=match l[posA l a]? with|some y=>if y.a=a then y else⟨a,0,0,0,0⟩|none=>⟨a,0,0,0,0⟩
abbrev hA(h:Hd):AV:=h11 h.a h.p h.s h.d h.f
theorem X1b(ex:Bool)(l:List Hd)(hl:l.length≤1000)(a:Int):Fn Tryz.prog 84 [lg ex l,vi .u64 a] [] (hA (findH l a)) []:=by
 have pl:=Q7o ex l hl a
 by_cases h:isA l a=true
 · rw[h] at pl
   unfold isA at h
   cases hy:l[posA l a]? with
   |none=>rw[hy] at h;cases h
   |some y=>
    rw[hy] at h
    simp only[beq_iff_eq] at h
    have hF:findH l a=y:=by unfold findH;rw[hy];simp[h]
    rw[hF]
    have k2:=X2e hy
    have hlt:=(List.getElem?_eq_some_iff.1 hy).1
    generalize posA l a=i at pl k2 hlt
    (refine Q0n Tryz.func84 rfl (by rfl) ?_;simp only[Tryz.ntmps84,List.length_cons,List.length_nil,Nat.reduceAdd,Nat.reduceSub,List.replicate,List.cons_append,List.nil_append])
    (repeat(any_goals(first|((with_reducible refine Q0i ?_ ?_ ?_);rfl;rfl;intro K hK;((apply Q0b (pl);rfl;rfl;rfl;rfl;exact Tryz.func103);kernel_rfl;rfl;(focus((simp(disch:=omega) only[go_sem,k2]);(try rfl);done));(first|rfl));(simp(disch:=omega) only[go_sem,k2];refine hK _ ?_;clear hK K))|((with_reducible refine Q0c ?_ ?_);rfl;intro K hK;simp(disch:=omega) only[go_sem,k2];((repeat(refine ndI (by first|assumption|omega|rfl) ?_));refine hK _ ?_;clear hK K))|(with_reducible first|(refine Q0d ?_;refine hR _ ?_;clear hR R)|((first|refine Q0e ?_);intro Ψ hΨ hΨ')|(refine Q0a ?_;intro R hR)|(refine hΨ _ ?_;clear hΨ hΨ' Ψ)|refine Q0h ?_)|((with_reducible refine hΨ' _ _ ?_ ?_);(focus(simp;done));clear hΨ hΨ' Ψ)|((with_reducible apply Q0f);rfl;rfl;all_goals(intro hc;first|(cases hc;done)|(try simp only at hc))))))
    all_goals(refine⟨by simp,⟨_,?_,AV.le_refl _⟩,Q0g (by simp[leH,hget])⟩;simp only[Tryz.results84,resL,ldA,Q0o,go_sem])
 · have h':isA l a=false:=by simpa using h
   rw[h'] at pl
   have hF:findH l a=⟨a,0,0,0,0⟩:=by
    unfold findH
    unfold isA at h'
    cases hy:l[posA l a]? with
    |none=>rfl
    |some y=>
     rw[hy] at h'
     simp only[beq_eq_false_iff_ne,ne_eq] at h'
     simp[h']
   rw[hF]
   (refine Q0n Tryz.func84 rfl (by rfl) ?_;simp only[Tryz.ntmps84,List.length_cons,List.length_nil,Nat.reduceAdd,Nat.reduceSub,List.replicate,List.cons_append,List.nil_append])
   (repeat(any_goals(first|((with_reducible refine Q0i ?_ ?_ ?_);rfl;rfl;intro K hK;((apply Q0b (pl);rfl;rfl;rfl;rfl;exact Tryz.func103);kernel_rfl;rfl;(focus((simp only[go_sem]);(try rfl);done));(first|rfl));(simp only[go_sem];refine hK _ ?_;clear hK K))|((with_reducible refine Q0c ?_ ?_);rfl;intro K hK;simp only[go_sem];((repeat(refine ndI (by first|assumption) ?_));refine hK _ ?_;clear hK K))|(with_reducible first|(refine Q0d ?_;refine hR _ ?_;clear hR R)|((first|refine Q0e ?_);intro Ψ hΨ hΨ')|(refine Q0a ?_;intro R hR)|(refine hΨ _ ?_;clear hΨ hΨ' Ψ)|refine Q0j ?_|refine Q0h ?_)|((with_reducible apply Q0f);rfl;rfl;all_goals(intro hc;first|(cases hc;done)|(try simp only at hc))))))
   all_goals(refine⟨by simp,⟨_,?_,AV.le_refl _⟩,Q0g (by simp[leH,hget])⟩;simp only[Tryz.results84,resL,ldA,Q0o,go_sem])
   all_goals simp only[hA,h11,c11,Q2q,Q2p,Q2o,Q2n]
end Go.Proofs.YtbmcdemnnbndeaaGreatDoor.lg
namespace Go.Proofs.YtbmcdemnnbndeaaGreatDoor.lg
open Go.RowKit
open Nat (reduceBEq)
set_option maxRecDepth 20000
set_option maxHeartbeats 2000000
abbrev tl(a:Int)(p s:Nat)(d f:Int)(x:AV):List AV:=[vi .u64 a,vi .u64 (l0 p),vi .u64 (l1 p),vi .u64 (l2 p),vi .u64 (l3 p),vi .u64 (l0 s),vi .u64 (l1 s),vi .u64 (l2 s),vi .u64 (l3 s),vi .u64 d,vi .u64 f,x]
def fitsE(l:List Hd)(a:Int)(n:Nat):Int:=if WW≤n+tot l then 171 else if (!isA l a&&(!decide (n=0)&&decide (l.length=24)))=true then 6 else 0
theorem fits_fn(ex:Bool)(l:List Hd)(hl:l.length≤400)(ok:∀h∈l,h.ok)(a:Int)(p s:Nat)(d f:Int)(n:Nat)(hn:n<WW):Fn Tryz.prog 96 [.ptr 1005 0,wN n] [(1005,tl a p s d f (hsl ex l))] (vi .i64 (fitsE l a n)) [(1005,tl a p s d f (hsl ex l))]:=by
 have al:=all_one ex l hl ok n hn
 have pl:=Q7o ex l (by omega) a
 have nn:=Q4f n hn
 obtain⟨tn,htn⟩:∃m,(n+tot l)%WW=m:=⟨_,rfl⟩
 rw[htn] at al
 unfold fitsE
 by_cases h1:WW≤n+tot l
 · rw[if_pos h1]
   rw[decide_eq_true h1] at al
   (refine Q0n Tryz.func96 rfl (by rfl) ?_;simp only[Tryz.ntmps96,List.length_cons,List.length_nil,Nat.reduceAdd,Nat.reduceSub,List.replicate,List.cons_append,List.nil_append])
   (repeat(any_goals(first|((with_reducible refine Q0c ?_ ?_);rfl;intro K hK;simp only[go_sem];((repeat(refine ndI (by first|assumption) ?_));refine hK _ ?_;clear hK K))|(with_reducible (refine Q0d ?_;refine hR _ ?_);clear hR R)|((with_reducible refine Q0e ?_);intro Ψ hΨ hΨ')|(with_reducible refine Q0a ?_;intro R hR)|(with_reducible refine hΨ _ ?_;clear hΨ hΨ' Ψ)|((with_reducible refine hΨ' _ _ ?_ ?_);(focus(simp;done));clear hΨ hΨ' Ψ)|(with_reducible first|refine Q0h ?_)|((with_reducible apply Q0f);rfl;rfl;all_goals(intro hc;first|(cases hc;done)|(try simp only at hc)))|((with_reducible refine Q0v ?_ ?_);kernel_rfl;(with_reducible refine hR _ ?_);clear hR R)|((first|((with_reducible apply Q2r);rfl));(apply Q7s (al);rfl;rfl;rfl;rfl;exact Tryz.func59);kernel_rfl;rfl;(focus((simp only[go_sem]);(try rfl);done));(simp only[AV.inNL,AV.inN,Q0x,Bool.and_true]);(simp only[AV.inNL,AV.inN,Q0x,Bool.and_true]);(simp only[St.eff,setO,Q0t,go_sem]))|((first|((with_reducible apply evD_rd);rfl));(simp only[rdE,rdOf,go_sem];rfl);(intro τ hA hQ;((try simp only[Q1a,Op.operands,Call.operands,go_sem,List.mem_cons,List.not_mem_nil,forall_eq_or_imp,forall_eq,List.append_toArray,Option.toArray] at hA);(try simp only[go_sem,List.mem_cons,List.not_mem_nil,forall_eq_or_imp,forall_eq] at hQ);(first|(revert hA;intro hA));(first|(revert hQ;intro hQ));simp only[go_sem,hA,hQ];(repeat(refine ndI (by first|assumption) ?_));first|exact Q0z _ _ _));(simp only[St.eff,setO,Q0t,go_sem]))|((first|((with_reducible apply evD_st);rfl));(simp only[rdE,rdOf,go_sem];rfl);(intro τ hA hQ;((try simp only[Q1a,Op.operands,Call.operands,go_sem,List.mem_cons,List.not_mem_nil,forall_eq_or_imp,forall_eq,List.append_toArray,Option.toArray] at hA);(try simp only[go_sem,List.mem_cons,List.not_mem_nil,forall_eq_or_imp,forall_eq] at hQ);(first|(revert hA;intro hA));(first|(revert hQ;intro hQ));simp only[go_sem,hA,hQ];(repeat(refine ndI (by first|assumption) ?_));first|exact Q2g _ _ _));(simp only[St.eff,setO,Q0t,go_sem]))|((first|((with_reducible apply Q2r);rfl));apply Q4s;rfl;rfl;(focus(simp only[go_sem];try rfl));(focus(simp only[go_sem];try rfl));rfl;(first|omega);(first|omega);(first|omega);(simp only[go_sem];rfl);rfl;(focus((simp only[unC,Option.map_some]);(try rfl)));(simp only[St.eff,setO,Q0t,go_sem]))|((first|((with_reducible apply Q4g);rfl;rfl;rfl));(intro τ hA hQ hN;((try simp only[Q1a,Op.operands,Call.operands,go_sem,List.mem_cons,List.not_mem_nil,forall_eq_or_imp,forall_eq,List.append_toArray,Option.toArray] at hA);(try simp only[go_sem,List.mem_cons,List.not_mem_nil,forall_eq_or_imp,forall_eq] at hQ);(first|(revert hA;intro hA));(first|(revert hQ;intro hQ));simp only[go_sem,hA,hQ,hN];(repeat(refine ndI (by first|assumption) ?_));exact Q5y _ _ _ _));(simp only[St.eff,setO,Q0t,go_sem]))|((with_reducible refine Q0q ?_ ?_ ?_ ?_);kernel_rfl;kernel_rfl;(first|kernel_rfl);intro R hR))))
   all_goals(refine⟨by simp,⟨_,?_,AV.le_refl _⟩,Q0g (by simp[leH,hget])⟩;simp only[Tryz.results96,resL,ldA,Q0o,go_sem])
 · rw[if_neg h1]
   rw[decide_eq_false h1] at al
   generalize isA l a=q1 at pl
   generalize decide (n=0)=q2 at nn
   have e24:((l.length:Int)==24)=decide (l.length=24):=by
    rw[Bool.eq_iff_iff];simp only[beq_iff_eq,decide_eq_true_eq];omega
   generalize decide (l.length=24)=q3 at e24
   generalize posA l a=pz at pl
   cases q1<;>cases q2<;>cases q3
   all_goals(refine Q0n Tryz.func96 rfl (by rfl) ?_;simp only[Tryz.ntmps96,List.length_cons,List.length_nil,Nat.reduceAdd,Nat.reduceSub,List.replicate,List.cons_append,List.nil_append])
   all_goals(repeat(any_goals(first|((with_reducible refine Q0c ?_ ?_);rfl;intro K hK;simp only[go_sem,e24];((repeat(refine ndI (by first|assumption) ?_));refine hK _ ?_;clear hK K))|(with_reducible (refine Q0d ?_;refine hR _ ?_);clear hR R)|((with_reducible refine Q0e ?_);intro Ψ hΨ hΨ')|(with_reducible refine Q0a ?_;intro R hR)|(with_reducible refine hΨ _ ?_;clear hΨ hΨ' Ψ)|((with_reducible refine hΨ' _ _ ?_ ?_);(focus(simp;done));clear hΨ hΨ' Ψ)|(with_reducible first|refine Q0j ?_|refine Q0h ?_)|((with_reducible apply Q0s);rfl;rfl;rfl;all_goals(intro hb;first|(cases hb;done)|((try simp only[Bool.not_true,Bool.not_false] at hb);(with_reducible intro K hK);(first|(simp only[go_sem,e24];((repeat(refine ndI (by first|assumption) ?_));refine hK _ ?_;clear hK K))|((apply X0r (nn);rfl;rfl;rfl;rfl;exact Tryz.func86);kernel_rfl;rfl;(focus((simp only[go_sem,e24]);(try rfl);done));(simp only[AV.inNL,AV.inN,Q0x,Bool.and_true]);(simp only[AV.inNL,AV.inN,Q0x,Bool.and_true]);(simp only[go_sem,e24];(with_reducible refine hK _ ?_);clear hK K))))|((fail_if_success (with_reducible intro _));(try simp only[Bool.not_true,Bool.not_false] at hb);simp only[go_sem,e24])))|((with_reducible apply Q0f);rfl;rfl;all_goals(intro hc;first|(cases hc;done)|(try simp only at hc)))|((with_reducible refine Q0v ?_ ?_);kernel_rfl;(with_reducible refine hR _ ?_);clear hR R)|((first|((with_reducible apply Q2r);rfl));(first|(apply Q7s (al);rfl;rfl;rfl;rfl;exact Tryz.func59)|(apply Q7s (pl);rfl;rfl;rfl;rfl;exact Tryz.func103));kernel_rfl;rfl;(focus((simp only[go_sem,e24]);(try rfl);done));(simp only[AV.inNL,AV.inN,Q0x,Bool.and_true]);(simp only[AV.inNL,AV.inN,Q0x,Bool.and_true]);(simp only[St.eff,setO,Q0t,go_sem,e24]))|((first|((with_reducible apply evD_rd);rfl));(simp only[rdE,rdOf,go_sem,e24];rfl);(intro τ hA hQ;((try simp only[Q1a,Op.operands,Call.operands,go_sem,e24,go_sem,List.mem_cons,List.not_mem_nil,forall_eq_or_imp,forall_eq,List.append_toArray,Option.toArray] at hA);(try simp only[go_sem,e24,List.mem_cons,List.not_mem_nil,forall_eq_or_imp,forall_eq] at hQ);(first|(revert hA;intro hA));(first|(revert hQ;intro hQ));simp only[go_sem,e24,go_sem,hA,hQ];(repeat(refine ndI (by first|assumption) ?_));first|exact Q0z _ _ _));(simp only[St.eff,setO,Q0t,go_sem,e24]))|((first|((with_reducible apply evD_st);rfl));(simp only[rdE,rdOf,go_sem,e24];rfl);(intro τ hA hQ;((try simp only[Q1a,Op.operands,Call.operands,go_sem,e24,go_sem,List.mem_cons,List.not_mem_nil,forall_eq_or_imp,forall_eq,List.append_toArray,Option.toArray] at hA);(try simp only[go_sem,e24,List.mem_cons,List.not_mem_nil,forall_eq_or_imp,forall_eq] at hQ);(first|(revert hA;intro hA));(first|(revert hQ;intro hQ));simp only[go_sem,e24,go_sem,hA,hQ];(repeat(refine ndI (by first|assumption) ?_));first|exact Q2g _ _ _));(simp only[St.eff,setO,Q0t,go_sem,e24]))|((first|((with_reducible apply Q2r);rfl));apply Q4s;rfl;rfl;(focus(simp only[go_sem];try rfl));(focus(simp only[go_sem];try rfl));rfl;(first|omega);(first|omega);(first|omega);(simp only[go_sem,e24];rfl);rfl;(focus((simp only[unC,Option.map_some]);(try rfl)));(simp only[St.eff,setO,Q0t,go_sem,e24]))|((first|((with_reducible apply Q4g);rfl;rfl;rfl));(intro τ hA hQ hN;((try simp only[Q1a,Op.operands,Call.operands,go_sem,e24,go_sem,List.mem_cons,List.not_mem_nil,forall_eq_or_imp,forall_eq,List.append_toArray,Option.toArray] at hA);(try simp only[go_sem,e24,List.mem_cons,List.not_mem_nil,forall_eq_or_imp,forall_eq] at hQ);(first|(revert hA;intro hA));(first|(revert hQ;intro hQ));simp only[go_sem,e24,go_sem,hA,hQ,hN];(repeat(refine ndI (by first|assumption) ?_));exact Q5y _ _ _ _));(simp only[St.eff,setO,Q0t,go_sem,e24]))|((with_reducible refine Q0q ?_ ?_ ?_ ?_);kernel_rfl;kernel_rfl;(first|kernel_rfl);intro R hR))))
   all_goals(refine⟨by simp,⟨_,?_,AV.le_refl _⟩,Q0g (by simp[leH,hget])⟩;simp only[Tryz.results96,resL,ldA,Q0o,go_sem])
   all_goals rfl
theorem X8n(l m:List Hd):rcH (l++m)=rcH l++rcH m:=by simp[rcH]
theorem rcH_take(l:List Hd)(i:Nat)(R:List AV)(h:i≤l.length):List.take (i*11) (rcH l++R)=rcH (l.take i):=by
 rw[List.take_append_of_le_length (by rw[Q3j];omega)]
 simp only[rcH,←List.map_take,Q2u hd_len]
theorem rcH_drop(l:List Hd)(i:Nat)(R:List AV)(h:i≤l.length):List.drop (i*11) (rcH l++R)=rcH (l.drop i)++R:=by
 rw[List.drop_append_of_le_length (by rw[Q3j];omega)]
 simp only[rcH,←List.map_drop,Q3v hd_len]
theorem deleteH_c(l:List Hd)(i c:Nat)(hi:i<l.length)(hc:l.length≤c)(hc2:c≤maxLen)(hl:l.length≤1000000):∃Y,Fn Tryz.prog 110 [.cut 1000 70 11 0 l.length c true,vi .i64 i,vi .i64 (i+1:Nat)] [(1000,rcH l++List.replicate ((c-l.length)*11) .any)] (.row 1000 70 11 (l.length-1)) [(1000,rcH (l.take i++l.drop (i+1))++Y)]:=by
 have e1:=Q3j l
 have e2:((i:Int)==((i+1:Nat):Int))=false:=by simp;omega
 unfold maxLen at hc2
 have hA:=rcH_take l i (List.replicate ((c-l.length)*11) .any) (by omega)
 have hB:List.take ((l.length-(i+1))*11) (List.drop ((i+1)*11) (rcH l++List.replicate ((c-l.length)*11) .any))=rcH (l.drop (i+1)):=by
  rw[rcH_drop l (i+1) _ hi]
  rw[List.take_append_of_le_length (by rw[Q3j,List.length_drop];omega),List.take_of_length_le (by rw[Q3j,List.length_drop];omega)]
 refine⟨Q7k [.int .u64 0,.int .u64 0,.int .u64 0,.int .u64 0,.int .u64 0,.int .u64 0,.int .u64 0,.int .u64 0,.int .u64 0,.int .u64 0,.int .u64 0] (l.length-(i+(l.length-(i+1))))++List.drop ((i+(l.length-(i+1)))*11+(Q7k [.int .u64 0,.int .u64 0,.int .u64 0,.int .u64 0,.int .u64 0,.int .u64 0,.int .u64 0,.int .u64 0,.int .u64 0,.int .u64 0,.int .u64 0] (l.length-(i+(l.length-(i+1))))).length) (List.take (i*11) (rcH l++List.replicate ((c-l.length)*11) .any)++List.take ((l.length-(i+1))*11) (List.drop ((i+1)*11) (rcH l++List.replicate ((c-l.length)*11) .any))++List.drop (i*11+(List.take ((l.length-(i+1))*11) (List.drop ((i+1)*11) (rcH l++List.replicate ((c-l.length)*11) .any))).length) (rcH l++List.replicate ((c-l.length)*11) .any)),?_⟩
 (refine Q0n Tryz.func110 rfl (by rfl) ?_;simp only[Tryz.ntmps110,List.length_cons,List.length_nil,Nat.reduceAdd,Nat.reduceSub,List.replicate,List.cons_append,List.nil_append])
 (have W:=ndI e1 (ndI e2 @wrI);(repeat(any_goals(first|((with_reducible refine Q0c ?_ ?_);rfl;intro K hK;simp(disch:=omega) only[go_sem,W];((repeat(refine ndI (by first|assumption|rfl) ?_));refine hK _ ?_;clear hK K))|((with_reducible refine Q0c ?_ ?_);rfl;intro K hK;(try simp(disch:=omega) only[go_sem,W]);(repeat(refine ndI (by first|assumption|rfl) ?_));refine Q2s rfl rfl rfl rfl rfl ?_ rfl rfl rfl rfl ?_ ?_ ?_;(focus(simp only[go_sem];try rfl));(intro h;first|rfl);(first|omega);(simp(disch:=omega) only[go_sem,W];refine hK _ ?_;clear hK K))|((with_reducible refine Q0c ?_ ?_);rfl;intro K hK;(try simp(disch:=omega) only[go_sem,W]);(repeat(refine ndI (by first|assumption) ?_));apply X4w;rfl;rfl;(focus(simp only[go_sem];try rfl));(first|omega);(simp(disch:=omega) only[go_sem,Option.bind_some];rfl);rfl;rfl;rfl;rfl;(first|(simp(disch:=omega) only[go_sem,W,spl,List.length_append,List.length_map,List.length_take,List.length_drop,List.length_replicate];omega));(simp(disch:=omega) only[go_sem,W];refine hK _ ?_;clear hK K))|(with_reducible first|(refine Q0d ?_;refine hR _ ?_;clear hR R)|((first|refine Q0e ?_);intro Ψ hΨ hΨ')|(refine Q0a ?_;intro R hR)|(refine hΨ _ ?_;clear hΨ hΨ' Ψ)|refine Q0j ?_|refine Q0h ?_)|((with_reducible apply Q0f);rfl;rfl;all_goals(intro hc;first|(cases hc;done)|(try simp only at hc)))|((with_reducible refine Q0v ?_ ?_);kernel_rfl;(with_reducible refine hR _ ?_);clear hR R)|((first|((with_reducible apply Q0w);rfl;rfl;(simp(disch:=omega) only[rdE,rdOf,go_sem,W];rfl);(intro τ hA hQ hN;((try simp only[Q1a,Op.operands,Call.operands,go_sem,W,go_sem,List.mem_cons,List.not_mem_nil,forall_eq_or_imp,forall_eq,List.append_toArray,Option.toArray] at hA);(try simp only[go_sem,W,List.mem_cons,List.not_mem_nil,forall_eq_or_imp,forall_eq] at hQ hN);(first|(revert hA;intro hA));(first|(revert hQ;intro hQ));(first|(revert hN;intro hN));simp(disch:=omega) only[go_sem,W,go_sem,hA,hQ,hN];(repeat(refine ndI (by first|assumption|rfl) ?_));(first|apply Q0z))))|((first|((with_reducible apply Q2r);rfl));apply Q3h;rfl;rfl;rfl;rfl;rfl;(focus(simp only[go_sem];try rfl));rfl;rfl;rfl;rfl;(intro h;first|rfl|cases h);(first|omega))|((first|((with_reducible apply Q2r);rfl));apply Q7t;rfl;rfl;rfl;(focus(simp only[go_sem];try rfl));(first|omega);rfl;rfl;rfl;rfl;rfl;(first|(simp(disch:=omega) only[go_sem,W,spl,List.length_append,List.length_map,List.length_take,List.length_drop,List.length_replicate];omega));(first|omega);(first|(simp(disch:=omega) only[go_sem,W,spl,List.length_append,List.length_map,List.length_take,List.length_drop,List.length_replicate];omega));rfl));(simp(disch:=omega) only[St.eff,setO,Q0t,go_sem,W]))|((with_reducible refine Q0q ?_ ?_ ?_ ?_);kernel_rfl;kernel_rfl;(simp[Q1n,Q5f,St.free,Q2i,AV.refsL,AV.refs,Q3k]);intro R hR)))))
 refine⟨by simp,⟨_,rfl,?_⟩,Q0g ⟨?_,trivial⟩⟩
 · rw[show i+(l.length-(i+1))=l.length-1 by omega]
   exact AV.le_cut _ _ _ _ _
 · simp only[Q1g,if_true,Option.some.injEq]
   rw[hA,hB,List.take_append_of_le_length (by simp only[List.length_append,Q3j,List.length_take,List.length_drop];omega),List.take_of_length_le (by simp only[List.length_append,Q3j,List.length_take,List.length_drop];omega),←X8n,List.append_assoc]
   try rfl
theorem X9b(l:List Hd)(i:Nat)(hi:i<l.length)(hl:l.length≤1000000):Fn Tryz.prog 110 [.row 1000 70 11 l.length,vi .i64 i,vi .i64 (i+1:Nat)] [(1000,rcH l)] (.row 1000 70 11 (l.length-1)) [(1000,rcH (l.take i++l.drop (i+1)))]:=by
 refine Fn.cut0x (Q3j l) fun c h1 h2=>?_
 obtain⟨Y,hY⟩:=deleteH_c l i c hi h1 h2 hl
 refine hY.weaken (AV.le_refl _) ?_
 exact leHp (ds:=Y) (by simp[Q1g])
end Go.Proofs.YtbmcdemnnbndeaaGreatDoor.lg
