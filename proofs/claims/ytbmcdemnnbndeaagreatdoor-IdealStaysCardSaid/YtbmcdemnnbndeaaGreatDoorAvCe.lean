/-
  A block's cells told with less. No program in sight.
-/
import Derived.Test.YtbmcdemnnbndeaaGreatDoorLf
import Derived.Test.YtbmcdemnnbndeaaGreatDoorRows
import Derived.Test.YtbmcdemnnbndeaaGreatDoorAvF
import Derived.ProofKit
import Derived.OpenShut
import Derived.ChangeOld
import Derived.Deep.Slices
import Derived.Test.YtbmcdemnnbndeaaGreatDoorAvW
import Derived.Test.YtbmcdemnnbndeaaGreatDoorLb
namespace Go.Proofs.YtbmcdemnnbndeaaGreatDoor
set_option linter.unusedSimpArgs false
set_option linter.unusedVariables false
namespace lg
open Go.RowKit
open Nat (reduceBEq)
set_option maxRecDepth 20000
set_option maxHeartbeats 2000000
def remL(l:List Hd)(a:Int):List Hd:=if isA l a=true then l.take (posA l a)++l.drop (posA l a+1) else l
def putL(l:List Hd)(h:Hd):List Hd:=if (decide (h.p=0)&&decide (h.s=0))=true then remL l h.a else(remL l h.a).take (posA l h.a)++h::(remL l h.a).drop (posA l h.a)
theorem isA_lt{l:List Hd}{a:Int}(h:isA l a=true):posA l a<l.length:=by
 unfold isA at h
 cases hy:l[posA l a]? with
 |none=>rw[hy] at h;cases h
 |some y=>exact(List.getElem?_eq_some_iff.1 hy).1
theorem X5e(l:List Hd)(a:Int)(p s:Nat)(d f:Int)(i:Nat)(hi:i≤l.length)(hl:l.length≤1000000):Fn Tryz.prog 111 [.row 1000 70 11 l.length,vi .i64 i,.row 1001 70 11 1] [(1000,rcH l),(1001,c11 a p s d f)] (.row 1 70 11 (l.length+1)) [(1,rcH (l.take i++⟨a,p,s,d,f⟩::l.drop i))]:=X8z l ⟨a,p,s,d,f⟩ i hi hl
theorem back_fn(ex:Bool)(l:List Hd)(hl:l.length≤400)(a:Int)(p s:Nat)(d f:Int)(hp:p<WW)(hs:s<WW):Fn Tryz.prog 106 [.ptr 1005 0] [(1005,tl a p s d f (hsl ex l))] (.agg [.row 44 70 11 (putL l ⟨a,p,s,d,f⟩).length]) [(44,rcH (putL l ⟨a,p,s,d,f⟩))]:=by
 have cl:=cloneH_fn ex l (by omega)
 have pl:=Q7o ex l (by omega) a
 have em:=Q7a a p s d f hp hs
 have hle:=X6e l a
 have e1:=Q3j l
 cases h1:isA l a with
 |true=>
  have hlt:=isA_lt h1
  rw[h1] at pl
  have hR:remL l a=l.take (posA l a)++l.drop (posA l a+1):=by unfold remL;rw[if_pos h1]
  have de:=X9b l (posA l a) hlt (by omega)
  have hlen:(l.take (posA l a)++l.drop (posA l a+1)).length=l.length-1:=by simp;omega
  cases h2:(decide (p=0)&&decide (s=0)) with
  |true=>
   have hP:putL l ⟨a,p,s,d,f⟩=l.take (posA l a)++l.drop (posA l a+1):=by unfold putL;dsimp only;rw[if_pos h2,hR]
   rw[hP]
   rw[←hlen] at de
   rw[h2] at em
   generalize l.take (posA l a)++l.drop (posA l a+1)=r at de
   have e2:=Q3j r
   generalize posA l a=i at pl de hlt
   have k7:(i:Int)+1=((i+1:Nat):Int):=by omega
   refine Fn.rename (fun r=>if r=44 then 11 else r) ?_ (by simp) (by simp)
   simp only[AV.ren,AV.renL,renH,Q0p,if_true]
   (refine Q0n Tryz.func106 rfl (by rfl) ?_;simp only[Tryz.ntmps106,List.length_cons,List.length_nil,Nat.reduceAdd,Nat.reduceSub,List.replicate,List.cons_append,List.nil_append])
   (have W:=ndI e1 (ndI e2 (ndI k7 (ndI @wrI @Q0m)));(repeat(any_goals(first|((with_reducible refine Q0i ?_ ?_ ?_);rfl;rfl;intro K hK;(first|((apply Q0b (em);rfl;rfl;rfl;rfl;exact Tryz.func85);kernel_rfl;rfl;(focus((simp(disch:=omega) only[go_sem,W]);(try rfl);done));(first|rfl))|(apply Q0y (cl) (fun r=>11);rfl;rfl;rfl;rfl;exact Tryz.func19;kernel_rfl;rfl;rfl;(intro r hr q hq h;simp(disch:=omega) only[List.map_cons,List.map_nil,List.cons_append,List.nil_append,List.mem_cons,List.not_mem_nil,or_false] at hr hq;(try dsimp only at h);first|omega);(simp(disch:=omega) only[Q1e,Q1y,AV.ren,AV.renL,Q0p,List.mem_cons,List.not_mem_nil,forall_eq_or_imp,forall_eq,Q1v,List.contains_cons,List.contains_nil,AV.refsL,AV.refs,Q0m,AV.inN,AV.inNL,inH,Q0x,go_sem,W]))|(apply Q0y (de) (fun r=>11);rfl;rfl;rfl;rfl;exact Tryz.func110;kernel_rfl;rfl;rfl;(intro r hr q hq h;simp(disch:=omega) only[List.map_cons,List.map_nil,List.cons_append,List.nil_append,List.mem_cons,List.not_mem_nil,or_false] at hr hq;(try dsimp only at h);first|omega);(simp(disch:=omega) only[Q1e,Q1y,AV.ren,AV.renL,Q0p,List.mem_cons,List.not_mem_nil,forall_eq_or_imp,forall_eq,Q1v,List.contains_cons,List.contains_nil,AV.refsL,AV.refs,Q0m,AV.inN,AV.inNL,inH,Q0x,go_sem,W])));(simp(disch:=omega) only[Q0t,Q1w,renH,AV.ren,AV.renL,Q0p,go_sem,W];refine hK _ ?_;clear hK K))|((with_reducible refine Q0c ?_ ?_);rfl;intro K hK;simp(disch:=omega) only[go_sem,W];((repeat(refine ndI (by first|assumption|rfl) ?_));refine hK _ ?_;clear hK K))|(with_reducible first|(refine Q0d ?_;refine hR _ ?_;clear hR R)|((first|refine Q0e ?_);intro Ψ hΨ hΨ')|(refine Q0a ?_;intro R hR)|(refine hΨ _ ?_;clear hΨ hΨ' Ψ)|refine Q0j ?_|refine Q0h ?_)|((with_reducible apply Q0f);rfl;rfl;all_goals(intro hc;first|(cases hc;done)|(try simp only at hc)))|((with_reducible refine Q0v ?_ ?_);kernel_rfl;(with_reducible refine hR _ ?_);clear hR R)|((first|((with_reducible apply Q1c);rfl;rfl;((apply Q0r (pl);rfl;rfl;rfl;rfl;exact Tryz.func103);kernel_rfl;rfl;(focus((simp(disch:=omega) only[go_sem,W]);(try rfl);done));(first|rfl)))|((with_reducible apply Q0w);rfl;rfl;(simp(disch:=omega) only[rdE,rdOf,go_sem,W];rfl);(intro τ hA hQ hN;((try simp only[Q1a,Op.operands,Call.operands,go_sem,W,go_sem,List.mem_cons,List.not_mem_nil,forall_eq_or_imp,forall_eq,List.append_toArray,Option.toArray] at hA);(try simp only[go_sem,W,List.mem_cons,List.not_mem_nil,forall_eq_or_imp,forall_eq] at hQ hN);(first|(revert hA;intro hA));(first|(revert hQ;intro hQ));(first|(revert hN;intro hN));simp(disch:=omega) only[go_sem,W,go_sem,hA,hQ,hN];(repeat(refine ndI (by first|assumption|rfl) ?_));(first|apply Q0z)))));(simp(disch:=omega) only[St.eff,setO,Q0t,go_sem,W]))|((with_reducible refine Q0q ?_ ?_ ?_ ?_);kernel_rfl;kernel_rfl;(simp[Q1n,Q5f,St.free,Q2i,AV.refsL,AV.refs,Q3k]);intro R hR)))))
   all_goals(refine⟨by simp,⟨_,?_,AV.le_refl _⟩,Q0g (by simp[leH,hget])⟩;simp only[Tryz.results106,resL,ldA,Q0o,go_sem])
  |false=>
   have hP:putL l ⟨a,p,s,d,f⟩=(l.take (posA l a)++l.drop (posA l a+1)).take (posA l a)++⟨a,p,s,d,f⟩::(l.take (posA l a)++l.drop (posA l a+1)).drop (posA l a):=by
    unfold putL;dsimp only;rw[if_neg (by rw[h2];decide),hR]
   have ins:=X5e (l.take (posA l a)++l.drop (posA l a+1)) a p s d f (posA l a) (by omega) (by omega)
   have hlen2:((l.take (posA l a)++l.drop (posA l a+1)).take (posA l a)++(⟨a,p,s,d,f⟩:Hd)::(l.take (posA l a)++l.drop (posA l a+1)).drop (posA l a)).length=(l.take (posA l a)++l.drop (posA l a+1)).length+1:=by
    simp;omega
   rw[hP,hlen2]
   rw[←hlen] at de
   rw[h2] at em
   generalize l.take (posA l a)++l.drop (posA l a+1)=r at de ins
   generalize r.take (posA l a)++(⟨a,p,s,d,f⟩:Hd)::r.drop (posA l a)=t at ins
   have e2:=Q3j r
   generalize posA l a=i at pl de ins hlt
   have k7:(i:Int)+1=((i+1:Nat):Int):=by omega
   (refine Q0n Tryz.func106 rfl (by rfl) ?_;simp only[Tryz.ntmps106,List.length_cons,List.length_nil,Nat.reduceAdd,Nat.reduceSub,List.replicate,List.cons_append,List.nil_append])
   (have W:=ndI e1 (ndI e2 (ndI k7 (ndI @wrI @Q0m)));(repeat(any_goals(first|((with_reducible refine Q0i ?_ ?_ ?_);rfl;rfl;intro K hK;(first|((apply Q0b (em);rfl;rfl;rfl;rfl;exact Tryz.func85);kernel_rfl;rfl;(focus((simp(disch:=omega) only[go_sem,W]);(try rfl);done));(first|rfl))|(apply Q0y (cl) (fun r=>11);rfl;rfl;rfl;rfl;exact Tryz.func19;kernel_rfl;rfl;rfl;(intro r hr q hq h;simp(disch:=omega) only[List.map_cons,List.map_nil,List.cons_append,List.nil_append,List.mem_cons,List.not_mem_nil,or_false] at hr hq;(try dsimp only at h);first|omega);(simp(disch:=omega) only[Q1e,Q1y,AV.ren,AV.renL,Q0p,List.mem_cons,List.not_mem_nil,forall_eq_or_imp,forall_eq,Q1v,List.contains_cons,List.contains_nil,AV.refsL,AV.refs,Q0m,AV.inN,AV.inNL,inH,Q0x,go_sem,W]))|(apply Q0y (de) (fun r=>11);rfl;rfl;rfl;rfl;exact Tryz.func110;kernel_rfl;rfl;rfl;(intro r hr q hq h;simp(disch:=omega) only[List.map_cons,List.map_nil,List.cons_append,List.nil_append,List.mem_cons,List.not_mem_nil,or_false] at hr hq;(try dsimp only at h);first|omega);(simp(disch:=omega) only[Q1e,Q1y,AV.ren,AV.renL,Q0p,List.mem_cons,List.not_mem_nil,forall_eq_or_imp,forall_eq,Q1v,List.contains_cons,List.contains_nil,AV.refsL,AV.refs,Q0m,AV.inN,AV.inNL,inH,Q0x,go_sem,W]))|(apply Q0y (ins) (fun r=>if r=1000 then 11 else if r=1001 then 43 else 44);rfl;rfl;rfl;rfl;exact Tryz.func111;kernel_rfl;rfl;rfl;(intro r hr q hq h;simp(disch:=omega) only[List.map_cons,List.map_nil,List.cons_append,List.nil_append,List.mem_cons,List.not_mem_nil,or_false] at hr hq;(try dsimp only at h);first|(rcases hr with rfl|rfl|rfl<;>rcases hq with rfl|rfl|rfl<;>simp at h ⊢));(simp(disch:=omega) only[Q1e,Q1y,AV.ren,AV.renL,Q0p,List.mem_cons,List.not_mem_nil,forall_eq_or_imp,forall_eq,Q1v,List.contains_cons,List.contains_nil,AV.refsL,AV.refs,Q0m,AV.inN,AV.inNL,inH,Q0x,go_sem,W])));(simp(disch:=omega) only[Q0t,Q1w,renH,AV.ren,AV.renL,Q0p,go_sem,W];refine hK _ ?_;clear hK K))|((with_reducible refine Q0c ?_ ?_);rfl;intro K hK;simp(disch:=omega) only[go_sem,W];((repeat(refine ndI (by first|assumption|rfl) ?_));refine hK _ ?_;clear hK K))|(with_reducible first|(refine Q0d ?_;refine hR _ ?_;clear hR R)|((first|refine Q0e ?_);intro Ψ hΨ hΨ')|(refine Q0a ?_;intro R hR)|(refine hΨ _ ?_;clear hΨ hΨ' Ψ)|refine Q0h ?_)|((with_reducible apply Q0f);rfl;rfl;all_goals(intro hc;first|(cases hc;done)|(try simp only at hc)))|((with_reducible refine Q0v ?_ ?_);kernel_rfl;(with_reducible refine hR _ ?_);clear hR R)|((first|((with_reducible apply Q1c);rfl;rfl;((apply Q0r (pl);rfl;rfl;rfl;rfl;exact Tryz.func103);kernel_rfl;rfl;(focus((simp(disch:=omega) only[go_sem,W]);(try rfl);done));(first|rfl)))|((with_reducible apply Q0w);rfl;rfl;(simp(disch:=omega) only[rdE,rdOf,go_sem,W];rfl);(intro τ hA hQ hN;((try simp only[Q1a,Op.operands,Call.operands,go_sem,W,go_sem,List.mem_cons,List.not_mem_nil,forall_eq_or_imp,forall_eq,List.append_toArray,Option.toArray] at hA);(try simp only[go_sem,W,List.mem_cons,List.not_mem_nil,forall_eq_or_imp,forall_eq] at hQ hN);(first|(revert hA;intro hA));(first|(revert hQ;intro hQ));(first|(revert hN;intro hN));simp(disch:=omega) only[go_sem,W,go_sem,hA,hQ,hN];(repeat(refine ndI (by first|assumption|rfl) ?_));(first|apply Q0z)))));(simp(disch:=omega) only[St.eff,setO,Q0t,go_sem,W]))|((with_reducible refine Q0q ?_ ?_ ?_ ?_);kernel_rfl;kernel_rfl;(simp[Q1n,Q5f,St.free,Q2i,AV.refsL,AV.refs,Q3k]);intro R hR)))))
   all_goals(refine⟨by simp,⟨_,?_,AV.le_refl _⟩,Q0g (by simp[leH,hget])⟩;simp only[Tryz.results106,resL,ldA,Q0o,go_sem])
 |false=>
  rw[h1] at pl
  have hR:remL l a=l:=by unfold remL;rw[if_neg (by rw[h1];decide)]
  cases h2:(decide (p=0)&&decide (s=0)) with
  |true=>
   have hP:putL l ⟨a,p,s,d,f⟩=l:=by unfold putL;dsimp only;rw[if_pos h2,hR]
   rw[hP]
   rw[h2] at em
   generalize posA l a=i at pl
   refine Fn.rename (fun r=>if r=44 then 11 else r) ?_ (by simp) (by simp)
   simp only[AV.ren,AV.renL,renH,Q0p,if_true]
   (refine Q0n Tryz.func106 rfl (by rfl) ?_;simp only[Tryz.ntmps106,List.length_cons,List.length_nil,Nat.reduceAdd,Nat.reduceSub,List.replicate,List.cons_append,List.nil_append])
   (have W:=ndI e1 (ndI @wrI @Q0m);(repeat(any_goals(first|((with_reducible refine Q0i ?_ ?_ ?_);rfl;rfl;intro K hK;(first|((apply Q0b (em);rfl;rfl;rfl;rfl;exact Tryz.func85);kernel_rfl;rfl;(focus((simp(disch:=omega) only[go_sem,W]);(try rfl);done));(first|rfl))|(apply Q0y (cl) (fun r=>11);rfl;rfl;rfl;rfl;exact Tryz.func19;kernel_rfl;rfl;rfl;(intro r hr q hq h;simp(disch:=omega) only[List.map_cons,List.map_nil,List.cons_append,List.nil_append,List.mem_cons,List.not_mem_nil,or_false] at hr hq;(try dsimp only at h);first|omega);(simp(disch:=omega) only[Q1e,Q1y,AV.ren,AV.renL,Q0p,List.mem_cons,List.not_mem_nil,forall_eq_or_imp,forall_eq,Q1v,List.contains_cons,List.contains_nil,AV.refsL,AV.refs,Q0m,AV.inN,AV.inNL,inH,Q0x,go_sem,W])));(simp(disch:=omega) only[Q0t,Q1w,renH,AV.ren,AV.renL,Q0p,go_sem,W];refine hK _ ?_;clear hK K))|((with_reducible refine Q0c ?_ ?_);rfl;intro K hK;simp(disch:=omega) only[go_sem,W];((repeat(refine ndI (by first|assumption|rfl) ?_));refine hK _ ?_;clear hK K))|(with_reducible first|(refine Q0d ?_;refine hR _ ?_;clear hR R)|((first|refine Q0e ?_);intro Ψ hΨ hΨ')|(refine Q0a ?_;intro R hR)|(refine hΨ _ ?_;clear hΨ hΨ' Ψ)|refine Q0j ?_|refine Q0h ?_)|((with_reducible apply Q0f);rfl;rfl;all_goals(intro hc;first|(cases hc;done)|(try simp only at hc)))|((with_reducible refine Q0v ?_ ?_);kernel_rfl;(with_reducible refine hR _ ?_);clear hR R)|((first|((with_reducible apply Q1c);rfl;rfl;((apply Q0r (pl);rfl;rfl;rfl;rfl;exact Tryz.func103);kernel_rfl;rfl;(focus((simp(disch:=omega) only[go_sem,W]);(try rfl);done));(first|rfl)))|((with_reducible apply Q0w);rfl;rfl;(simp(disch:=omega) only[rdE,rdOf,go_sem,W];rfl);(intro τ hA hQ hN;((try simp only[Q1a,Op.operands,Call.operands,go_sem,W,go_sem,List.mem_cons,List.not_mem_nil,forall_eq_or_imp,forall_eq,List.append_toArray,Option.toArray] at hA);(try simp only[go_sem,W,List.mem_cons,List.not_mem_nil,forall_eq_or_imp,forall_eq] at hQ hN);(first|(revert hA;intro hA));(first|(revert hQ;intro hQ));(first|(revert hN;intro hN));simp(disch:=omega) only[go_sem,W,go_sem,hA,hQ,hN];(repeat(refine ndI (by first|assumption|rfl) ?_));(first|apply Q0z)))));(simp(disch:=omega) only[St.eff,setO,Q0t,go_sem,W]))|((with_reducible refine Q0q ?_ ?_ ?_ ?_);kernel_rfl;kernel_rfl;(simp[Q1n,Q5f,St.free,Q2i,AV.refsL,AV.refs,Q3k]);intro R hR)))))
   all_goals(refine⟨by simp,⟨_,?_,AV.le_refl _⟩,Q0g (by simp[leH,hget])⟩;simp only[Tryz.results106,resL,ldA,Q0o,go_sem])
  |false=>
   have hP:putL l ⟨a,p,s,d,f⟩=l.take (posA l a)++⟨a,p,s,d,f⟩::l.drop (posA l a):=by
    unfold putL;dsimp only;rw[if_neg (by rw[h2];decide),hR]
   have ins:=X5e l a p s d f (posA l a) hle (by omega)
   have hlen2:(l.take (posA l a)++(⟨a,p,s,d,f⟩:Hd)::l.drop (posA l a)).length=l.length+1:=by
    simp;omega
   rw[hP,hlen2]
   rw[h2] at em
   generalize l.take (posA l a)++(⟨a,p,s,d,f⟩:Hd)::l.drop (posA l a)=t at ins
   generalize posA l a=i at pl ins hle
   (refine Q0n Tryz.func106 rfl (by rfl) ?_;simp only[Tryz.ntmps106,List.length_cons,List.length_nil,Nat.reduceAdd,Nat.reduceSub,List.replicate,List.cons_append,List.nil_append])
   (have W:=ndI e1 (ndI @wrI @Q0m);(repeat(any_goals(first|((with_reducible refine Q0i ?_ ?_ ?_);rfl;rfl;intro K hK;(first|((apply Q0b (em);rfl;rfl;rfl;rfl;exact Tryz.func85);kernel_rfl;rfl;(focus((simp(disch:=omega) only[go_sem,W]);(try rfl);done));(first|rfl))|(apply Q0y (cl) (fun r=>11);rfl;rfl;rfl;rfl;exact Tryz.func19;kernel_rfl;rfl;rfl;(intro r hr q hq h;simp(disch:=omega) only[List.map_cons,List.map_nil,List.cons_append,List.nil_append,List.mem_cons,List.not_mem_nil,or_false] at hr hq;(try dsimp only at h);first|omega);(simp(disch:=omega) only[Q1e,Q1y,AV.ren,AV.renL,Q0p,List.mem_cons,List.not_mem_nil,forall_eq_or_imp,forall_eq,Q1v,List.contains_cons,List.contains_nil,AV.refsL,AV.refs,Q0m,AV.inN,AV.inNL,inH,Q0x,go_sem,W]))|(apply Q0y (ins) (fun r=>if r=1000 then 11 else if r=1001 then 43 else 44);rfl;rfl;rfl;rfl;exact Tryz.func111;kernel_rfl;rfl;rfl;(intro r hr q hq h;simp(disch:=omega) only[List.map_cons,List.map_nil,List.cons_append,List.nil_append,List.mem_cons,List.not_mem_nil,or_false] at hr hq;(try dsimp only at h);first|(rcases hr with rfl|rfl|rfl<;>rcases hq with rfl|rfl|rfl<;>simp at h ⊢));(simp(disch:=omega) only[Q1e,Q1y,AV.ren,AV.renL,Q0p,List.mem_cons,List.not_mem_nil,forall_eq_or_imp,forall_eq,Q1v,List.contains_cons,List.contains_nil,AV.refsL,AV.refs,Q0m,AV.inN,AV.inNL,inH,Q0x,go_sem,W])));(simp(disch:=omega) only[Q0t,Q1w,renH,AV.ren,AV.renL,Q0p,go_sem,W];refine hK _ ?_;clear hK K))|((with_reducible refine Q0c ?_ ?_);rfl;intro K hK;simp(disch:=omega) only[go_sem,W];((repeat(refine ndI (by first|assumption|rfl) ?_));refine hK _ ?_;clear hK K))|(with_reducible first|(refine Q0d ?_;refine hR _ ?_;clear hR R)|((first|refine Q0e ?_);intro Ψ hΨ hΨ')|(refine Q0a ?_;intro R hR)|(refine hΨ _ ?_;clear hΨ hΨ' Ψ)|refine Q0j ?_|refine Q0h ?_)|((with_reducible apply Q0f);rfl;rfl;all_goals(intro hc;first|(cases hc;done)|(try simp only at hc)))|((with_reducible refine Q0v ?_ ?_);kernel_rfl;(with_reducible refine hR _ ?_);clear hR R)|((first|((with_reducible apply Q1c);rfl;rfl;((apply Q0r (pl);rfl;rfl;rfl;rfl;exact Tryz.func103);kernel_rfl;rfl;(focus((simp(disch:=omega) only[go_sem,W]);(try rfl);done));(first|rfl)))|((with_reducible apply Q0w);rfl;rfl;(simp(disch:=omega) only[rdE,rdOf,go_sem,W];rfl);(intro τ hA hQ hN;((try simp only[Q1a,Op.operands,Call.operands,go_sem,W,go_sem,List.mem_cons,List.not_mem_nil,forall_eq_or_imp,forall_eq,List.append_toArray,Option.toArray] at hA);(try simp only[go_sem,W,List.mem_cons,List.not_mem_nil,forall_eq_or_imp,forall_eq] at hQ hN);(first|(revert hA;intro hA));(first|(revert hQ;intro hQ));(first|(revert hN;intro hN));simp(disch:=omega) only[go_sem,W,go_sem,hA,hQ,hN];(repeat(refine ndI (by first|assumption|rfl) ?_));(first|apply Q0z)))));(simp(disch:=omega) only[St.eff,setO,Q0t,go_sem,W]))|((with_reducible refine Q0q ?_ ?_ ?_ ?_);kernel_rfl;kernel_rfl;(simp[Q1n,Q5f,St.free,Q2i,AV.refsL,AV.refs,Q3k]);intro R hR)))))
   all_goals(refine⟨by simp,⟨_,?_,AV.le_refl _⟩,Q0g (by simp[leH,hget])⟩;simp only[Tryz.results106,resL,ldA,Q0o,go_sem])
end lg
namespace lg
open Go.RowKit
open Nat (reduceBEq)
set_option maxRecDepth 20000
set_option maxHeartbeats 2000000
abbrev cW(n:Nat):List AV:=[vi .u64 (l0 n),vi .u64 (l1 n),vi .u64 (l2 n),vi .u64 (l3 n)]
theorem dep1_fn(ex:Bool)(l:List Hd)(hl:l.length≤400)(ok:∀h∈l,h.ok)(a:Int)(p s:Nat)(d f:Int)(n:Nat)(hp:p<WW)(hn:n<WW):Fn Tryz.prog 95 [.ptr 1005 0,.ptr 1101 0] [(1005,tl a p s d f (hsl ex l)),(1101,cW n)] (vi .i64 (fitsE l a n)) [(1005,tl a ((p+n)%WW) s d f (hsl ex l)),(1101,cW n)]:=by
 have ad:=X2m p n hp hn
 have ft:=fits_fn ex l hl ok a ((p+n)%WW) s d f n hn
 generalize decide (WW≤p+n)=q at ad
 generalize (p+n)%WW=p' at ad ft
 generalize fitsE l a n=e at ft
 (refine Q0n Tryz.func95 rfl (by rfl) ?_;simp only[Tryz.ntmps95,List.length_cons,List.length_nil,Nat.reduceAdd,Nat.reduceSub,List.replicate,List.cons_append,List.nil_append])
 (repeat(any_goals(first|((with_reducible refine Q0i ?_ ?_ ?_);rfl;rfl;intro K hK;(apply Q0y (ft) (fun r=>r);rfl;rfl;rfl;rfl;exact Tryz.func96;kernel_rfl;rfl;rfl;(intro r hr q hq h;simp only[List.map_cons,List.map_nil,List.cons_append,List.nil_append,List.mem_cons,List.not_mem_nil,or_false] at hr hq;(try dsimp only at h);first|omega);(simp only[Q1e,Q1y,AV.ren,AV.renL,Q0p,List.mem_cons,List.not_mem_nil,forall_eq_or_imp,forall_eq,Q1v,List.contains_cons,List.contains_nil,AV.refsL,AV.refs,Q0m,AV.inN,AV.inNL,inH,Q0x,go_sem]));(simp only[Q0t,Q1w,renH,AV.ren,AV.renL,Q0p,go_sem];refine hK _ ?_;clear hK K))|((with_reducible refine Q0c ?_ ?_);rfl;intro K hK;simp only[go_sem];((repeat(refine ndI (by first|assumption) ?_));refine hK _ ?_;clear hK K))|(with_reducible first|(refine Q0d ?_;refine hR _ ?_;clear hR R)|((first|refine Q0e ?_);intro Ψ hΨ hΨ')|(refine Q0a ?_;intro R hR)|(refine hΨ _ ?_;clear hΨ hΨ' Ψ)|refine Q0h ?_)|((with_reducible refine Q0v ?_ ?_);kernel_rfl;(with_reducible refine hR _ ?_);clear hR R)|((first|((with_reducible apply Q1c);rfl;rfl;((apply Q0r (ad);rfl;rfl;rfl;rfl;exact Tryz.func45);kernel_rfl;rfl;(focus((simp only[go_sem]);(try rfl);done));(first|rfl)))|((with_reducible apply Q0w);rfl;rfl;(simp only[rdE,rdOf,go_sem];rfl);(intro τ hA hQ hN;((try simp only[Q1a,Op.operands,Call.operands,go_sem,List.mem_cons,List.not_mem_nil,forall_eq_or_imp,forall_eq,List.append_toArray,Option.toArray] at hA);(try simp only[go_sem,List.mem_cons,List.not_mem_nil,forall_eq_or_imp,forall_eq] at hQ hN);(first|(revert hA;intro hA));(first|(revert hQ;intro hQ));(first|(revert hN;intro hN));simp only[go_sem,hA,hQ,hN];(repeat(refine ndI (by first|assumption) ?_));(first|apply Q0z|apply Q2g)))));(simp only[St.eff,setO,Q0t,go_sem]))|((with_reducible refine Q0q ?_ ?_ ?_ ?_);kernel_rfl;kernel_rfl;(first|kernel_rfl);intro R hR))))
 all_goals(refine⟨by simp,⟨_,?_,AV.le_refl _⟩,Q0g (by simp[leH,hget])⟩;simp only[Tryz.results95,resL,ldA,Q0o,go_sem])
theorem wdr1_no(ex:Bool)(l:List Hd)(a:Int)(p s:Nat)(d f:Int)(n:Nat)(hp:p<WW)(hn:n<WW)(h:p<n):Fn Tryz.prog 97 [.ptr 1005 0,.ptr 1101 0] [(1005,tl a p s d f (hsl ex l)),(1101,cW n)] (vi .i64 162) [(1005,tl a p s d f (hsl ex l)),(1101,cW n)]:=by
 have ad:=X7e p n hp hn
 rw[decide_eq_true h] at ad
 generalize (p+WW-n)%WW=p' at ad
 (refine Q0n Tryz.func97 rfl (by rfl) ?_;simp only[Tryz.ntmps97,List.length_cons,List.length_nil,Nat.reduceAdd,Nat.reduceSub,List.replicate,List.cons_append,List.nil_append])
 (repeat(any_goals(first|((with_reducible refine Q0c ?_ ?_);rfl;intro K hK;simp only[go_sem];((repeat(refine ndI (by first|assumption) ?_));refine hK _ ?_;clear hK K))|(with_reducible first|(refine Q0d ?_;refine hR _ ?_;clear hR R)|((first|refine Q0e ?_);intro Ψ hΨ hΨ')|(refine Q0a ?_;intro R hR)|(refine hΨ _ ?_;clear hΨ hΨ' Ψ)|refine Q0h ?_)|((with_reducible refine hΨ' _ _ ?_ ?_);(focus(simp;done));clear hΨ hΨ' Ψ)|((with_reducible apply Q0f);rfl;rfl;all_goals(intro hc;first|(cases hc;done)|(try simp only at hc)))|((with_reducible refine Q0v ?_ ?_);kernel_rfl;(with_reducible refine hR _ ?_);clear hR R)|((first|((with_reducible apply Q1c);rfl;rfl;((apply Q0r (ad);rfl;rfl;rfl;rfl;exact Tryz.func52);kernel_rfl;rfl;(focus((simp only[go_sem]);(try rfl);done));(first|rfl)))|((with_reducible apply Q0w);rfl;rfl;(simp only[rdE,rdOf,go_sem];rfl);(intro τ hA hQ hN;((try simp only[Q1a,Op.operands,Call.operands,go_sem,List.mem_cons,List.not_mem_nil,forall_eq_or_imp,forall_eq,List.append_toArray,Option.toArray] at hA);(try simp only[go_sem,List.mem_cons,List.not_mem_nil,forall_eq_or_imp,forall_eq] at hQ hN);(first|(revert hA;intro hA));(first|(revert hQ;intro hQ));(first|(revert hN;intro hN));simp only[go_sem,hA,hQ,hN];(repeat(refine ndI (by first|assumption) ?_));(first|apply Q0z|apply Q2g))))|((first|((with_reducible apply Q4g);rfl;rfl;rfl));(intro τ hA hQ hN;((try simp only[Q1a,Op.operands,Call.operands,go_sem,List.mem_cons,List.not_mem_nil,forall_eq_or_imp,forall_eq,List.append_toArray,Option.toArray] at hA);(try simp only[go_sem,List.mem_cons,List.not_mem_nil,forall_eq_or_imp,forall_eq] at hQ);(first|(revert hA;intro hA));(first|(revert hQ;intro hQ));simp only[go_sem,hA,hQ,hN];(repeat(refine ndI (by first|assumption) ?_));exact Q5y _ _ _ _))));(simp only[St.eff,setO,Q0t,go_sem]))|((with_reducible refine Q0q ?_ ?_ ?_ ?_);kernel_rfl;kernel_rfl;(first|kernel_rfl);intro R hR))))
 all_goals(refine⟨by simp,⟨_,?_,AV.le_refl _⟩,Q0g (by simp[leH,hget])⟩;simp only[Tryz.results97,resL,ldA,Q0o,go_sem])
theorem wdr1_ok(ex:Bool)(l:List Hd)(a:Int)(p s:Nat)(d f:Int)(n:Nat)(hp:p<WW)(hn:n<WW)(h:¬p<n):Fn Tryz.prog 97 [.ptr 1005 0,.ptr 1101 0] [(1005,tl a p s d f (hsl ex l)),(1101,cW n)] (vi .i64 0) [(1005,tl a (p-n) s d f (hsl ex l)),(1101,cW n)]:=by
 have ad:=X7e p n hp hn
 rw[decide_eq_false h,show(p+WW-n)%WW=p-n by rw[show p+WW-n=p-n+WW by omega,Nat.add_mod_right,Nat.mod_eq_of_lt (by omega)]] at ad
 generalize p-n=p' at ad
 (refine Q0n Tryz.func97 rfl (by rfl) ?_;simp only[Tryz.ntmps97,List.length_cons,List.length_nil,Nat.reduceAdd,Nat.reduceSub,List.replicate,List.cons_append,List.nil_append])
 (repeat(any_goals(first|((with_reducible refine Q0c ?_ ?_);rfl;intro K hK;simp only[go_sem];((repeat(refine ndI (by first|assumption) ?_));refine hK _ ?_;clear hK K))|(with_reducible first|(refine Q0d ?_;refine hR _ ?_;clear hR R)|((first|refine Q0e ?_);intro Ψ hΨ hΨ')|(refine Q0a ?_;intro R hR)|(refine hΨ _ ?_;clear hΨ hΨ' Ψ)|refine Q0j ?_|refine Q0h ?_)|((with_reducible apply Q0f);rfl;rfl;all_goals(intro hc;first|(cases hc;done)|(try simp only at hc)))|((with_reducible refine Q0v ?_ ?_);kernel_rfl;(with_reducible refine hR _ ?_);clear hR R)|((first|((with_reducible apply Q1c);rfl;rfl;((apply Q0r (ad);rfl;rfl;rfl;rfl;exact Tryz.func52);kernel_rfl;rfl;(focus((simp only[go_sem]);(try rfl);done));(first|rfl)))|((with_reducible apply Q0w);rfl;rfl;(simp only[rdE,rdOf,go_sem];rfl);(intro τ hA hQ hN;((try simp only[Q1a,Op.operands,Call.operands,go_sem,List.mem_cons,List.not_mem_nil,forall_eq_or_imp,forall_eq,List.append_toArray,Option.toArray] at hA);(try simp only[go_sem,List.mem_cons,List.not_mem_nil,forall_eq_or_imp,forall_eq] at hQ hN);(first|(revert hA;intro hA));(first|(revert hQ;intro hQ));(first|(revert hN;intro hN));simp only[go_sem,hA,hQ,hN];(repeat(refine ndI (by first|assumption) ?_));(first|apply Q0z|apply Q2g))))|((first|((with_reducible apply Q4g);rfl;rfl;rfl));(intro τ hA hQ hN;((try simp only[Q1a,Op.operands,Call.operands,go_sem,List.mem_cons,List.not_mem_nil,forall_eq_or_imp,forall_eq,List.append_toArray,Option.toArray] at hA);(try simp only[go_sem,List.mem_cons,List.not_mem_nil,forall_eq_or_imp,forall_eq] at hQ);(first|(revert hA;intro hA));(first|(revert hQ;intro hQ));simp only[go_sem,hA,hQ,hN];(repeat(refine ndI (by first|assumption) ?_));exact Q5y _ _ _ _))));(simp only[St.eff,setO,Q0t,go_sem]))|((with_reducible refine Q0q ?_ ?_ ?_ ?_);kernel_rfl;kernel_rfl;(first|kernel_rfl);intro R hR))))
 all_goals(refine⟨by simp,⟨_,?_,AV.le_refl _⟩,Q0g (by simp[leH,hget])⟩;simp only[Tryz.results97,resL,ldA,Q0o,go_sem])
theorem Q8c(a:Int)(p s:Nat)(d f:Int)(hs:s<WW):Fn Tryz.prog 100 [h11 a p s d f] [] (vb (!decide (s=0)&&(f==0))) []:=by
 have nn:=Q4f s hs
 generalize decide (s=0)=q at nn
 cases q with
 |true=>
  (refine Q0n Tryz.func100 rfl (by rfl) ?_;simp only[Tryz.ntmps100,List.length_cons,List.length_nil,Nat.reduceAdd,Nat.reduceSub,List.replicate,List.cons_append,List.nil_append])
  (repeat(any_goals(first|((with_reducible refine Q0i ?_ ?_ ?_);rfl;rfl;intro K hK;((apply Q0b (nn);rfl;rfl;rfl;rfl;exact Tryz.func86);kernel_rfl;rfl;(focus((simp only[go_sem]);(try rfl);done));(first|rfl));(simp only[go_sem];refine hK _ ?_;clear hK K))|((with_reducible refine Q0c ?_ ?_);rfl;intro K hK;simp only[go_sem];((repeat(refine ndI (by first|assumption) ?_));refine hK _ ?_;clear hK K))|(with_reducible first|(refine Q0d ?_;refine hR _ ?_;clear hR R)|((first|refine Q0e ?_);intro Ψ hΨ hΨ')|(refine Q0a ?_;intro R hR)|(refine hΨ _ ?_;clear hΨ hΨ' Ψ)|refine Q0h ?_)|((with_reducible apply Q0s);rfl;rfl;rfl;all_goals(intro hb;first|(cases hb;done)|((try simp only[Bool.not_true,Bool.not_false] at hb);(first|((fail_if_success (with_reducible intro _));simp only[go_sem]))))))))
  all_goals(refine⟨by simp,⟨_,?_,AV.le_refl _⟩,Q0g (by simp[leH,hget])⟩;simp only[Tryz.results100,resL,ldA,Q0o,go_sem])
  all_goals rfl
 |false=>
  (refine Q0n Tryz.func100 rfl (by rfl) ?_;simp only[Tryz.ntmps100,List.length_cons,List.length_nil,Nat.reduceAdd,Nat.reduceSub,List.replicate,List.cons_append,List.nil_append])
  (repeat(any_goals(first|((with_reducible refine Q0i ?_ ?_ ?_);rfl;rfl;intro K hK;((apply Q0b (nn);rfl;rfl;rfl;rfl;exact Tryz.func86);kernel_rfl;rfl;(focus((simp only[go_sem]);(try rfl);done));(first|rfl));(simp only[go_sem];refine hK _ ?_;clear hK K))|((with_reducible refine Q0c ?_ ?_);rfl;intro K hK;simp only[go_sem];((repeat(refine ndI (by first|assumption) ?_));refine hK _ ?_;clear hK K))|(with_reducible first|(refine Q0d ?_;refine hR _ ?_;clear hR R)|((first|refine Q0e ?_);intro Ψ hΨ hΨ')|(refine Q0a ?_;intro R hR)|(refine hΨ _ ?_;clear hΨ hΨ' Ψ)|refine Q0h ?_)|((with_reducible apply Q0s);rfl;rfl;rfl;all_goals(intro hb;first|(cases hb;done)|((try simp only[Bool.not_true,Bool.not_false] at hb);(first|((with_reducible intro K hK);simp only[go_sem];((repeat(refine ndI (by first|assumption) ?_));refine hK _ ?_;clear hK K)))))))))
  all_goals(refine⟨by simp,⟨_,?_,AV.le_refl _⟩,Q0g (by simp[leH,hget])⟩;simp only[Tryz.results100,resL,ldA,Q0o,go_sem])
  all_goals rfl
theorem unl1_late(ex:Bool)(l:List Hd)(a:Int)(p s:Nat)(d f:Int)(now:Int)(h:now>1099511627776):Fn Tryz.prog 99 [.ptr 1005 0,.ptr 1101 0] [(1005,tl a p s d f (hsl ex l)),(1101,[vi .u64 now])] (vi .i64 2) [(1005,tl a p s d f (hsl ex l)),(1101,[vi .u64 now])]:=by
 have e:=decide_eq_true h
 (refine Q0n Tryz.func99 rfl (by rfl) ?_;simp only[Tryz.ntmps99,List.length_cons,List.length_nil,Nat.reduceAdd,Nat.reduceSub,List.replicate,List.cons_append,List.nil_append])
 (repeat(any_goals(first|((with_reducible refine Q0c ?_ ?_);rfl;intro K hK;simp only[go_sem,e];((repeat(refine ndI (by first|assumption) ?_));refine hK _ ?_;clear hK K))|(with_reducible first|(refine Q0d ?_;refine hR _ ?_;clear hR R)|((first|refine Q0e ?_|refine Q0l ?_);intro Ψ hΨ hΨ')|(refine Q0a ?_;intro R hR)|(refine hΨ _ ?_;clear hΨ hΨ' Ψ)|refine Q0h ?_)|((with_reducible refine hΨ' _ _ ?_ ?_);(focus(simp;done));clear hΨ hΨ' Ψ)|((with_reducible apply Q0f);rfl;rfl;all_goals(intro hc;first|(cases hc;done)|(try simp only at hc))))))
 all_goals(refine⟨by simp,⟨_,?_,AV.le_refl _⟩,Q0g (by simp[leH,hget])⟩;simp only[Tryz.results99,resL,ldA,Q0o,go_sem])
theorem unl1_no(ex:Bool)(l:List Hd)(a:Int)(p s:Nat)(d f:Int)(now:Int)(hs:s<WW)(h:¬now>1099511627776)(hk:(!decide (s=0)&&(f==0))=false):Fn Tryz.prog 99 [.ptr 1005 0,.ptr 1101 0] [(1005,tl a p s d f (hsl ex l)),(1101,[vi .u64 now])] (vi .i64 172) [(1005,tl a p s d f (hsl ex l)),(1101,[vi .u64 now])]:=by
 have e:=decide_eq_false h
 have lk:=Q8c a p s d f hs
 rw[hk] at lk
 (refine Q0n Tryz.func99 rfl (by rfl) ?_;simp only[Tryz.ntmps99,List.length_cons,List.length_nil,Nat.reduceAdd,Nat.reduceSub,List.replicate,List.cons_append,List.nil_append])
 (repeat(any_goals(first|((with_reducible refine Q0i ?_ ?_ ?_);rfl;rfl;intro K hK;((apply Q0b (lk);rfl;rfl;rfl;rfl;exact Tryz.func100);kernel_rfl;rfl;(focus((simp only[go_sem,e]);(try rfl);done));(first|rfl));(simp only[go_sem,e];refine hK _ ?_;clear hK K))|((with_reducible refine Q0c ?_ ?_);rfl;intro K hK;simp only[go_sem,e];((repeat(refine ndI (by first|assumption) ?_));refine hK _ ?_;clear hK K))|(with_reducible first|(refine Q0d ?_;refine hR _ ?_;clear hR R)|((first|refine Q0e ?_|refine Q0l ?_);intro Ψ hΨ hΨ')|(refine Q0a ?_;intro R hR)|(refine hΨ _ ?_;clear hΨ hΨ' Ψ)|refine Q0h ?_)|((with_reducible refine hΨ' _ _ ?_ ?_);(focus(simp;done));clear hΨ hΨ' Ψ)|((with_reducible apply Q0f);rfl;rfl;all_goals(intro hc;first|(cases hc;done)|(try simp only at hc))))))
 all_goals(refine⟨by simp,⟨_,?_,AV.le_refl _⟩,Q0g (by simp[leH,hget])⟩;simp only[Tryz.results99,resL,ldA,Q0o,go_sem])
theorem unl1_ok(ex:Bool)(l:List Hd)(a:Int)(p s:Nat)(d f:Int)(now:Int)(hs:s<WW)(h:¬now>1099511627776)(hk:(!decide (s=0)&&(f==0))=true)(h0:0≤now)(hd0:0≤d)(hd:d≤1073741824):Fn Tryz.prog 99 [.ptr 1005 0,.ptr 1101 0] [(1005,tl a p s d f (hsl ex l)),(1101,[vi .u64 now])] (vi .i64 0) [(1005,tl a p s d (now+d) (hsl ex l)),(1101,[vi .u64 now])]:=by
 have e:=decide_eq_false h
 have lk:=Q8c a p s d f hs
 have w:IntKind.u64.wrap (now+d)=now+d:=wrU (by omega) (by omega)
 rw[hk] at lk
 (refine Q0n Tryz.func99 rfl (by rfl) ?_;simp only[Tryz.ntmps99,List.length_cons,List.length_nil,Nat.reduceAdd,Nat.reduceSub,List.replicate,List.cons_append,List.nil_append])
 (repeat(any_goals(first|((with_reducible refine Q0i ?_ ?_ ?_);rfl;rfl;intro K hK;((apply Q0b (lk);rfl;rfl;rfl;rfl;exact Tryz.func100);kernel_rfl;rfl;(focus((simp only[go_sem,e,w]);(try rfl);done));(first|rfl));(simp only[go_sem,e,w];refine hK _ ?_;clear hK K))|((with_reducible refine Q0c ?_ ?_);rfl;intro K hK;simp only[go_sem,e,w];((repeat(refine ndI (by first|assumption) ?_));refine hK _ ?_;clear hK K))|(with_reducible first|(refine Q0d ?_;refine hR _ ?_;clear hR R)|((first|refine Q0e ?_|refine Q0l ?_);intro Ψ hΨ hΨ')|(refine Q0a ?_;intro R hR)|(refine hΨ _ ?_;clear hΨ hΨ' Ψ)|refine Q0j ?_|refine Q0h ?_)|((with_reducible refine hΨ' _ _ ?_ ?_);(focus(simp;done));clear hΨ hΨ' Ψ)|((with_reducible apply Q0f);rfl;rfl;all_goals(intro hc;first|(cases hc;done)|(try simp only at hc)))|((with_reducible refine Q0v ?_ ?_);kernel_rfl;(with_reducible refine hR _ ?_);clear hR R)|(((with_reducible apply Q0w);rfl;rfl;(simp only[rdE,rdOf,go_sem,e,w];rfl);(intro τ hA hQ hN;((try simp only[Q1a,Op.operands,Call.operands,go_sem,e,w,go_sem,List.mem_cons,List.not_mem_nil,forall_eq_or_imp,forall_eq,List.append_toArray,Option.toArray] at hA);(try simp only[go_sem,e,w,List.mem_cons,List.not_mem_nil,forall_eq_or_imp,forall_eq] at hQ hN);(first|(revert hA;intro hA));(first|(revert hQ;intro hQ));(first|(revert hN;intro hN));simp only[go_sem,e,w,go_sem,hA,hQ,hN];(repeat(refine ndI (by first|assumption) ?_));(first|apply Q0z|apply Q2g))));(simp only[St.eff,setO,Q0t,go_sem,e,w]))|((with_reducible refine Q0q ?_ ?_ ?_ ?_);kernel_rfl;kernel_rfl;(first|kernel_rfl);intro R hR))))
 all_goals(refine⟨by simp,⟨_,?_,AV.le_refl _⟩,Q0g (by simp[leH,hget])⟩;simp only[Tryz.results99,resL,ldA,Q0o,go_sem])
def dly(d delay:Int):Bool:=(delay==0)||(decide (delay>1073741824)||decide (delay<d))
theorem bond1_arg(ex:Bool)(l:List Hd)(a:Int)(p s:Nat)(d f:Int)(n:Nat)(delay:Int)(h:dly d delay=true):Fn Tryz.prog 98 [.ptr 1005 0,.ptr 1101 0,.ptr 1102 0] [(1005,tl a p s d f (hsl ex l)),(1101,[vi .u64 delay]),(1102,cW n)] (vi .i64 2) [(1005,tl a p s d f (hsl ex l)),(1101,[vi .u64 delay]),(1102,cW n)]:=by
 unfold dly at h
 generalize hq1:(delay==0)=q1 at h
 generalize hq2:decide (delay>1073741824)=q2 at h
 generalize hq3:decide (delay<d)=q3 at h
 cases q1<;>cases q2<;>cases q3<;>first|(cases h;done)|skip
 all_goals(refine Q0n Tryz.func98 rfl (by rfl) ?_;simp only[Tryz.ntmps98,List.length_cons,List.length_nil,Nat.reduceAdd,Nat.reduceSub,List.replicate,List.cons_append,List.nil_append])
 all_goals(have W:=ndI hq1 (ndI hq2 hq3);(repeat(any_goals(first|((with_reducible refine Q0c ?_ ?_);rfl;intro K hK;simp only[go_sem,W];((repeat(refine ndI (by first|assumption) ?_));refine hK _ ?_;clear hK K))|(with_reducible first|(refine Q0d ?_;refine hR _ ?_;clear hR R)|((first|refine Q0e ?_|refine Q0l ?_);intro Ψ hΨ hΨ')|(refine Q0a ?_;intro R hR)|(refine hΨ _ ?_;clear hΨ hΨ' Ψ)|refine Q0h ?_)|((with_reducible refine hΨ' _ _ ?_ ?_);(focus(simp;done));clear hΨ hΨ' Ψ)|((with_reducible apply Q0f);rfl;rfl;all_goals(intro hc;first|(cases hc;done)|(try simp only at hc)))|((with_reducible refine Q0v ?_ ?_);kernel_rfl;(with_reducible refine hR _ ?_);clear hR R)|((first|((with_reducible apply Q2y);rfl;rfl;rfl;rfl)|((first|((with_reducible apply Q0w);rfl;rfl)|((with_reducible apply Q1u);rfl;rfl;rfl;rfl;rfl));(simp only[rdE,rdOf,go_sem,W];rfl);(intro τ hA hQ hN;((try simp only[Q1a,Op.operands,Call.operands,go_sem,W,go_sem,List.mem_cons,List.not_mem_nil,forall_eq_or_imp,forall_eq,List.append_toArray,Option.toArray] at hA);(try simp only[go_sem,W,List.mem_cons,List.not_mem_nil,forall_eq_or_imp,forall_eq] at hQ hN);(first|(revert hA;intro hA));(first|(revert hQ;intro hQ));(first|(revert hN;intro hN));simp only[go_sem,W,go_sem,hA,hQ,hN];(repeat(refine ndI (by first|assumption) ?_));(first|apply Q0z)))));(simp only[St.eff,setO,Q0t,go_sem,W]))|((with_reducible refine Q0q ?_ ?_ ?_ ?_);kernel_rfl;kernel_rfl;(first|kernel_rfl);intro R hR)))))
 all_goals(refine⟨by simp,⟨_,?_,AV.le_refl _⟩,Q0g (by simp[leH,hget])⟩;simp only[Tryz.results98,resL,ldA,Q0o,go_sem])
end lg
section
open Go.RowKit
set_option maxRecDepth 20000
set_option maxHeartbeats 4000000
theorem Q5m{α : Type}(l:List α)(k:Nat):l.take (min l.length k)=l.take k:=by
 rw[List.take_eq_take_iff,Nat.min_comm l.length k,Nat.min_assoc,Nat.min_self]
theorem cloneBv(ex:Bool)(l:List Nat)(hl:l.length≤1000000):Fn Tryz.prog 17 [.c (.sl ex 1 l.length (l.flatMap bpv))] [] (.c (bsV l)) []:=by
 have k:=(X5t ex l hl).frzN (d:=7) (pcs:=l.flatMap bpv) rfl
 have e1:(l.flatMap bpv).length=l.length*1:=Q0u Q3f _
 simpa [-List.length_flatMap,e1,AV.frz,AV.frzL,frzH] using k
theorem clonePv(ex:Bool)(l:List Pr)(hl:l.length≤1000000):Fn Tryz.prog 18 [.c (.sl ex 8 l.length (l.flatMap Pr.pv))] [] (.c (psV l)) []:=by
 have k:=(X5s ex l hl).frzN (d:=7) (pcs:=l.flatMap Pr.pv) rfl
 have e1:(l.flatMap Pr.pv).length=l.length*8:=Q0u Q9d _
 simpa [-List.length_flatMap,e1,AV.frz,AV.frzL,frzH] using k
theorem cloneHv(ex:Bool)(l:List lg.Hd)(hl:l.length≤100):Fn Tryz.prog 19 [.c (.sl ex 11 l.length (l.flatMap lg.Hd.pv))] [] (.c (hdV l)) []:=by
 have k:=(lg.cloneH_fn ex l (by omega)).frzN (d:=7) (pcs:=l.flatMap lg.Hd.pv) rfl
 have e1:(l.flatMap lg.Hd.pv).length=l.length*11:=Q0u lg.hd_len _
 simpa [-List.length_flatMap,e1,AV.frz,AV.frzL,frzH] using k
theorem cloneNv(ex:Bool)(l:List nz.N6)(hl:l.length≤100):Fn Tryz.prog 20 [.c (.sl ex 6 l.length (l.flatMap nz.N6.pv))] [] (.c (noV l)) []:=by
 have k:=(nz.cloneN_fn ex l (by omega)).frzN (d:=7) (pcs:=l.flatMap nz.N6.pv) rfl
 have e1:(l.flatMap nz.N6.pv).length=l.length*6:=Q0u nz.pv_len _
 simpa [-List.length_flatMap,e1,AV.frz,AV.frzL,frzH] using k
def cutA(x:Ac):Ac:=⟨x.a,x.b,x.n,x.code.take 300,x.store.take 40⟩
def cutW(w:Wl):Wl:=⟨(w.S.take 45).map cutA,w.L.take 40,w.N.take 70⟩
structure Wl.raw (w:Wl):Prop where
 s:w.S.length≤maxLen∧∀x∈w.S,x.ok
 l:w.L.length≤maxLen∧∀h∈w.L,h.ok
 n:w.N.length≤maxLen∧∀x∈w.N,x.ok
theorem cutW_ok{w:Wl}(h:w.raw):(cutW w).ok:=by
 refine⟨⟨?_,fun y hy=>?_⟩,⟨?_,fun y hy=>h.l.2 y (List.mem_of_mem_take hy)⟩,⟨?_,fun y hy=>h.n.2 y (List.mem_of_mem_take hy)⟩⟩
 · show((w.S.take 45).map cutA).length≤60
   rw[List.length_map,List.length_take];omega
 · obtain⟨x,hx,rfl⟩:=List.mem_map.1 hy
   obtain⟨u1,u2,u3,⟨u4,u5⟩,u6,u7⟩:=h.s.2 x (List.mem_of_mem_take hx)
   refine⟨⟨u1,u2,u3,⟨?_,fun c hc=>u5 c (List.mem_of_mem_take hc)⟩,?_,fun p hp=>u7 p (List.mem_of_mem_take hp)⟩,?_,?_⟩
   · show(x.code.take 300).length≤maxLen;rw[List.length_take];omega
   · show(x.store.take 40).length≤maxLen;rw[List.length_take];omega
   · show(x.code.take 300).length≤300;rw[List.length_take];omega
   · show(x.store.take 40).length≤40;rw[List.length_take];omega
 · show(w.L.take 40).length≤60;rw[List.length_take];omega
 · show(w.N.take 70).length≤70;rw[List.length_take];omega
theorem X0v(n k:Nat):(if (k:Int)<(n:Int) then(k:Int) else(n:Int))=((min n k:Nat):Int):=by split<;>omega
theorem X0m(A B:List Ac)(y:Ac):rcS (A++y::B)=rcS A++([vi .u64 y.a,vi .u64 (l0 y.b),vi .u64 (l1 y.b),vi .u64 (l2 y.b),vi .u64 (l3 y.b),vi .u64 y.n,.c (bsV y.code),.c (psV y.store)]++rcS B):=by simp[rcS,Ac.pv]
theorem acell{A B:List Ac}{y:Ac}{k:Nat}(hA:A.length=k):(rcS (A++y::B))[k*8+6]? = some (.c (bsV y.code))∧(rcS (A++y::B))[k*8+7]? = some (.c (psV y.store)):=by
 have hl:=Q6j A
 rw[hA] at hl
 rw[X0m]
 constructor
 · rw[List.getElem?_append_right (by omega),hl,show k*8+6-k*8=6 by omega];rfl
 · rw[List.getElem?_append_right (by omega),hl,show k*8+7-k*8=7 by omega];rfl
theorem X7f{A B:List Ac}{y:Ac}{k:Nat}(hA:A.length=k)(c:List Nat):spl (rcS (A++y::B)) (k*8+6) [.c (bsV c)]=rcS (A++⟨y.a,y.b,y.n,c,y.store⟩::B):=by
 have hl:=Q6j A
 rw[hA] at hl
 rw[X0m,X0m]
 generalize rcS A=X at hl
 unfold spl
 rw[List.take_append,List.drop_append]
 simp[hl,List.take_of_length_le,show k*8+6-k*8=6 by omega,show k*8+6+1-k*8=7 by omega,show X.length≤k*8+6 by omega,List.drop_eq_nil_of_le,show k*8≤k*8+6+1 by omega]
theorem X4f{A B:List Ac}{y:Ac}{k:Nat}(hA:A.length=k)(s:List Pr):spl (rcS (A++y::B)) (k*8+7) [.c (psV s)]=rcS (A++⟨y.a,y.b,y.n,y.code,s⟩::B):=by
 have hl:=Q6j A
 rw[hA] at hl
 rw[X0m,X0m]
 generalize rcS A=X at hl
 unfold spl
 rw[List.take_append,List.drop_append]
 simp[hl,List.take_of_length_le,show k*8+7-k*8=7 by omega,show k*8+7+1-k*8=8 by omega,show X.length≤k*8+7 by omega,List.drop_eq_nil_of_le,show k*8≤k*8+7+1 by omega]
end
section
open Go.RowKit
open Nat (reduceBEq)
set_option maxRecDepth 20000
set_option maxHeartbeats 2000000
def posS(L:List Ac)(a:Int):Nat:=bsr (ltA L a) L.length 0 L.length
def isS(L:List Ac)(a:Int):Bool:=eqA L a (posS L a)
theorem isS_at{L:List Ac}{a:Int}(h:isS L a=true):∃x,L[posS L a]? = some x∧x.a=a:=by
 unfold isS eqA at h
 cases hx:L[posS L a]? with
 |none=>rw[hx] at h;cases h
 |some x=>
  rw[hx] at h
  refine⟨x,rfl,?_⟩
  simp only[cmpI,beq_iff_eq] at h
  split at h
  · cases h
  · split at h
    · cases h
    · omega
def ofS(L:List Ac)(a:Int):Ac:=if isS L a then(L[posS L a]?).getD ⟨a,0,0,[],[]⟩ else⟨a,0,0,[],[]⟩
def Q4d(L:List Ac)(a:Int):Bool:=decide (a≠0)&&(isS L a||(decide (a<16)||decide (X0y L<24)))
theorem X2x(ex:Bool)(L:List Ac)(hl:L.length≤900)(a:Int):Fn Tryz.prog 67 [stA ex L,vi .u64 a] [] (.tup [vi .i64 (posS L a:Nat),vb (isS L a)]) []:=Q7o ex L hl a
abbrev acR(x:Ac)(r s:Nat):AV:=.agg [vi .u64 x.a,vi .u64 (l0 x.b),vi .u64 (l1 x.b),vi .u64 (l2 x.b),vi .u64 (l3 x.b),vi .u64 x.n,.row r 5 1 x.code.length,.row s 67 8 x.store.length]
theorem of_row(ex:Bool)(L:List Ac)(hl:L.length≤900)(ok:∀x∈L,x.code.length≤1000000∧x.store.length≤1000000)(a:Int)(h:isS L a=true):Fn Tryz.prog 44 [stA ex L,vi .u64 a] [] (acR (ofS L a) 5 8) [(5,rcB (ofS L a).code),(8,rcP (ofS L a).store)]:=by
 have pl:=X2x ex L hl a
 obtain⟨x,hx,rfl⟩:=isS_at h
 have hof:ofS L x.a=x:=by unfold ofS;rw[if_pos h,hx];rfl
 rw[hof]
 rw[h] at pl
 generalize posS L x.a=p at pl hx
 have hp:=(List.getElem?_eq_some_iff.1 hx).1
 have k2:=X5v hx
 obtain⟨g1,g2⟩:=ok x (List.mem_of_getElem? hx)
 have cp:=X2l x g1 g2
 unfold rcB rcP at cp ⊢
 (refine Q0n Tryz.func44 rfl (by rfl) ?_;simp only[Tryz.ntmps44,List.length_cons,List.length_nil,Nat.reduceAdd,Nat.reduceSub,List.replicate,List.cons_append,List.nil_append])
 (repeat(any_goals(first|((with_reducible refine Q0i ?_ ?_ ?_);rfl;rfl;intro K hK;(first|((apply Q0b (pl);rfl;rfl;rfl;rfl;exact Tryz.func67);kernel_rfl;rfl;(focus((simp(disch:=omega) only[go_sem,k2,Q0m]);(try rfl);done));(first|rfl))|(apply Q0y (cp) (fun r=>r);rfl;rfl;rfl;rfl;exact Tryz.func68;kernel_rfl;rfl;rfl;(intro r hr q hq h;simp(disch:=omega) only[List.map_cons,List.map_nil,List.cons_append,List.nil_append,List.mem_cons,List.not_mem_nil,or_false] at hr hq;(try dsimp only at h);first|omega);(simp(disch:=omega) only[Q1e,Q1y,AV.ren,AV.renL,Q0p,List.mem_cons,List.not_mem_nil,forall_eq_or_imp,forall_eq,Q1v,List.contains_cons,List.contains_nil,AV.refsL,AV.refs,Q0m,AV.inN,AV.inNL,inH,Q0x,go_sem,k2,Q0m])));(simp(disch:=omega) only[Q0t,Q1w,renH,AV.ren,AV.renL,Q0p,go_sem,k2,Q0m];refine hK _ ?_;clear hK K))|((with_reducible refine Q0c ?_ ?_);rfl;intro K hK;simp(disch:=omega) only[go_sem,k2,Q0m];((repeat(refine ndI (by first|assumption|omega|rfl) ?_));refine hK _ ?_;clear hK K))|(with_reducible first|(refine Q0d ?_;refine hR _ ?_;clear hR R)|((first|refine Q0e ?_);intro Ψ hΨ hΨ')|(refine Q0a ?_;intro R hR)|(refine hΨ _ ?_;clear hΨ hΨ' Ψ)|refine Q0h ?_)|((with_reducible refine hΨ' _ _ ?_ ?_);(focus(simp;done));clear hΨ hΨ' Ψ)|((with_reducible apply Q0f);rfl;rfl;all_goals(intro hc;first|(cases hc;done)|(try simp only at hc))))))
 all_goals(refine⟨by simp,⟨_,?_,AV.le_refl _⟩,Q0g (by simp[leH,hget])⟩;simp only[Tryz.results44,resL,ldA,Q0o,go_sem])
theorem of_nil(ex:Bool)(L:List Ac)(hl:L.length≤900)(a:Int)(h:isS L a=false):Fn Tryz.prog 44 [stA ex L,vi .u64 a] [] (.agg [vi .u64 a,vi .u64 0,vi .u64 0,vi .u64 0,vi .u64 0,vi .u64 0,.c (.v (.slice none 0 0)),.c (.v (.slice none 0 0))]) []:=by
 have pl:=X2x ex L hl a
 rw[h] at pl
 generalize posS L a=p at pl
 (refine Q0n Tryz.func44 rfl (by rfl) ?_;simp only[Tryz.ntmps44,List.length_cons,List.length_nil,Nat.reduceAdd,Nat.reduceSub,List.replicate,List.cons_append,List.nil_append])
 (repeat(any_goals(first|((with_reducible refine Q0i ?_ ?_ ?_);rfl;rfl;intro K hK;((apply Q0b (pl);rfl;rfl;rfl;rfl;exact Tryz.func67);kernel_rfl;rfl;(focus((simp only[go_sem]);(try rfl);done));(first|rfl));(simp only[go_sem];refine hK _ ?_;clear hK K))|((with_reducible refine Q0c ?_ ?_);rfl;intro K hK;simp only[go_sem];((repeat(refine ndI (by first|assumption) ?_));refine hK _ ?_;clear hK K))|(with_reducible first|(refine Q0d ?_;refine hR _ ?_;clear hR R)|((first|refine Q0e ?_);intro Ψ hΨ hΨ')|(refine Q0a ?_;intro R hR)|(refine hΨ _ ?_;clear hΨ hΨ' Ψ)|refine Q0j ?_|refine Q0h ?_)|((with_reducible apply Q0f);rfl;rfl;all_goals(intro hc;first|(cases hc;done)|(try simp only at hc))))))
 all_goals(refine⟨by simp,⟨_,?_,AV.le_refl _⟩,Q0g (by simp[leH,hget])⟩;simp only[Tryz.results44,resL,ldA,Q0o,go_sem])
theorem of_none(ex:Bool)(L:List Ac)(hl:L.length≤900)(a:Int)(h:isS L a=false):Fn Tryz.prog 44 [stA ex L,vi .u64 a] [] (acA (ofS L a)) []:=by
 have hof:ofS L a=⟨a,0,0,[],[]⟩:=by unfold ofS;rw[h];rfl
 rw[hof]
 have z:=AV.le_agg (a:=[vi .u64 a,vi .u64 0,vi .u64 0,vi .u64 0,vi .u64 0,vi .u64 0,.c (.v (.slice none 0 0)),.c (.v (.slice none 0 0))]) (b:=ac8 a 0 0 (bsV []) (psV [])) ⟨AV.le_refl _,AV.le_of (by rw[Q2q]),AV.le_of (by rw[Q2p]),AV.le_of (by rw[Q2o]),AV.le_of (by rw[Q2n]),AV.le_refl _,AV.le_nil _ _,AV.le_nil _ _,trivial⟩
 exact(of_nil ex L hl a h).weaken z fun r cs h=>by cases h
theorem of_fn(ex:Bool)(L:List Ac)(hl:L.length≤900)(ok:∀x∈L,x.code.length≤1000000∧x.store.length≤1000000)(a:Int):Fn Tryz.prog 44 [stA ex L,vi .u64 a] [] (acA (ofS L a)) []:=by
 cases h:isS L a with
 |false=>exact of_none ex L hl a h
 |true=>
  have k:=of_row ex L hl ok a h
  generalize ofS L a=x at k ⊢
  have k1:=k.frzN (d:=5) (pcs:=x.code.flatMap bpv) rfl
  have k2:=k1.frzN (d:=8) (pcs:=x.store.flatMap Pr.pv) (by simp[frzH,Q1g,rcP,rcB])
  have e1:(x.code.flatMap bpv).length=x.code.length*1:=Q0u Q3f _
  have e2:(x.store.flatMap Pr.pv).length=x.store.length*8:=Q0u Q9d _
  simpa [-List.length_flatMap,e1,e2,ac8,AV.frz,AV.frzL,frzH,acA,vi,bsV,psV] using k2
theorem room_fn(ex:Bool)(L:List Ac)(hl:L.length≤900)(a:Int):Fn Tryz.prog 43 [stA ex L,vi .u64 a] [] (vb (Q4d L a)) []:=by
 have pl:=X2x ex L hl a
 have mn:=many_fn ex L (Nat.le_trans hl (by decide))
 unfold Q4d
 obtain⟨q1,e1⟩:∃p,decide (a≠0)=p:=⟨_,rfl⟩
 obtain⟨q2,e2⟩:∃p,isS L a=p:=⟨_,rfl⟩
 obtain⟨q3,e3⟩:∃p,decide (a<16)=p:=⟨_,rfl⟩
 obtain⟨q4,e4⟩:∃p,decide (X0y L<24)=p:=⟨_,rfl⟩
 have f1:(a != 0)=q1:=by rw[←e1];by_cases h:a=0<;>simp[h]
 have f4:decide ((((L.filter fun x=>decide (16≤x.a)).length:Nat):Int)<24)=q4:=by
  rw[←e4];exact decide_eq_decide.2 (by unfold X0y;omega)
 rw[e2] at pl
 rw[e1,e2,e3,e4]
 generalize posS L a=p at pl
 clear e1 e2 e4
 cases q1<;>cases q2<;>cases q3<;>cases q4
 all_goals(refine Q0n Tryz.func43 rfl (by rfl) ?_;simp only[Tryz.ntmps43,List.length_cons,List.length_nil,Nat.reduceAdd,Nat.reduceSub,List.replicate,List.cons_append,List.nil_append])
 all_goals(have W:=ndI f1 (ndI e3 f4);(repeat(any_goals(first|((with_reducible refine Q0i ?_ ?_ ?_);rfl;rfl;intro K hK;((apply Q0b (pl);rfl;rfl;rfl;rfl;exact Tryz.func67);kernel_rfl;rfl;(focus((simp only[go_sem,W]);(try rfl);done));(first|rfl));(simp only[go_sem,W];refine hK _ ?_;clear hK K))|((with_reducible refine Q0c ?_ ?_);rfl;intro K hK;simp only[go_sem,W];((repeat(refine ndI (by first|assumption) ?_));refine hK _ ?_;clear hK K))|(with_reducible first|(refine Q0d ?_;refine hR _ ?_;clear hR R)|((first|refine Q0e ?_);intro Ψ hΨ hΨ')|(refine Q0a ?_;intro R hR)|(refine hΨ _ ?_;clear hΨ hΨ' Ψ)|refine Q0h ?_)|((with_reducible apply Q2v);rfl;rfl;rfl;(try simp only[go_sem,W]))|((with_reducible apply Q0s);rfl;rfl;rfl;all_goals(intro hb;first|(cases hb;done)|((try simp only[Bool.not_true,Bool.not_false] at hb);(first|((with_reducible intro K hK);(first|((apply Q0b (mn);rfl;rfl;rfl;rfl;exact Tryz.func55);kernel_rfl;rfl;(focus((simp only[go_sem,W]);(try rfl);done));(first|rfl))|skip);simp only[go_sem,W];((repeat(refine ndI (by first|assumption) ?_));refine hK _ ?_;clear hK K))|((fail_if_success (with_reducible intro _));simp only[go_sem,W])))))))))
 all_goals(refine⟨by simp,⟨_,?_,AV.le_refl _⟩,Q0g (by simp[leH,hget])⟩;simp only[Tryz.results43,resL,ldA,Q0o,go_sem])
 all_goals rfl
def Q1p(L:List Ac)(x:Ac):List Ac:=if isS L x.a then(if Q1s x then L.take (posS L x.a)++L.drop (posS L x.a+1) else L.take (posS L x.a)++x::L.drop (posS L x.a+1)) else if Q1s x then L else L.take (posS L x.a)++x::L.drop (posS L x.a)
theorem X4o{L:List Ac}{i:Nat}{y:Ac}(h:L[i]? = some y):raS L=raS (L.take i)++(y.pv.map .c++raS (L.drop (i+1))):=by
 obtain⟨hlt,rfl⟩:=List.getElem?_eq_some_iff.1 h
 conv=>lhs;rw[←List.take_append_drop i L,List.drop_eq_getElem_cons hlt]
 unfold raS
 rw[List.flatMap_append,List.map_append,List.flatMap_cons,List.map_append]
theorem raS_at{L:List Ac}{i:Nat}{y:Ac}(h:L[i]? = some y):((raS L).drop (i*8)).take 8=y.pv.map .c:=by
 have hlt:=(List.getElem?_eq_some_iff.1 h).1
 have e:(raS (L.take i)).length=i*8:=by rw[Q3p,List.length_take,Nat.min_eq_left (by omega)]
 rw[X4o h,←e,List.drop_left,List.take_left' (by rfl)]
theorem spl_set{L:List Ac}{i:Nat}{y x:Ac}(h:L[i]? = some y):spl (raS L) (i*8) (x.pv.map .c)=raS (L.take i++x::L.drop (i+1)):=by
 have hlt:=(List.getElem?_eq_some_iff.1 h).1
 have e:(raS (L.take i)).length=i*8:=by rw[Q3p,List.length_take,Nat.min_eq_left (by omega)]
 rw[X4o h,spl_mid (raS (L.take i)) (y.pv.map .c) (raS (L.drop (i+1))) (x.pv.map .c) (i*8) e rfl]
 unfold raS
 rw[List.flatMap_append,List.map_append,List.flatMap_cons,List.map_append]
theorem spl_same{L:List Ac}{i:Nat}{y:Ac}(h:L[i]? = some y):spl (raS L) (i*8) (y.pv.map .c)=raS L:=by
 rw[spl_set h]
 obtain⟨hlt,rfl⟩:=List.getElem?_eq_some_iff.1 h
 rw[←List.drop_eq_getElem_cons hlt,List.take_append_drop]
theorem lays_row(ex:Bool)(L:List Ac)(hl:L.length≤900)(ok:∀x∈L,x.code.length≤1000000∧x.store.length≤1000000)(x:Ac)(hx:x.b<WW∧x.code.length≤1000000∧x.store.length≤1000000):∃d,Fn Tryz.prog 42 [stA ex L,acA x] [] (.agg [.row d 62 8 (Q1p L x).length]) [(d,raS (Q1p L x))]:=by
 have pl:=X2x ex L hl x.a
 have em:=Q7a x hx.1 (Nat.le_trans hx.2.2 (by decide)) (Nat.le_trans hx.2.1 (by decide)) (Nat.le_trans (Nat.add_le_add hx.2.1 hx.2.2) (by decide))
 have cx:=X5p x hx.2.1 hx.2.2
 have cl:Fn Tryz.prog 16 [acS ex L] [] (.row 7 62 8 L.length) [(7,raS L)]:=X1j ex L (by omega)
 have kr:∀d,AV.refsL d (raS L)=false:=fun d=>Q0m d (L.flatMap Ac.pv)
 unfold Q1p
 have hp:=fun h=>isS_at (L:=L) (a:=x.a) h
 generalize isS L x.a=q1 at pl hp ⊢
 have hple:posS L x.a≤L.length:=Q8n _ _ _ _ (Nat.zero_le _)
 generalize posS L x.a=p at pl hp hple ⊢
 generalize Q1s x=q2 at em ⊢
 have de:q1=true→Fn Tryz.prog 69 [.row 1000 62 8 L.length,vi .i64 p,vi .i64 (p+1:Nat)] [(1000,raS L)] (.row 1000 62 8 (L.length-1)) [(1000,raS (L.take p++L.drop (p+1)))]:=fun h=>X9a L p (by obtain⟨z,hz,_⟩:=hp h;exact(List.getElem?_eq_some_iff.1 hz).1) (by omega)
 have ins:=X8x L x p hple (by omega)
 have kx:raS [x]=ac8 x.a x.b x.n (bsV x.code) (psV x.store):=rfl
 have k4:=Q3p L
 have k9:(p:Int)+1=((p+1:Nat):Int):=by omega
 have hpl:q1=true→p<L.length:=fun h=>by obtain⟨z,hz,_⟩:=hp h;exact(List.getElem?_eq_some_iff.1 hz).1
 have ks:q1=true→List.take (p*8) (raS L)++ac8 x.a x.b x.n (bsV x.code) (psV x.store)++List.drop (p*8+8) (raS L)=raS (L.take p++x::L.drop (p+1)):=fun h=>by obtain⟨z,hz,_⟩:=hp h;exact spl_set hz
 clear hp
 rw[kx] at ins
 obtain⟨b6,hb6⟩:∃b6:AV,b6=vb q1:=⟨_,rfl⟩
 refine⟨if q1 then 18 else if q2 then 18 else 60,?_⟩
 cases q1<;>cases q2
 all_goals simp only[Bool.false_eq_true,if_true,if_false]
 all_goals(refine Q0n Tryz.func42 rfl (by rfl) ?_;simp only[Tryz.ntmps42,List.length_cons,List.length_nil,Nat.reduceAdd,Nat.reduceSub,List.replicate,List.cons_append,List.nil_append])
 all_goals(repeat(any_goals(first|((with_reducible refine Q0i ?_ ?_ ?_);rfl;rfl;intro K hK;(first|((apply Q0b (pl);rfl;rfl;rfl;rfl;exact Tryz.func67);kernel_rfl;rfl;(focus((simp only[go_sem,kr]);(try rfl);done));(first|rfl))|(apply Q0y (cl) (fun r=>18);rfl;rfl;rfl;rfl;exact Tryz.func16;kernel_rfl;rfl;rfl;(intro r hr q hq h;simp only[List.map_cons,List.map_nil,List.cons_append,List.nil_append,List.mem_cons,List.not_mem_nil,or_false] at hr hq;(try dsimp only at h);first|omega);(simp only[Q1e,Q1y,AV.ren,AV.renL,Q0p,List.mem_cons,List.not_mem_nil,forall_eq_or_imp,forall_eq,Q1v,List.contains_cons,List.contains_nil,AV.refsL,AV.refs,Q0m,AV.inN,AV.inNL,inH,Q0x,go_sem,kr])));(simp only[Q0t,Q1w,renH,AV.ren,AV.renL,Q0p,go_sem,kr];refine hK _ ?_;clear hK K))|((with_reducible refine Q0c ?_ ?_);rfl;intro K hK;simp only[go_sem,kr];((repeat(refine ndI (by first|assumption) ?_));refine hK _ ?_;clear hK K))|(with_reducible first|(refine Q0d ?_;refine hR _ ?_;clear hR R)|((first|refine Q0e ?_|refine Q0l ?_);intro Ψ hΨ hΨ')|(refine Q0a ?_;intro R hR)|(refine hΨ _ ?_;clear hΨ hΨ' Ψ)))))
 all_goals refine Q3n L.length (fun i=>⟨[.any,.any,.any,.ptr 3 0,.ptr 4 0,vi .i64 p,b6,.row 18 62 8 L.length,.any,.any,.any,.any,.any,.any,.any,.any,.any,.any,.any,.any,vi .i64 L.length,vi .i64 (i:Int),.any,.any,.any,.any,.any,.any,.any,.any,.any,.any,.any,.any,.any,.any,.any,.any,.any,.any,.any,.any,.any,.any,.any,.any,.any,.any,.any,.any,.any,.any,.any,.any,.any,.any,.any,.any,.any,.any,.any,.any,.any],[(3,ac8 x.a x.b x.n (bsV x.code) (psV x.store)),(4,[.c (.v (.slice none 0 0))]),(18,raS L)]⟩) (St.le_of (by simp[leT,hb6]) (by simp[leH,hget])) ?_
 all_goals intro i hi Ψ hΨ hΨ'
 all_goals(try dsimp only at hΨ ⊢)
 all_goals rcases Nat.lt_or_ge i L.length with hlt|hge
 all_goals first
  |(have hy0:=hlt
    obtain⟨y,hy⟩:∃y,L[i]? = some y:=⟨_,List.getElem?_eq_getElem hy0⟩
    have k1:(decide ((i:Int)<(L.length:Int)))=true:=decide_eq_true (by omega)
    have k2:=raS_at hy
    have k3:List.take (i*8) (raS L)++ac8 y.a y.b y.n (bsV y.code) (psV y.store)++List.drop (i*8+8) (raS L)=raS L:=spl_same hy
    have g:=ok y (List.mem_of_getElem? hy)
    have cy:=X5p y g.1 g.2
    simp only[Ac.pv,List.map_cons,List.map_nil] at k2)
  |(have k1:(decide ((i:Int)<(L.length:Int)))=false:=decide_eq_false (by omega)
    have k2:=True.intro
    have cy:=True.intro)
 all_goals have k7:(i:Int)+1=((i+1:Nat):Int):=by omega
 all_goals first
  |((have hlt2:=hlt);(have W:=ndI k1 (ndI k2 (ndI k4 (ndI k7 @wrI)));(repeat(any_goals(first|((with_reducible refine Q0i ?_ ?_ ?_);rfl;rfl;intro K hK;((apply Q0b (cy);rfl;rfl;rfl;rfl;exact Tryz.func68);kernel_rfl;rfl;(focus((simp(disch:=omega) only[go_sem,W,kr]);(try rfl);done));(first|rfl));(simp(disch:=omega) only[go_sem,W,kr];refine hK _ ?_;clear hK K))|((with_reducible refine Q0c ?_ ?_);rfl;intro K hK;simp(disch:=omega) only[go_sem,W,kr];((repeat(refine ndI (by first|assumption|omega|rfl) ?_));refine hK _ ?_;clear hK K))|(with_reducible first|(refine Q0d ?_;refine hR _ ?_;clear hR R)|((first|refine Q0e ?_|refine Q0l ?_);intro Ψ hΨ hΨ')|(refine Q0a ?_;intro R hR)|(refine hΨ _ ?_;clear hΨ hΨ' Ψ)|refine Q0j ?_)|((with_reducible refine hΨ' _ _ ?_ ?_);(focus(simp;done));clear hΨ hΨ' Ψ)|((with_reducible apply Q0f);rfl;rfl;all_goals(intro hc;first|(cases hc;done)|(try simp only at hc)))))));(rw[k3]);exact hΨ _ hlt (St.le_of (by simp[leT]) (by simp[leH,hget])))
  |((have hge2:=hge);(repeat(any_goals(first|((with_reducible refine Q0i ?_ ?_ ?_);rfl;rfl;intro K hK;((apply Q0b (em);rfl;rfl;rfl;rfl;exact Tryz.func57);kernel_rfl;rfl;(focus((simp only[go_sem,k1,kr,hb6]);(try rfl);done));(first|rfl));(simp only[go_sem,k1,kr,hb6];refine hK _ ?_;clear hK K))|((with_reducible refine Q0c ?_ ?_);rfl;intro K hK;simp only[go_sem,k1,kr,hb6];((repeat(refine ndI (by first|assumption) ?_));refine hK _ ?_;clear hK K))|(with_reducible first|(refine Q0d ?_;refine hR _ ?_;clear hR R)|((first|refine Q0e ?_|refine Q0l ?_);intro Ψ hΨ hΨ')|(refine Q0a ?_;intro R hR)|(refine hΨ _ ?_;clear hΨ hΨ' Ψ)|refine Q0j ?_|refine Q0h ?_|refine Q1f ?_)|((with_reducible refine hΨ' _ _ ?_ ?_);(focus(simp;done));clear hΨ hΨ' Ψ)|((with_reducible apply Q0s);rfl;rfl;rfl;all_goals(intro hb;first|(cases hb;done)|((try simp only[Bool.not_true,Bool.not_false] at hb);(first|((with_reducible intro K hK);(first|((apply Q0b (em);rfl;rfl;rfl;rfl;exact Tryz.func57);kernel_rfl;rfl;(focus((simp only[go_sem,k1,kr,hb6]);(try rfl);done));(first|rfl))|skip);simp only[go_sem,k1,kr,hb6];((repeat(refine ndI (by first|assumption) ?_));refine hK _ ?_;clear hK K))|((fail_if_success (with_reducible intro _));simp only[go_sem,k1,kr,hb6])))))|((with_reducible apply Q0f);rfl;rfl;all_goals(intro hc;first|(cases hc;done)|(try simp only at hc)))))))
 · (have W:=ndI k4 (ndI k9 @Q0m);(repeat(any_goals(first|((with_reducible refine Q0i ?_ ?_ ?_);rfl;rfl;intro K hK;(first|((first|(apply Q0b (cx);rfl;rfl;rfl;rfl;exact Tryz.func68));kernel_rfl;rfl;(focus((simp(disch:=omega) only[go_sem,W,kr]);(try rfl);done));(first|rfl))|(apply Q0y (ins) (fun r=>if r=1000 then 18 else if r=1001 then 59 else 60);rfl;rfl;rfl;rfl;exact Tryz.func70;kernel_rfl;rfl;rfl;(intro r hr q hq h;simp(disch:=omega) only[List.map_cons,List.map_nil,List.cons_append,List.nil_append,List.mem_cons,List.not_mem_nil,or_false] at hr hq;(try dsimp only at h);first|(rcases hr with rfl|rfl|rfl<;>rcases hq with rfl|rfl|rfl<;>simp at h ⊢));(simp(disch:=omega) only[Q1e,Q1y,AV.ren,AV.renL,Q0p,List.mem_cons,List.not_mem_nil,forall_eq_or_imp,forall_eq,Q1v,List.contains_cons,List.contains_nil,AV.refsL,AV.refs,Q0m,AV.inN,AV.inNL,inH,Q0x,go_sem,W,kr])));(simp(disch:=omega) only[Q0t,Q1w,renH,AV.ren,AV.renL,Q0p,go_sem,W,kr];refine hK _ ?_;clear hK K))|((with_reducible refine Q0c ?_ ?_);rfl;intro K hK;simp(disch:=omega) only[go_sem,W,kr];((repeat(refine ndI (by first|assumption|rfl) ?_));refine hK _ ?_;clear hK K))|(with_reducible first|(refine Q0d ?_;refine hR _ ?_;clear hR R)|((first|refine Q0e ?_);intro Ψ hΨ hΨ')|(refine Q0a ?_;intro R hR)|(refine hΨ _ ?_;clear hΨ hΨ' Ψ)|refine Q0h ?_)|((with_reducible refine hΨ' _ _ ?_ ?_);(focus(simp;done));clear hΨ hΨ' Ψ)))))
   have e:L.length+1=(L.take p++x::L.drop p).length:=by rw[List.length_append,List.length_cons,List.length_take,List.length_drop];omega
   rw[e]
   exact⟨by simp,⟨_,rfl,AV.le_refl _⟩,Q0g (by simp[leH,hget,raS])⟩
 · (repeat(any_goals(fail)))
   (refine⟨by simp,⟨_,?_,AV.le_refl _⟩,Q0g (by simp[leH,hget])⟩;simp only[Tryz.results42,resL,ldA,Q0o,go_sem])
 · have hpp:=hpl rfl
   (repeat(any_goals(first|((with_reducible refine Q0i ?_ ?_ ?_);rfl;rfl;intro K hK;((first|(apply Q0b (cx);rfl;rfl;rfl;rfl;exact Tryz.func68));kernel_rfl;rfl;(focus((simp(disch:=omega) only[go_sem,k4,kr]);(try rfl);done));(first|rfl));(simp(disch:=omega) only[go_sem,k4,kr];refine hK _ ?_;clear hK K))|((with_reducible refine Q0c ?_ ?_);rfl;intro K hK;simp(disch:=omega) only[go_sem,k4,kr];((repeat(refine ndI (by first|assumption|omega|rfl) ?_));refine hK _ ?_;clear hK K))|(with_reducible first|(refine Q0d ?_;refine hR _ ?_;clear hR R)|((first|refine Q0e ?_);intro Ψ hΨ hΨ')|(refine Q0a ?_;intro R hR)|(refine hΨ _ ?_;clear hΨ hΨ' Ψ)|refine Q0h ?_)|((with_reducible refine hΨ' _ _ ?_ ?_);(focus(simp;done));clear hΨ hΨ' Ψ))))
   rw[ks rfl]
   have e:L.length=(L.take p++x::L.drop (p+1)).length:=by rw[List.length_append,List.length_cons,List.length_take,List.length_drop];omega
   rw[e]
   exact⟨by simp,⟨_,rfl,AV.le_refl _⟩,Q0g (by simp[leH,hget,raS])⟩
 · have hpp:=hpl rfl
   (have W:=ndI k4 (ndI k9 (ndI @Q0m @wrI));(repeat(any_goals(first|((with_reducible refine Q0i ?_ ?_ ?_);rfl;rfl;intro K hK;(first|(apply Q0y (de rfl) (fun r=>18);rfl;rfl;rfl;rfl;exact Tryz.func69;kernel_rfl;rfl;rfl;(intro r hr q hq h;simp(disch:=omega) only[List.map_cons,List.map_nil,List.cons_append,List.nil_append,List.mem_cons,List.not_mem_nil,or_false] at hr hq;(try dsimp only at h);first|omega);(simp(disch:=omega) only[Q1e,Q1y,AV.ren,AV.renL,Q0p,List.mem_cons,List.not_mem_nil,forall_eq_or_imp,forall_eq,Q1v,List.contains_cons,List.contains_nil,AV.refsL,AV.refs,Q0m,AV.inN,AV.inNL,inH,Q0x,go_sem,W,kr])));(simp(disch:=omega) only[Q0t,Q1w,renH,AV.ren,AV.renL,Q0p,go_sem,W,kr];refine hK _ ?_;clear hK K))|((with_reducible refine Q0c ?_ ?_);rfl;intro K hK;simp(disch:=omega) only[go_sem,W,kr];((repeat(refine ndI (by first|assumption|rfl) ?_));refine hK _ ?_;clear hK K))|(with_reducible first|(refine Q0d ?_;refine hR _ ?_;clear hR R)|((first|refine Q0e ?_);intro Ψ hΨ hΨ')|(refine Q0a ?_;intro R hR)|(refine hΨ _ ?_;clear hΨ hΨ' Ψ)|refine Q0h ?_)|((with_reducible refine hΨ' _ _ ?_ ?_);(focus(simp;done));clear hΨ hΨ' Ψ)))))
   have e:L.length-1=(L.take p++L.drop (p+1)).length:=by rw[List.length_append,List.length_take,List.length_drop];omega
   rw[e]
   exact⟨by simp,⟨_,rfl,AV.le_refl _⟩,Q0g (by simp[leH,hget,raS])⟩
theorem X3j(ex:Bool)(L:List Ac)(hl:L.length≤900)(ok:∀x∈L,x.code.length≤1000000∧x.store.length≤1000000)(x:Ac)(hx:x.b<WW∧x.code.length≤1000000∧x.store.length≤1000000):Fn Tryz.prog 42 [stA ex L,acA x] [] (stA false (Q1p L x)) []:=by
 obtain⟨d,k⟩:=lays_row ex L hl ok x hx
 have h:=Fn.frzG k
 have e:((Q1p L x).flatMap Ac.pv).length=(Q1p L x).length*8:=Q0u Q6a _
 simpa [-List.length_flatMap,AV.frz,AV.frzL,e] using h
def Okl(L:List Ac):Prop:=L.length≤800∧∀x∈L,x.ok∧x.code.length≤1000000∧x.store.length≤1000000
def Okx(x:Ac):Prop:=x.ok∧x.code.length≤1000000∧x.store.length≤1000000
abbrev resS(r:List Ac×Int):AV:=.tup [stA false r.1,vi .i64 r.2]
def putS(L:List Ac)(x:Ac):List Ac×Int:=if !okAc x then([],161) else if !Q1s x && !Q4d L x.a then([],6) else if WW≤((Q1p L x).map Ac.b).sum then([],2) else(Q1p L x,0)
def lessS(L:List Ac)(x:Ac)(n:Nat):List Ac×Int:=if x.b<n then([],162) else(Q1p L {x with b:=x.b-n},0)
theorem Q2m(L:List Ac)(x:Ac):(Q1p L x).length≤L.length+1:=by
 unfold Q1p
 have:=Q8n (ltA L x.a) L.length 0 L.length (Nat.zero_le _)
 have hp:posS L x.a≤L.length:=this
 split
 · split<;>(try simp only[List.length_append,List.length_cons,List.length_take,List.length_drop])<;>omega
 · split<;>(try simp only[List.length_append,List.length_cons,List.length_take,List.length_drop])<;>omega
theorem Q6n{L:List Ac}{x y:Ac}(h:y∈Q1p L x):y=x∨y∈L:=by
 unfold Q1p at h
 split at h
 · split at h
   · rcases List.mem_append.1 h with h|h
     · exact .inr (List.mem_of_mem_take h)
     · exact .inr (List.mem_of_mem_drop h)
   · rcases List.mem_append.1 h with h|h
     · exact .inr (List.mem_of_mem_take h)
     · rcases List.mem_cons.1 h with h|h
       · exact .inl h
       · exact .inr (List.mem_of_mem_drop h)
 · split at h
   · exact .inr h
   · rcases List.mem_append.1 h with h|h
     · exact .inr (List.mem_of_mem_take h)
     · rcases List.mem_cons.1 h with h|h
       · exact .inl h
       · exact .inr (List.mem_of_mem_drop h)
theorem Q7e(e:Int):(AV.tup [.agg [.c (.v (.slice none 0 0))],vi .i64 e]).le (resS ([],e)):=AV.le_tupL ⟨AV.le_agg ⟨AV.le_nil _ _,trivial⟩,AV.le_refl _,trivial⟩
theorem less_fn(ex:Bool)(L:List Ac)(hL:Okl L)(x:Ac)(hx:Okx x)(n:Nat)(hn:n<WW):Fn Tryz.prog 41 [stA ex L,acA x,wN n] [] (resS (lessS L x n)) []:=by
 obtain⟨h1,h2⟩:=hL
 obtain⟨⟨u1,u2,u3,u4,u5,u6⟩,g1,g2⟩:=hx
 have sb:=X7e x.b n u2 hn
 unfold lessS
 by_cases h:x.b<n
 · rw[decide_eq_true h] at sb
   generalize (x.b+WW-n)%WW=m at sb
   rw[if_pos h]
   (refine Q0n Tryz.func41 rfl (by rfl) ?_;simp only[Tryz.ntmps41,List.length_cons,List.length_nil,Nat.reduceAdd,Nat.reduceSub,List.replicate,List.cons_append,List.nil_append])
   (repeat(any_goals(first|((with_reducible refine Q0i ?_ ?_ ?_);rfl;rfl;intro K hK;((apply Q0b (sb);rfl;rfl;rfl;rfl;exact Tryz.func52);kernel_rfl;rfl;(focus((simp only[go_sem]);(try rfl);done));(first|rfl));(simp only[go_sem];refine hK _ ?_;clear hK K))|((with_reducible refine Q0c ?_ ?_);rfl;intro K hK;simp only[go_sem];((repeat(refine ndI (by first|assumption) ?_));refine hK _ ?_;clear hK K))|(with_reducible first|(refine Q0d ?_;refine hR _ ?_;clear hR R)|((first|refine Q0e ?_);intro Ψ hΨ hΨ')|(refine Q0a ?_;intro R hR)|(refine hΨ _ ?_;clear hΨ hΨ' Ψ)|refine Q0h ?_)|((with_reducible refine hΨ' _ _ ?_ ?_);(focus(simp;done));clear hΨ hΨ' Ψ)|((with_reducible apply Q0f);rfl;rfl;all_goals(intro hc;first|(cases hc;done)|(try simp only at hc))))))
   exact⟨by simp,⟨_,rfl,Q7e _⟩,Q0g (by simp[leH,hget])⟩
 · rw[decide_eq_false h] at sb
   have e:(x.b+WW-n)%WW=x.b-n:=by
    rw[show x.b+WW-n=(x.b-n)+WW by omega,Nat.add_mod_right,Nat.mod_eq_of_lt (by omega)]
   rw[e] at sb
   rw[if_neg h]
   have ly:=X3j ex L (by omega) (fun y hy=>⟨(h2 y hy).2.1,(h2 y hy).2.2⟩) {x with b:=x.b-n} ⟨by show x.b-n<WW;omega,g1,g2⟩
   generalize Q1p L {x with b:=x.b-n}=R at ly ⊢
   generalize x.b-n=m at sb ly
   (refine Q0n Tryz.func41 rfl (by rfl) ?_;simp only[Tryz.ntmps41,List.length_cons,List.length_nil,Nat.reduceAdd,Nat.reduceSub,List.replicate,List.cons_append,List.nil_append])
   (repeat(any_goals(first|((with_reducible refine Q0i ?_ ?_ ?_);rfl;rfl;intro K hK;((first|(apply Q0b (sb);rfl;rfl;rfl;rfl;exact Tryz.func52)|(apply Q0b (ly);rfl;rfl;rfl;rfl;exact Tryz.func42));kernel_rfl;rfl;(focus((simp only[go_sem]);(try rfl);done));(first|rfl));(simp only[go_sem];refine hK _ ?_;clear hK K))|((with_reducible refine Q0c ?_ ?_);rfl;intro K hK;simp only[go_sem];((repeat(refine ndI (by first|assumption) ?_));refine hK _ ?_;clear hK K))|(with_reducible first|(refine Q0d ?_;refine hR _ ?_;clear hR R)|((first|refine Q0e ?_);intro Ψ hΨ hΨ')|(refine Q0a ?_;intro R hR)|(refine hΨ _ ?_;clear hΨ hΨ' Ψ)|refine Q0j ?_|refine Q0h ?_)|((with_reducible apply Q0f);rfl;rfl;all_goals(intro hc;first|(cases hc;done)|(try simp only at hc))))))
   all_goals(refine⟨by simp,⟨_,?_,AV.le_refl _⟩,Q0g (by simp[leH,hget])⟩;simp only[Tryz.results41,resL,ldA,Q0o,go_sem])
theorem put_fn(ex:Bool)(L:List Ac)(hL:Okl L)(x:Ac)(hx:Okx x):Fn Tryz.prog 51 [stA ex L,acA x] [] (resS (putS L x)) []:=by
 obtain⟨h1,h2⟩:=hL
 obtain⟨⟨u1,u2,u3,⟨u4,u5⟩,u6,u7⟩,g1,g2⟩:=hx
 have ck:=check_fn x u7 u6 u4
 have em:=Q7a x u2 u6 u4 (Nat.le_trans (Nat.add_le_add g1 g2) (by decide))
 have rm:=room_fn ex L (by omega) x.a
 have ly:=X3j ex L (by omega) (fun y hy=>⟨(h2 y hy).2.1,(h2 y hy).2.2⟩) x ⟨u2,g1,g2⟩
 have hlen:=Q2m L x
 have tn:=X0d false (Q1p L x) (by omega) fun y hy=>by
  rcases Q6n hy with rfl|h
  · exact u2
  · exact(h2 y h).1.2.1
 unfold putS
 generalize Q1p L x=R at ly tn ⊢
 by_cases hq:WW≤(R.map Ac.b).sum
 case' pos=>rw[decide_eq_true hq] at tn;rw[if_pos hq]
 case' neg=>rw[decide_eq_false hq] at tn;rw[if_neg hq]
 all_goals generalize okAc x=q1 at ck ⊢
 all_goals generalize Q1s x=q2 at em ⊢
 all_goals generalize Q4d L x.a=q3 at rm ⊢
 all_goals generalize (R.map Ac.b).sum%WW=m at tn
 all_goals cases q1<;>cases q2<;>cases q3
 all_goals simp only[Bool.false_eq_true,if_true,if_false] at ck
 all_goals(refine Q0n Tryz.func51 rfl (by rfl) ?_;simp only[Tryz.ntmps51,List.length_cons,List.length_nil,Nat.reduceAdd,Nat.reduceSub,List.replicate,List.cons_append,List.nil_append])
 all_goals(repeat(any_goals(first|((with_reducible refine Q0i ?_ ?_ ?_);rfl;rfl;intro K hK;((first|(apply Q0b (ck);rfl;rfl;rfl;rfl;exact Tryz.func56)|(apply Q0b (em);rfl;rfl;rfl;rfl;exact Tryz.func57)|(apply Q0b (ly);rfl;rfl;rfl;rfl;exact Tryz.func42)|(apply Q0b (tn);rfl;rfl;rfl;rfl;exact Tryz.func50));kernel_rfl;rfl;(focus((simp only[go_sem]);(try rfl);done));(first|rfl));(simp only[go_sem];refine hK _ ?_;clear hK K))|((with_reducible refine Q0c ?_ ?_);rfl;intro K hK;simp only[go_sem];((repeat(refine ndI (by first|assumption) ?_));refine hK _ ?_;clear hK K))|(with_reducible first|(refine Q0d ?_;refine hR _ ?_;clear hR R)|((first|refine Q0e ?_);intro Ψ hΨ hΨ')|(refine Q0a ?_;intro R hR)|(refine hΨ _ ?_;clear hΨ hΨ' Ψ)|refine Q0j ?_|refine Q0h ?_)|((with_reducible refine hΨ' _ _ ?_ ?_);(focus(simp;done));clear hΨ hΨ' Ψ)|((with_reducible apply Q0s);rfl;rfl;rfl;all_goals(intro hb;first|(cases hb;done)|((try simp only[Bool.not_true,Bool.not_false] at hb);(first|((with_reducible intro K hK);(first|((apply Q0b (rm);rfl;rfl;rfl;rfl;exact Tryz.func43);kernel_rfl;rfl;(focus((simp only[go_sem]);(try rfl);done));(first|rfl))|skip);simp only[go_sem];((repeat(refine ndI (by first|assumption) ?_));refine hK _ ?_;clear hK K))|((fail_if_success (with_reducible intro _));simp only[go_sem])))))|((with_reducible apply Q0f);rfl;rfl;all_goals(intro hc;first|(cases hc;done)|(try simp only at hc))))))
 all_goals first
  |exact⟨by simp,⟨_,rfl,Q7e _⟩,Q0g (by simp[leH,hget])⟩
  |((refine⟨by simp,⟨_,?_,AV.le_refl _⟩,Q0g (by simp[leH,hget])⟩;simp only[Tryz.results51,resL,ldA,Q0o,go_sem]);done)
  |((refine⟨by simp,⟨_,?_,AV.le_refl _⟩,Q0g (by simp[leH,hget])⟩;simp only[Tryz.results51,resL,ldA,Q0o,go_sem]);rfl)
end
section
open Go.RowKit
open Nat (reduceBEq)
set_option maxRecDepth 20000
set_option maxHeartbeats 2000000
def Q4j(L:List Ac)(a:Int)(r:List Ac×Int):List Ac×Int:=if !okSt L then([],160) else if a=0 then([],2) else r
theorem Q9w{L:List Ac}(h:Okl L):∀x∈L,x.fine:=fun x hx=>⟨(h.2 x hx).1,Nat.le_trans (Nat.add_le_add (h.2 x hx).2.1 (h.2 x hx).2.2) (by decide)⟩
theorem with2_fn (ex:Bool) (L:List Ac) (hL:Okl L) (a:Int) {f:FuncId} {fn:Func} (hg1:Tryz.prog.funcs[f]? = some fn) (hg2:(fn.name == "runtime.NumGoroutine")=false) (hg3:fn.body.isNone=false) (A B:List PV) (r:List Ac×Int) (D:Fn Tryz.prog f [acA (ofS L a),.ep A,.ep B] [] (resS r) []) :
 Fn Tryz.prog 39 [stA ex L,vi .u64 a,.fn f [.ep A,.ep B]] [] (resS (Q4j L a r)) []:=by
 have ck:=Q6u ex L (by have:=hL.1;omega) (Q9w hL)
 have of:=of_fn ex L (by have:=hL.1;omega) (fun y hy=>⟨(hL.2 y hy).2.1,(hL.2 y hy).2.2⟩) a
 unfold Q4j
 generalize okSt L=q at ck ⊢
 generalize ofS L a=x at of D
 cases q with
 |false=>
  simp only[Bool.false_eq_true,if_false] at ck
  (refine Q0n Tryz.func39 rfl (by rfl) ?_;simp only[Tryz.ntmps39,List.length_cons,List.length_nil,Nat.reduceAdd,Nat.reduceSub,List.replicate,List.cons_append,List.nil_append])
  (repeat(any_goals(first|((with_reducible refine Q0i ?_ ?_ ?_);rfl;rfl;intro K hK;((apply Q0b (ck);rfl;rfl;rfl;rfl;exact Tryz.func21);kernel_rfl;rfl;(focus((simp only[go_sem]);(try rfl);done));(first|rfl));(simp only[go_sem];refine hK _ ?_;clear hK K))|((with_reducible refine Q0c ?_ ?_);rfl;intro K hK;simp only[go_sem];((repeat(refine ndI (by first|assumption|rfl) ?_));refine hK _ ?_;clear hK K))|(with_reducible first|(refine Q0d ?_;refine hR _ ?_;clear hR R)|((first|refine Q0e ?_);intro Ψ hΨ hΨ')|(refine Q0a ?_;intro R hR)|(refine hΨ _ ?_;clear hΨ hΨ' Ψ)|refine Q0h ?_)|((with_reducible refine hΨ' _ _ ?_ ?_);(focus(simp;done));clear hΨ hΨ' Ψ)|((with_reducible apply Q0f);rfl;rfl;all_goals(intro hc;first|(cases hc;done)|(try simp only at hc))))))
  exact⟨by simp,⟨_,rfl,Q7e _⟩,Q0g (by simp[leH,hget])⟩
 |true=>
  simp only[if_true] at ck
  by_cases h:a=0
  · subst h
    (refine Q0n Tryz.func39 rfl (by rfl) ?_;simp only[Tryz.ntmps39,List.length_cons,List.length_nil,Nat.reduceAdd,Nat.reduceSub,List.replicate,List.cons_append,List.nil_append])
    (repeat(any_goals(first|((with_reducible refine Q0i ?_ ?_ ?_);rfl;rfl;intro K hK;((apply Q0b (ck);rfl;rfl;rfl;rfl;exact Tryz.func21);kernel_rfl;rfl;(focus((simp only[go_sem]);(try rfl);done));(first|rfl));(simp only[go_sem];refine hK _ ?_;clear hK K))|((with_reducible refine Q0c ?_ ?_);rfl;intro K hK;simp only[go_sem];((repeat(refine ndI (by first|assumption|rfl) ?_));refine hK _ ?_;clear hK K))|(with_reducible first|(refine Q0d ?_;refine hR _ ?_;clear hR R)|((first|refine Q0e ?_);intro Ψ hΨ hΨ')|(refine Q0a ?_;intro R hR)|(refine hΨ _ ?_;clear hΨ hΨ' Ψ)|refine Q0j ?_|refine Q0h ?_)|((with_reducible refine hΨ' _ _ ?_ ?_);(focus(simp;done));clear hΨ hΨ' Ψ)|((with_reducible apply Q0f);rfl;rfl;all_goals(intro hc;first|(cases hc;done)|(try simp only at hc))))))
    exact⟨by simp,⟨_,rfl,Q7e _⟩,Q0g (by simp[leH,hget])⟩
  · have ha:(a==0)=false:=by simpa using h
    rw[if_neg h]
    obtain⟨R,e⟩:=r
    (refine Q0n Tryz.func39 rfl (by rfl) ?_;simp only[Tryz.ntmps39,List.length_cons,List.length_nil,Nat.reduceAdd,Nat.reduceSub,List.replicate,List.cons_append,List.nil_append])
    (repeat(any_goals(first|((with_reducible refine Q0i ?_ ?_ ?_);rfl;rfl;intro K hK;(first|(apply Q0b (D);rfl;rfl;rfl;rfl;exact hg1;exact hg2;exact hg3;(focus((simp only[go_sem,ha]);(try rfl);done));(first|rfl))|((first|(apply Q0b (ck);rfl;rfl;rfl;rfl;exact Tryz.func21)|(apply Q0b (of);rfl;rfl;rfl;rfl;exact Tryz.func44));kernel_rfl;rfl;(focus((simp only[go_sem,ha]);(try rfl);done));(first|rfl)));(simp only[go_sem,ha];refine hK _ ?_;clear hK K))|((with_reducible refine Q0c ?_ ?_);rfl;intro K hK;simp only[go_sem,ha];((repeat(refine ndI (by first|assumption|rfl) ?_));refine hK _ ?_;clear hK K))|(with_reducible first|(refine Q0d ?_;refine hR _ ?_;clear hR R)|((first|refine Q0e ?_);intro Ψ hΨ hΨ')|(refine Q0a ?_;intro R hR)|(refine hΨ _ ?_;clear hΨ hΨ' Ψ)|refine Q0j ?_|refine Q0h ?_)|((with_reducible apply Q0f);rfl;rfl;all_goals(intro hc;first|(cases hc;done)|(try simp only at hc))))))
    all_goals(refine⟨by simp,⟨_,?_,AV.le_refl _⟩,Q0g (by simp[leH,hget])⟩;simp only[Tryz.results39,resL,ldA,Q0o,go_sem])
def Q7d(L:List Ac)(a:Int)(n:Nat):List Ac×Int:=Q4j L a (if WW≤n+(L.map Ac.b).sum then([],2) else putS L {ofS L a with b:=((ofS L a).b+n)%WW})
theorem Q9v{a:Int}(ha:U a):Okx ⟨a,0,0,[],[]⟩:=
 ⟨⟨ha,(by decide:0<WW),⟨Int.le_refl 0,by show(0:Int)≤_;decide⟩,⟨Nat.zero_le _,fun c h=>by cases h⟩,Nat.zero_le _,fun c h=>by cases h⟩,Nat.zero_le _,Nat.zero_le _⟩
theorem X2a{L:List Ac}(hL:Okl L){a:Int}(ha:U a):Okx (ofS L a):=by
 unfold ofS
 split
 · cases hx:L[posS L a]? with
   |none=>exact Q9v ha
   |some x=>exact hL.2 x (List.mem_of_getElem? hx)
 · exact Q9v ha
theorem mint1_fn(ex:Bool)(L:List Ac)(hL:Okl L)(x:Ac)(hx:Okx x)(n:Nat)(hn:n<WW):Fn Tryz.prog 49 [acA x,.ep [.sl ex 8 L.length (L.flatMap Ac.pv)],.ep (wpv n)] [] (resS (if WW≤n+(L.map Ac.b).sum then([],2) else putS L {x with b:=(x.b+n)%WW})) []:=by
 obtain⟨u1,u2⟩:=hx
 have tr:=total_row ex [n] (by simp) (by simpa using hn) L (by have:=hL.1;omega) fun y hy=>(hL.2 y hy).1.2.1
 have ad:=X2m x.b n u1.2.1 hn
 have pt:=put_fn ex L hL {x with b:=(x.b+n)%WW} ⟨⟨u1.1,Nat.mod_lt _ (by decide),u1.2.2⟩,u2⟩
 rw[show([n]++L.map Ac.b).sum=n+(L.map Ac.b).sum by simp,show rcW [n]=[vi .u64 (l0 n),vi .u64 (l1 n),vi .u64 (l2 n),vi .u64 (l3 n)] from rfl] at tr
 generalize putS L {x with b:=(x.b+n)%WW}=r at pt ⊢
 generalize (x.b+n)%WW=m at ad pt
 generalize decide (WW≤x.b+n)=q at ad
 generalize (n+(L.map Ac.b).sum)%WW=k at tr
 obtain⟨R,e⟩:=r
 unfold wpv
 by_cases h:WW≤n+(L.map Ac.b).sum
 · rw[decide_eq_true h] at tr
   rw[if_pos h]
   (refine Q0n Tryz.func49 rfl (by rfl) ?_;simp only[Tryz.ntmps49,List.length_cons,List.length_nil,Nat.reduceAdd,Nat.reduceSub,List.replicate,List.cons_append,List.nil_append])
   (repeat(any_goals(first|((with_reducible refine Q0i ?_ ?_ ?_);rfl;rfl;intro K hK;(apply Q0y (tr) (fun r=>11);rfl;rfl;rfl;rfl;exact Tryz.func50;kernel_rfl;rfl;rfl;(intro r hr q hq h;simp only[List.map_cons,List.map_nil,List.cons_append,List.nil_append,List.mem_cons,List.not_mem_nil,or_false] at hr hq;(try dsimp only at h);first|omega);(simp only[Q1e,Q1y,AV.ren,AV.renL,Q0p,List.mem_cons,List.not_mem_nil,forall_eq_or_imp,forall_eq,Q1v,List.contains_cons,List.contains_nil,AV.refsL,AV.refs,Q0m,AV.inN,AV.inNL,inH,Q0x,go_sem]));(simp only[Q0t,Q1w,renH,AV.ren,AV.renL,Q0p,go_sem];refine hK _ ?_;clear hK K))|((with_reducible refine Q0c ?_ ?_);rfl;intro K hK;simp only[go_sem];((repeat(refine ndI (by first|assumption) ?_));refine hK _ ?_;clear hK K))|(with_reducible first|(refine Q0d ?_;refine hR _ ?_;clear hR R)|((first|refine Q0e ?_);intro Ψ hΨ hΨ')|(refine Q0a ?_;intro R hR)|(refine hΨ _ ?_;clear hΨ hΨ' Ψ)|refine Q0h ?_)|((with_reducible refine hΨ' _ _ ?_ ?_);(focus(simp;done));clear hΨ hΨ' Ψ)|((with_reducible apply Q0f);rfl;rfl;all_goals(intro hc;first|(cases hc;done)|(try simp only at hc))))))
   exact⟨by simp,⟨_,rfl,Q7e _⟩,Q0g (by simp[leH,hget])⟩
 · rw[decide_eq_false h] at tr
   rw[if_neg h]
   (refine Q0n Tryz.func49 rfl (by rfl) ?_;simp only[Tryz.ntmps49,List.length_cons,List.length_nil,Nat.reduceAdd,Nat.reduceSub,List.replicate,List.cons_append,List.nil_append])
   (repeat(any_goals(first|((with_reducible refine Q0i ?_ ?_ ?_);rfl;rfl;intro K hK;(first|((first|(apply Q0b (ad);rfl;rfl;rfl;rfl;exact Tryz.func45)|(apply Q0b (pt);rfl;rfl;rfl;rfl;exact Tryz.func51));kernel_rfl;rfl;(focus((simp only[go_sem]);(try rfl);done));(first|rfl))|(apply Q0y (tr) (fun r=>11);rfl;rfl;rfl;rfl;exact Tryz.func50;kernel_rfl;rfl;rfl;(intro r hr q hq h;simp only[List.map_cons,List.map_nil,List.cons_append,List.nil_append,List.mem_cons,List.not_mem_nil,or_false] at hr hq;(try dsimp only at h);first|omega);(simp only[Q1e,Q1y,AV.ren,AV.renL,Q0p,List.mem_cons,List.not_mem_nil,forall_eq_or_imp,forall_eq,Q1v,List.contains_cons,List.contains_nil,AV.refsL,AV.refs,Q0m,AV.inN,AV.inNL,inH,Q0x,go_sem])));(simp only[Q0t,Q1w,renH,AV.ren,AV.renL,Q0p,go_sem];refine hK _ ?_;clear hK K))|((with_reducible refine Q0c ?_ ?_);rfl;intro K hK;simp only[go_sem];((repeat(refine ndI (by first|assumption) ?_));refine hK _ ?_;clear hK K))|(with_reducible first|(refine Q0d ?_;refine hR _ ?_;clear hR R)|((first|refine Q0e ?_);intro Ψ hΨ hΨ')|(refine Q0a ?_;intro R hR)|(refine hΨ _ ?_;clear hΨ hΨ' Ψ)|refine Q0j ?_|refine Q0h ?_)|((with_reducible apply Q0f);rfl;rfl;all_goals(intro hc;first|(cases hc;done)|(try simp only at hc))))))
   all_goals(refine⟨by simp,⟨_,?_,AV.le_refl _⟩,Q0g (by simp[leH,hget])⟩;simp only[Tryz.results49,resL,ldA,Q0o,go_sem])
theorem mint_fn(ex:Bool)(L:List Ac)(hL:Okl L)(a:Int)(ha:U a)(n:Nat)(hn:n<WW):Fn Tryz.prog 11 [stA ex L,vi .u64 a,wN n] [] (resS (Q7d L a n)) []:=by
 have w2:=with2_fn ex L hL a Tryz.func49 rfl rfl _ _ _ (mint1_fn ex L hL (ofS L a) (X2a hL ha) n hn)
 unfold Q7d
 generalize Q4j L a _=r at w2 ⊢
 obtain⟨R,e⟩:=r
 unfold wpv at w2
 (refine Q0n Tryz.func11 rfl (by rfl) ?_;simp only[Tryz.ntmps11,List.length_cons,List.length_nil,Nat.reduceAdd,Nat.reduceSub,List.replicate,List.cons_append,List.nil_append])
 (repeat(any_goals(first|((with_reducible refine Q0c ?_ ?_);rfl;intro K hK;simp only[go_sem];((repeat(refine ndI (by first|assumption) ?_));refine hK _ ?_;clear hK K))|(with_reducible first|(refine Q0d ?_;refine hR _ ?_;clear hR R)|((first|refine Q0e ?_);intro Ψ hΨ hΨ')|(refine Q0a ?_;intro R hR)|(refine hΨ _ ?_;clear hΨ hΨ' Ψ)))))
 refine Q8j rfl (St.to.frz 3 (pcs:=[.sl ex 8 L.length (L.flatMap Ac.pv)]) (by simp[hget])) ?_
 simp only[St.frz,AV.frzL,AV.frz,frzH,if_true,eq_self,↓reduceIte,Nat.reduceEqDiff,List.length_cons,List.length_nil,List.drop,Nat.reduceAdd,Nat.reduceLT]
 refine Q8j rfl (St.to.frz 5 (pcs:=[.v (.int .u64 (l0 n)),.v (.int .u64 (l1 n)),.v (.int .u64 (l2 n)),.v (.int .u64 (l3 n))]) (by simp[hget])) ?_
 simp only[St.frz,AV.frzL,AV.frz,frzH,if_true,eq_self,↓reduceIte,Nat.reduceEqDiff,List.length_cons,List.length_nil,List.drop,Nat.reduceAdd,Nat.reduceLT]
 (repeat(any_goals(first|((with_reducible refine Q0i ?_ ?_ ?_);rfl;rfl;intro K hK;((apply Q0b (w2);rfl;rfl;rfl;rfl;exact Tryz.func39);kernel_rfl;rfl;(focus((simp only[go_sem]);(try rfl);done));(first|rfl));(simp only[go_sem];refine hK _ ?_;clear hK K))|((with_reducible refine Q0c ?_ ?_);rfl;intro K hK;simp only[go_sem];((repeat(refine ndI (by first|assumption) ?_));refine hK _ ?_;clear hK K))|(with_reducible first|(refine Q0d ?_;refine hR _ ?_;clear hR R)|(refine hΨ _ ?_;clear hΨ hΨ' Ψ)|refine Q0h ?_))))
 all_goals(refine⟨by simp,⟨_,?_,AV.le_refl _⟩,Q0g (by simp[leH,hget])⟩;simp only[Tryz.results11,resL,ldA,Q0o,go_sem])
theorem with4_fn (ex:Bool) (L:List Ac) (hL:Okl L) (a:Int) {f:FuncId} {fn:Func} (hg1:Tryz.prog.funcs[f]? = some fn) (hg2:(fn.name == "runtime.NumGoroutine")=false) (hg3:fn.body.isNone=false) (A B C E:List PV) (r:List Ac×Int) (D:Fn Tryz.prog f [acA (ofS L a),.ep A,.ep B,.ep C,.ep E] [] (resS r) []) :
 Fn Tryz.prog 39 [stA ex L,vi .u64 a,.fn f [.ep A,.ep B,.ep C,.ep E]] [] (resS (Q4j L a r)) []:=by
 have ck:=Q6u ex L (by have:=hL.1;omega) (Q9w hL)
 have of:=of_fn ex L (by have:=hL.1;omega) (fun y hy=>⟨(hL.2 y hy).2.1,(hL.2 y hy).2.2⟩) a
 unfold Q4j
 generalize okSt L=q at ck ⊢
 generalize ofS L a=x at of D
 cases q with
 |false=>
  simp only[Bool.false_eq_true,if_false] at ck
  (refine Q0n Tryz.func39 rfl (by rfl) ?_;simp only[Tryz.ntmps39,List.length_cons,List.length_nil,Nat.reduceAdd,Nat.reduceSub,List.replicate,List.cons_append,List.nil_append])
  (repeat(any_goals(first|((with_reducible refine Q0i ?_ ?_ ?_);rfl;rfl;intro K hK;((apply Q0b (ck);rfl;rfl;rfl;rfl;exact Tryz.func21);kernel_rfl;rfl;(focus((simp only[go_sem]);(try rfl);done));(first|rfl));(simp only[go_sem];refine hK _ ?_;clear hK K))|((with_reducible refine Q0c ?_ ?_);rfl;intro K hK;simp only[go_sem];((repeat(refine ndI (by first|assumption|rfl) ?_));refine hK _ ?_;clear hK K))|(with_reducible first|(refine Q0d ?_;refine hR _ ?_;clear hR R)|((first|refine Q0e ?_);intro Ψ hΨ hΨ')|(refine Q0a ?_;intro R hR)|(refine hΨ _ ?_;clear hΨ hΨ' Ψ)|refine Q0h ?_)|((with_reducible refine hΨ' _ _ ?_ ?_);(focus(simp;done));clear hΨ hΨ' Ψ)|((with_reducible apply Q0f);rfl;rfl;all_goals(intro hc;first|(cases hc;done)|(try simp only at hc))))))
  exact⟨by simp,⟨_,rfl,Q7e _⟩,Q0g (by simp[leH,hget])⟩
 |true=>
  simp only[if_true] at ck
  by_cases h:a=0
  · subst h
    (refine Q0n Tryz.func39 rfl (by rfl) ?_;simp only[Tryz.ntmps39,List.length_cons,List.length_nil,Nat.reduceAdd,Nat.reduceSub,List.replicate,List.cons_append,List.nil_append])
    (repeat(any_goals(first|((with_reducible refine Q0i ?_ ?_ ?_);rfl;rfl;intro K hK;((apply Q0b (ck);rfl;rfl;rfl;rfl;exact Tryz.func21);kernel_rfl;rfl;(focus((simp only[go_sem]);(try rfl);done));(first|rfl));(simp only[go_sem];refine hK _ ?_;clear hK K))|((with_reducible refine Q0c ?_ ?_);rfl;intro K hK;simp only[go_sem];((repeat(refine ndI (by first|assumption|rfl) ?_));refine hK _ ?_;clear hK K))|(with_reducible first|(refine Q0d ?_;refine hR _ ?_;clear hR R)|((first|refine Q0e ?_);intro Ψ hΨ hΨ')|(refine Q0a ?_;intro R hR)|(refine hΨ _ ?_;clear hΨ hΨ' Ψ)|refine Q0j ?_|refine Q0h ?_)|((with_reducible refine hΨ' _ _ ?_ ?_);(focus(simp;done));clear hΨ hΨ' Ψ)|((with_reducible apply Q0f);rfl;rfl;all_goals(intro hc;first|(cases hc;done)|(try simp only at hc))))))
    exact⟨by simp,⟨_,rfl,Q7e _⟩,Q0g (by simp[leH,hget])⟩
  · have ha:(a==0)=false:=by simpa using h
    rw[if_neg h]
    obtain⟨R,e⟩:=r
    (refine Q0n Tryz.func39 rfl (by rfl) ?_;simp only[Tryz.ntmps39,List.length_cons,List.length_nil,Nat.reduceAdd,Nat.reduceSub,List.replicate,List.cons_append,List.nil_append])
    (repeat(any_goals(first|((with_reducible refine Q0i ?_ ?_ ?_);rfl;rfl;intro K hK;(first|(apply Q0b (D);rfl;rfl;rfl;rfl;exact hg1;exact hg2;exact hg3;(focus((simp only[go_sem,ha]);(try rfl);done));(first|rfl))|((first|(apply Q0b (ck);rfl;rfl;rfl;rfl;exact Tryz.func21)|(apply Q0b (of);rfl;rfl;rfl;rfl;exact Tryz.func44));kernel_rfl;rfl;(focus((simp only[go_sem,ha]);(try rfl);done));(first|rfl)));(simp only[go_sem,ha];refine hK _ ?_;clear hK K))|((with_reducible refine Q0c ?_ ?_);rfl;intro K hK;simp only[go_sem,ha];((repeat(refine ndI (by first|assumption|rfl) ?_));refine hK _ ?_;clear hK K))|(with_reducible first|(refine Q0d ?_;refine hR _ ?_;clear hR R)|((first|refine Q0e ?_);intro Ψ hΨ hΨ')|(refine Q0a ?_;intro R hR)|(refine hΨ _ ?_;clear hΨ hΨ' Ψ)|refine Q0j ?_|refine Q0h ?_)|((with_reducible apply Q0f);rfl;rfl;all_goals(intro hc;first|(cases hc;done)|(try simp only at hc))))))
    all_goals(refine⟨by simp,⟨_,?_,AV.le_refl _⟩,Q0g (by simp[leH,hget])⟩;simp only[Tryz.results39,resL,ldA,Q0o,go_sem])
def Q7i(L:List Ac)(x:Ac)(fr to:Int)(n:Nat):List Ac×Int:=if to=0 then([],2) else if x.b<n then([],162) else if (decide (n=0)||fr==to)=true then(Q1p L x,0) else if Q4d L to=false then([],6) else(Q1p (Q1p L {x with b:=x.b-n}) {ofS L to with b:=((ofS L to).b+n)%WW},0)
theorem okl_lays{L:List Ac}(hL:Okl L){x:Ac}(hx:Okx x):(Q1p L x).length≤801∧∀y∈Q1p L x,Okx y:=⟨by have:=Q2m L x;have:=hL.1;omega,fun y hy=>by
 rcases Q6n hy with rfl|h
 · exact hx
 · exact hL.2 y h⟩
theorem move1_fn(ex:Bool)(L:List Ac)(hL:Okl L)(x:Ac)(hx:Okx x)(fr to:Int)(hto:U to)(n:Nat)(hn:n<WW):Fn Tryz.prog 40 [acA x,.ep [.v (.int .u64 to)],.ep [.sl ex 8 L.length (L.flatMap Ac.pv)],.ep (wpv n),.ep [.v (.int .u64 fr)]] [] (resS (Q7i L x fr to n)) []:=by
 unfold wpv Q7i
 by_cases h0:to=0
 · rw[if_pos h0]
   subst h0
   (refine Q0n Tryz.func40 rfl (by rfl) ?_;simp only[Tryz.ntmps40,List.length_cons,List.length_nil,Nat.reduceAdd,Nat.reduceSub,List.replicate,List.cons_append,List.nil_append])
   (repeat(any_goals(first|((with_reducible refine Q0c ?_ ?_);rfl;intro K hK;simp only[go_sem];((repeat(refine ndI (by first|assumption) ?_));refine hK _ ?_;clear hK K))|(with_reducible first|(refine Q0d ?_;refine hR _ ?_;clear hR R)|((first|refine Q0e ?_);intro Ψ hΨ hΨ')|(refine Q0a ?_;intro R hR)|(refine hΨ _ ?_;clear hΨ hΨ' Ψ)|refine Q0h ?_)|((with_reducible refine hΨ' _ _ ?_ ?_);(focus(simp;done));clear hΨ hΨ' Ψ)|((with_reducible apply Q0f);rfl;rfl;all_goals(intro hc;first|(cases hc;done)|(try simp only at hc))))))
   exact⟨by simp,⟨_,rfl,Q7e _⟩,Q0g (by simp[leH,hget])⟩
 rw[if_neg h0]
 have e0:(to==0)=false:=by simpa using h0
 have ls:=less_fn ex L hL x hx n hn
 unfold lessS at ls
 by_cases h1:x.b<n
 · rw[if_pos h1] at ls ⊢
   (refine Q0n Tryz.func40 rfl (by rfl) ?_;simp only[Tryz.ntmps40,List.length_cons,List.length_nil,Nat.reduceAdd,Nat.reduceSub,List.replicate,List.cons_append,List.nil_append])
   (repeat(any_goals(first|((with_reducible refine Q0i ?_ ?_ ?_);rfl;rfl;intro K hK;((apply Q0b (ls);rfl;rfl;rfl;rfl;exact Tryz.func41);kernel_rfl;rfl;(focus((simp only[go_sem,e0]);(try rfl);done));(first|rfl));(simp only[go_sem,e0];refine hK _ ?_;clear hK K))|((with_reducible refine Q0c ?_ ?_);rfl;intro K hK;simp only[go_sem,e0];((repeat(refine ndI (by first|assumption) ?_));refine hK _ ?_;clear hK K))|(with_reducible first|(refine Q0d ?_;refine hR _ ?_;clear hR R)|((first|refine Q0e ?_|refine Q0l ?_);intro Ψ hΨ hΨ')|(refine Q0a ?_;intro R hR)|(refine hΨ _ ?_;clear hΨ hΨ' Ψ)|refine Q0j ?_|refine Q0h ?_)|((with_reducible refine hΨ' _ _ ?_ ?_);(focus(simp;done));clear hΨ hΨ' Ψ)|((with_reducible apply Q0f);rfl;rfl;all_goals(intro hc;first|(cases hc;done)|(try simp only at hc))))))
   exact⟨by simp,⟨_,rfl,Q7e _⟩,Q0g (by simp[leH,hget])⟩
 rw[if_neg h1] at ls ⊢
 have hm:=okl_lays hL (x:={x with b:=x.b-n}) ⟨⟨hx.1.1,by have:=hx.1.2.1;show x.b-n<WW;omega,hx.1.2.2⟩,hx.2⟩
 generalize Q1p L {x with b:=x.b-n}=M at ls hm ⊢
 have f1:=X0c hn
 have lx:=X3j ex L (by have:=hL.1;omega) (fun y hy=>⟨(hL.2 y hy).2.1,(hL.2 y hy).2.2⟩) x ⟨hx.1.2.1,hx.2⟩
 have rm:=room_fn ex L (by have:=hL.1;omega) to
 have of:=of_fn ex L (by have:=hL.1;omega) (fun y hy=>⟨(hL.2 y hy).2.1,(hL.2 y hy).2.2⟩) to
 have oy:=X2a hL hto
 have ly:=X3j false M (by omega) (fun y hy=>(hm.2 y hy).2) {ofS L to with b:=((ofS L to).b+n)%WW} ⟨Nat.mod_lt _ (by decide),oy.2⟩
 have ad:=X2m (ofS L to).b n oy.1.2.1 hn
 generalize Q1p L x=X at lx ⊢
 generalize Q1p M _=Y at ly ⊢
 generalize ofS L to=y at of ly ad
 generalize (y.b+n)%WW=k at ad ly
 generalize decide (WW≤y.b+n)=q at ad
 generalize decide (n=0)=q1 at f1 ⊢
 obtain⟨q2,e2⟩:∃q,(fr==to)=q:=⟨_,rfl⟩
 rw[e2]
 generalize Q4d L to=q3 at rm ⊢
 cases q1<;>cases q2<;>cases q3
 all_goals(refine Q0n Tryz.func40 rfl (by rfl) ?_;simp only[Tryz.ntmps40,List.length_cons,List.length_nil,Nat.reduceAdd,Nat.reduceSub,List.replicate,List.cons_append,List.nil_append])
 all_goals(have W:=ndI e0 (ndI e2 f1);(repeat(any_goals(first|((with_reducible refine Q0i ?_ ?_ ?_);rfl;rfl;intro K hK;(first|((first|(apply Q0b (ls);rfl;rfl;rfl;rfl;exact Tryz.func41)|(apply Q0b (rm);rfl;rfl;rfl;rfl;exact Tryz.func43)|(apply Q0b (of);rfl;rfl;rfl;rfl;exact Tryz.func44)|(apply Q0b (ad);rfl;rfl;rfl;rfl;exact Tryz.func45));kernel_rfl;rfl;(focus((simp only[go_sem,W]);(try rfl);done));(first|rfl))|((apply Q0b (lx);rfl;rfl;rfl;rfl;exact Tryz.func42);kernel_rfl;rfl;(focus((simp only[go_sem,W]);(try rfl);done));(first|rfl))|((apply Q0b (ly);rfl;rfl;rfl;rfl;exact Tryz.func42);kernel_rfl;rfl;(focus((simp only[go_sem,W]);(try rfl);done));(first|rfl)));(simp only[go_sem,W];refine hK _ ?_;clear hK K))|((with_reducible refine Q0c ?_ ?_);rfl;intro K hK;simp only[go_sem,W];((repeat(refine ndI (by first|assumption) ?_));refine hK _ ?_;clear hK K))|(with_reducible first|(refine Q0d ?_;refine hR _ ?_;clear hR R)|((first|refine Q0e ?_|refine Q0l ?_);intro Ψ hΨ hΨ')|(refine Q0a ?_;intro R hR)|(refine hΨ _ ?_;clear hΨ hΨ' Ψ)|refine Q0j ?_|refine Q0h ?_)|((with_reducible refine hΨ' _ _ ?_ ?_);(focus(simp;done));clear hΨ hΨ' Ψ)|((with_reducible apply Q0s);rfl;rfl;rfl;all_goals(intro hb;first|(cases hb;done)|((try simp only[Bool.not_true,Bool.not_false] at hb);(first|((with_reducible intro K hK);simp only[go_sem,W];((repeat(refine ndI (by first|assumption) ?_));refine hK _ ?_;clear hK K))|((fail_if_success (with_reducible intro _));simp only[go_sem,W])))))|((with_reducible apply Q0f);rfl;rfl;all_goals(intro hc;first|(cases hc;done)|(try simp only at hc)))))))
 all_goals first
  |exact⟨by simp,⟨_,rfl,Q7e _⟩,Q0g (by simp[leH,hget])⟩
  |((refine⟨by simp,⟨_,?_,AV.le_refl _⟩,Q0g (by simp[leH,hget])⟩;simp only[Tryz.results40,resL,ldA,Q0o,go_sem]);done)
  |((refine⟨by simp,⟨_,?_,AV.le_refl _⟩,Q0g (by simp[leH,hget])⟩;simp only[Tryz.results40,resL,ldA,Q0o,go_sem]);rfl)
def Q2l(L:List Ac)(fr to:Int)(n:Nat):List Ac×Int:=Q4j L fr (Q7i L (ofS L fr) fr to n)
theorem X6m(ex:Bool)(L:List Ac)(hL:Okl L)(fr to:Int)(hf:U fr)(hto:U to)(n:Nat)(hn:n<WW):Fn Tryz.prog 9 [stA ex L,vi .u64 fr,vi .u64 to,wN n] [] (resS (Q2l L fr to n)) []:=by
 have w2:=with4_fn ex L hL fr Tryz.func40 rfl rfl _ _ _ _ _ (move1_fn ex L hL (ofS L fr) (X2a hL hf) fr to hto n hn)
 unfold Q2l
 generalize Q4j L fr _=r at w2 ⊢
 obtain⟨R,e⟩:=r
 unfold wpv at w2
 (refine Q0n Tryz.func9 rfl (by rfl) ?_;simp only[Tryz.ntmps9,List.length_cons,List.length_nil,Nat.reduceAdd,Nat.reduceSub,List.replicate,List.cons_append,List.nil_append])
 (repeat(any_goals(first|((with_reducible refine Q0c ?_ ?_);rfl;intro K hK;simp only[go_sem];((repeat(refine ndI (by first|assumption) ?_));refine hK _ ?_;clear hK K))|(with_reducible first|(refine Q0d ?_;refine hR _ ?_;clear hR R)|((first|refine Q0e ?_);intro Ψ hΨ hΨ')|(refine Q0a ?_;intro R hR)|(refine hΨ _ ?_;clear hΨ hΨ' Ψ)))))
 refine Q8j rfl (St.to.frz 4 (pcs:=[.sl ex 8 L.length (L.flatMap Ac.pv)]) (by simp[hget])) ?_
 simp only[St.frz,AV.frzL,AV.frz,frzH,if_true,eq_self,↓reduceIte,Nat.reduceEqDiff,List.length_cons,List.length_nil,List.drop,Nat.reduceAdd,Nat.reduceLT]
 refine Q8j rfl (St.to.frz 5 (pcs:=[.v (.int .u64 fr)]) (by simp[hget])) ?_
 simp only[St.frz,AV.frzL,AV.frz,frzH,if_true,eq_self,↓reduceIte,Nat.reduceEqDiff,List.length_cons,List.length_nil,List.drop,Nat.reduceAdd,Nat.reduceLT]
 refine Q8j rfl (St.to.frz 6 (pcs:=[.v (.int .u64 to)]) (by simp[hget])) ?_
 simp only[St.frz,AV.frzL,AV.frz,frzH,if_true,eq_self,↓reduceIte,Nat.reduceEqDiff,List.length_cons,List.length_nil,List.drop,Nat.reduceAdd,Nat.reduceLT]
 refine Q8j rfl (St.to.frz 7 (pcs:=[.v (.int .u64 (l0 n)),.v (.int .u64 (l1 n)),.v (.int .u64 (l2 n)),.v (.int .u64 (l3 n))]) (by simp[hget])) ?_
 simp only[St.frz,AV.frzL,AV.frz,frzH,if_true,eq_self,↓reduceIte,Nat.reduceEqDiff,List.length_cons,List.length_nil,List.drop,Nat.reduceAdd,Nat.reduceLT]
 (repeat(any_goals(first|((with_reducible refine Q0i ?_ ?_ ?_);rfl;rfl;intro K hK;((apply Q0b (w2);rfl;rfl;rfl;rfl;exact Tryz.func39);kernel_rfl;rfl;(focus((simp only[go_sem]);(try rfl);done));(first|rfl));(simp only[go_sem];refine hK _ ?_;clear hK K))|((with_reducible refine Q0c ?_ ?_);rfl;intro K hK;simp only[go_sem];((repeat(refine ndI (by first|assumption) ?_));refine hK _ ?_;clear hK K))|(with_reducible first|(refine Q0d ?_;refine hR _ ?_;clear hR R)|(refine hΨ _ ?_;clear hΨ hΨ' Ψ)|refine Q0h ?_))))
 all_goals(refine⟨by simp,⟨_,?_,AV.le_refl _⟩,Q0g (by simp[leH,hget])⟩;simp only[Tryz.results9,resL,ldA,Q0o,go_sem])
end
section
open Go.RowKit
open Nat (reduceBEq)
set_option maxRecDepth 20000
set_option maxHeartbeats 2000000
def saveR(L:List Ac)(x:Ac)(k v:Nat):List Ac×Int:=
 let p:=bsr (ltP x.store k) x.store.length 0 x.store.length
 let t:=eqP x.store k p
 if t&&decide (v=0) then putS L {x with store:=x.store.take p++x.store.drop (p+1)}
 else if t then putS L {x with store:=x.store.take p++⟨k,v⟩::x.store.drop (p+1)}
 else if !decide (v=0)&&decide (x.store.length=24) then([],6)
 else if !decide (v=0) then putS L {x with store:=x.store.take p++⟨k,v⟩::x.store.drop p}
 else putS L x
theorem okS_all{q:Bool}{L:List Ac}:∀{i:Nat},okS q L i=true→∀j,j<i→okS1 L j=true
 |0,_,j,hj=>by omega
 |i+1,h,j,hj=>by
  unfold okS at h
  rw[Bool.and_eq_true] at h
  by_cases e:j=i
  · rw[e];exact h.2
  · exact okS_all h.1 j (by omega)
theorem okSt_ac{L:List Ac}(h:okSt L=true):∀y∈L,okAc y=true:=fun y hy=>by
 obtain⟨j,hj⟩:=List.mem_iff_getElem?.1 hy
 have:=okS_all h j (List.getElem?_eq_some_iff.1 hj).1
 unfold okS1 at this
 rw[hj] at this
 simp only[Bool.and_eq_true] at this
 exact this.1.1
theorem X8r{x:Ac}(h:okAc x=true):x.store.length≤24:=by
 unfold okAc at h
 simp only[Bool.and_eq_true,decide_eq_true_eq] at h
 exact h.1.2
theorem ofS_store{L:List Ac}(h:okSt L=true)(a:Int):(ofS L a).store.length≤24:=by
 unfold ofS
 split
 · cases hx:L[posS L a]? with
   |none=>exact Nat.zero_le _
   |some x=>exact X8r (okSt_ac h x (List.mem_of_getElem? hx))
 · exact Nat.zero_le _
def saveS(L:List Ac)(a:Int)(k v:Nat):List Ac×Int:=Q4j L a (saveR L (ofS L a) k v)
def X1v(L:List Ac):Nat:=if okSt L then(L.map Ac.b).sum%WW else 0
theorem totalS_fn(ex:Bool)(L:List Ac)(hL:Okl L):Fn Tryz.prog 54 [stA ex L] [] (wN (X1v L)) []:=by
 have ck:=Q6u ex L (by have:=hL.1;omega) (Q9w hL)
 have tn:=X0d ex L (by have:=hL.1;omega) fun y hy=>(hL.2 y hy).1.2.1
 unfold X1v
 generalize okSt L=q at ck ⊢
 generalize (L.map Ac.b).sum%WW=m at tn ⊢
 generalize decide (WW≤(L.map Ac.b).sum)=q2 at tn
 cases q
 all_goals simp only[Bool.false_eq_true,if_true,if_false] at ck ⊢
 all_goals(refine Q0n Tryz.func54 rfl (by rfl) ?_;simp only[Tryz.ntmps54,List.length_cons,List.length_nil,Nat.reduceAdd,Nat.reduceSub,List.replicate,List.cons_append,List.nil_append])
 all_goals(repeat(any_goals(first|((with_reducible refine Q0i ?_ ?_ ?_);rfl;rfl;intro K hK;((first|(apply Q0b (ck);rfl;rfl;rfl;rfl;exact Tryz.func21)|(apply Q0b (tn);rfl;rfl;rfl;rfl;exact Tryz.func50));kernel_rfl;rfl;(focus((simp only[go_sem]);(try rfl);done));(first|rfl));(simp only[go_sem];refine hK _ ?_;clear hK K))|((with_reducible refine Q0c ?_ ?_);rfl;intro K hK;simp only[go_sem];((repeat(refine ndI (by first|assumption) ?_));refine hK _ ?_;clear hK K))|(with_reducible first|(refine Q0d ?_;refine hR _ ?_;clear hR R)|((first|refine Q0e ?_);intro Ψ hΨ hΨ')|(refine Q0a ?_;intro R hR)|(refine hΨ _ ?_;clear hΨ hΨ' Ψ)|refine Q0j ?_|refine Q0h ?_)|((with_reducible refine hΨ' _ _ ?_ ?_);(focus(simp;done));clear hΨ hΨ' Ψ)|((with_reducible apply Q0f);rfl;rfl;all_goals(intro hc;first|(cases hc;done)|(try simp only at hc))))))
 all_goals(refine⟨by simp,⟨_,?_,AV.le_refl _⟩,Q0g (by simp[leH,hget])⟩;simp only[Tryz.results54,resL,ldA,Q0o,go_sem])
 all_goals simp only[wN,Q2q,Q2p,Q2o,Q2n]
def OfS(L:List Ac)(a:Int):Ac:=if okSt L then ofS L a else⟨a,0,0,[],[]⟩
theorem OfS_fn(ex:Bool)(L:List Ac)(hL:Okl L)(a:Int):Fn Tryz.prog 66 [stA ex L,vi .u64 a] [] (acA (OfS L a)) []:=by
 have ck:=Q6u ex L (by have:=hL.1;omega) (Q9w hL)
 have of:=of_fn ex L (by have:=hL.1;omega) (fun y hy=>⟨(hL.2 y hy).2.1,(hL.2 y hy).2.2⟩) a
 unfold OfS
 generalize ofS L a=x at of ⊢
 generalize okSt L=q at ck ⊢
 cases q
 · simp only[Bool.false_eq_true,if_false] at ck ⊢
   have z:=AV.le_agg (a:=[vi .u64 a,vi .u64 0,vi .u64 0,vi .u64 0,vi .u64 0,vi .u64 0,.c (.v (.slice none 0 0)),.c (.v (.slice none 0 0))]) (b:=ac8 a 0 0 (bsV []) (psV [])) ⟨AV.le_refl _,AV.le_of (by rw[Q2q]),AV.le_of (by rw[Q2p]),AV.le_of (by rw[Q2o]),AV.le_of (by rw[Q2n]),AV.le_refl _,AV.le_nil _ _,AV.le_nil _ _,trivial⟩
   have k:Fn Tryz.prog 66 [stA ex L,vi .u64 a] [] (.agg [vi .u64 a,vi .u64 0,vi .u64 0,vi .u64 0,vi .u64 0,vi .u64 0,.c (.v (.slice none 0 0)),.c (.v (.slice none 0 0))]) []:=by
    (refine Q0n Tryz.func66 rfl (by rfl) ?_;simp only[Tryz.ntmps66,List.length_cons,List.length_nil,Nat.reduceAdd,Nat.reduceSub,List.replicate,List.cons_append,List.nil_append])
    (repeat(any_goals(first|((with_reducible refine Q0i ?_ ?_ ?_);rfl;rfl;intro K hK;((apply Q0b (ck);rfl;rfl;rfl;rfl;exact Tryz.func21);kernel_rfl;rfl;(focus((simp only[go_sem]);(try rfl);done));(first|rfl));(simp only[go_sem];refine hK _ ?_;clear hK K))|((with_reducible refine Q0c ?_ ?_);rfl;intro K hK;simp only[go_sem];((repeat(refine ndI (by first|assumption) ?_));refine hK _ ?_;clear hK K))|(with_reducible first|(refine Q0d ?_;refine hR _ ?_;clear hR R)|((first|refine Q0e ?_);intro Ψ hΨ hΨ')|(refine Q0a ?_;intro R hR)|(refine hΨ _ ?_;clear hΨ hΨ' Ψ)|refine Q0h ?_)|((with_reducible refine hΨ' _ _ ?_ ?_);(focus(simp;done));clear hΨ hΨ' Ψ)|((with_reducible apply Q0f);rfl;rfl;all_goals(intro hc;first|(cases hc;done)|(try simp only at hc))))))
    all_goals(refine⟨by simp,⟨_,?_,AV.le_refl _⟩,Q0g (by simp[leH,hget])⟩;simp only[Tryz.results66,resL,ldA,Q0o,go_sem])
   exact k.weaken z fun r cs h=>by cases h
 · simp only[if_true] at ck ⊢
   (refine Q0n Tryz.func66 rfl (by rfl) ?_;simp only[Tryz.ntmps66,List.length_cons,List.length_nil,Nat.reduceAdd,Nat.reduceSub,List.replicate,List.cons_append,List.nil_append])
   (repeat(any_goals(first|((with_reducible refine Q0i ?_ ?_ ?_);rfl;rfl;intro K hK;((first|(apply Q0b (ck);rfl;rfl;rfl;rfl;exact Tryz.func21)|(apply Q0b (of);rfl;rfl;rfl;rfl;exact Tryz.func44));kernel_rfl;rfl;(focus((simp only[go_sem]);(try rfl);done));(first|rfl));(simp only[go_sem];refine hK _ ?_;clear hK K))|((with_reducible refine Q0c ?_ ?_);rfl;intro K hK;simp only[go_sem];((repeat(refine ndI (by first|assumption) ?_));refine hK _ ?_;clear hK K))|(with_reducible first|(refine Q0d ?_;refine hR _ ?_;clear hR R)|((first|refine Q0e ?_);intro Ψ hΨ hΨ')|(refine Q0a ?_;intro R hR)|(refine hΨ _ ?_;clear hΨ hΨ' Ψ)|refine Q0j ?_|refine Q0h ?_)|((with_reducible apply Q0f);rfl;rfl;all_goals(intro hc;first|(cases hc;done)|(try simp only at hc))))))
   all_goals(refine⟨by simp,⟨_,?_,AV.le_refl _⟩,Q0g (by simp[leH,hget])⟩;simp only[Tryz.results66,resL,ldA,Q0o,go_sem])
def loadX(x:Ac)(k:Nat):Nat:=if eqP x.store k (bsr (ltP x.store k) x.store.length 0 x.store.length) then((x.store[bsr (ltP x.store k) x.store.length 0 x.store.length]?).map Pr.v).getD 0 else 0
theorem OfS_ok{L:List Ac}(hL:Okl L){a:Int}(ha:U a):Okx (OfS L a):=by
 unfold OfS
 split
 · exact X2a hL ha
 · exact Q9v ha
end
section
open Go.RowKit Go.ChangeShapes Go.WideShapes Go.ChangeAt Go.Deep
section
variable {H:Type} {enc:TypeId×Value→H} {P:Program}
def Dec{α : Type}(P:Program)(t:TypeId)(sz:Nat)(f:α→List Value)(Good:α→Prop):Prop:=
 P.cellsOf t=sz∧∀(H:Type) (enc:TypeId×Value→H) (w:World) (base:Nat) (spare:Nat→Bool) (held:Bool) (fuel:Nat) (cs:List Value) (x:DataW H×List MemPlace),
  DataW.trod enc P w base spare held fuel t cs=some x→∃a,cs=f a∧Good a
theorem dec_int{t:TypeId}{k:IntKind}(ht:P.underlying t=some (.int k))(hc:P.cellsOf t=1):Dec P t 1 (fun n:Int=>[.int k n]) (fun n=>(Lit.int k n).wf=true):=
 ⟨hc,fun H enc w base spare held fuel cs x h=>by
   obtain⟨n,rfl,_,hw⟩:=DataW.trod_int ht h
   exact⟨n,rfl,hw⟩⟩
theorem dec_map{α β : Type}{t:TypeId}{sz:Nat}{f:α→List Value}{G:α→Prop}(h:Dec P t sz f G){f':β→List Value}{G':β→Prop}(hg:∀a,G a→∃b,f a=f' b∧G' b):Dec P t sz f' G':=
 ⟨h.1,fun H enc w base spare held fuel cs x hx=>by
   obtain⟨a,e,g⟩:=h.2 H enc w base spare held fuel cs x hx
   obtain⟨b,e',g'⟩:=hg a g
   exact⟨b,e.trans e',g'⟩⟩
theorem X7b{n:Int}(h:(Lit.int .u64 n).wf=true):0≤n∧n<18446744073709551616:=by
 simp[Lit.wf,IntKind.min,IntKind.max,IntKind.signed,IntKind.bits] at h;omega
theorem wf_u8{n:Int}(h:(Lit.int .u8 n).wf=true):0≤n∧n<256:=by
 simp[Lit.wf,IntKind.min,IntKind.max,IntKind.signed,IntKind.bits] at h;omega
theorem dec_u64{t:TypeId}(ht:P.underlying t=some (.int .u64))(hc:P.cellsOf t=1):Dec P t 1 (fun n:Nat=>[.int .u64 (n:Int)]) (fun n=>n<18446744073709551616):=
 dec_map (dec_int ht hc) fun n h=>⟨n.toNat,by have:=X7b h;rw[Int.toNat_of_nonneg (by omega)],by have:=X7b h;omega⟩
theorem Q7j{α : Type}{p:Nat→α→Prop}(n:Nat)(h:∀i,i<n→∃b,p i b):∃l:List α,l.length=n∧∀i b,l[i]? = some b→p i b:=by
 induction n with
 |zero=>exact⟨[],rfl,by simp⟩
 |succ k ih=>
  obtain⟨l,hl,hp⟩:=ih fun i hi=>h i (by omega)
  obtain⟨b,hb⟩:=h k (by omega)
  refine⟨l++[b],by simp[hl],fun i b' hib=>?_⟩
  rw[List.getElem?_append] at hib
  split at hib
  · exact hp i b' hib
  · have hi0:i=k:=by
     have:=(List.getElem?_eq_some_iff.1 hib).1
     simp at this;omega
    subst hi0
    rw[hl,Nat.sub_self] at hib
    simp at hib
    subst hib
    exact hb
theorem dec_arr{α : Type}{t e:TypeId}{n sz:Nat}{f:α→List Value}{G:α→Prop}(ht:P.underlying t=some (.array n e))(hc:P.cellsOf t=n*sz)(hs:0<sz)
 (he:Dec P e sz f G) (hf:∀a,(f a).length=sz):Dec P t (n*sz) (sts f) (fun l=>l.length=n∧∀a∈l,G a):=
 ⟨hc,fun H enc w base spare held fuel cs x hx=>by
   obtain⟨xs,m,_,_,hlen,hxl,hi⟩:=DataW.trod_array ht hx
   rw[hc] at hlen
   obtain⟨l,hl,hp⟩:=Q7j (p:=fun i b=>G b∧(cs.drop (i*sz)).take sz=f b) n fun i hin=>by
    have h1:=hi i hin
    rw[he.1,List.getElem?_eq_getElem (by omega)] at h1
    obtain⟨b,hb,hg⟩:=he.2 H enc w base spare held m _ _ h1
    exact⟨b,hg,hb⟩
   refine⟨l,?_,hl,fun a ha=>?_⟩
   · apply List.ext_getElem?
     intro j
     by_cases hj:j<n*sz
     · have hq:j/sz<n:=Nat.div_lt_of_lt_mul (by rw[Nat.mul_comm];exact hj)
       have hr:j%sz<sz:=Nat.mod_lt _ hs
       have hje:j=j/sz*sz+j%sz:=by rw[Nat.mul_comm];exact(Nat.div_add_mod j sz).symm
       have hk:l[j/sz]? = some (l[j/sz]'(by omega)):=List.getElem?_eq_getElem (by omega)
       have h1:=sts_get hf hk hr
       rw[←hje] at h1
       rw[h1,←(hp _ _ hk).2,List.getElem?_take,if_pos hr,List.getElem?_drop,←hje]
     · rw[List.getElem?_eq_none (by omega),List.getElem?_eq_none (by rw[X8h f sz hf,hl];omega)]
   · obtain⟨i,hi'⟩:=List.mem_iff_getElem?.1 ha
     exact(hp i a hi').1⟩
theorem Q7l(hl:laidOutB P=true){W W':World}(hb:Below W.heap.size W W'):∀{ts:List TypeId} {vs:List Value} {ds:List (DataW H)} {ps:List MemPlace},
 (∀t∈ts,P.readableRec t=true∧t<P.types.size)→DataW.TrodAll enc P W 0 (fun _=>true) true ts vs ds ps→DataW.TrodAll enc P W' 0 (fun b=>decide (b<W.heap.size)) true ts vs ds ps
 |[],[],[],_,_,h=>h
 |t::ts,v::vs,d::ds,ps,hr,h=>by
  obtain⟨p,q,⟨m,hm⟩,hq,rfl⟩:=h
  have h1:=hr t (List.mem_cons_self ..)
  exact⟨p,q,Below.trod hl h1.1 h1.2 ⟨m,hm⟩ hb (fun x hx=>DataW.trod_lt m _ _ _ hm x hx),Q7l hl hb (fun t ht=>hr t (List.mem_cons_of_mem _ ht)) hq,rfl⟩
 |[],_::_,_,_,_,h=>h.elim
 |[],[],_::_,_,_,h=>h.elim
 |_::_,[],_,_,_,h=>h.elim
 |_::_,_::_,[],_,_,h=>h.elim
theorem Q9c:∀{w:World} {base:Nat} {spare:Nat→Bool} {held:Bool} {ts:List TypeId} {vs:List Value} {ds:List (DataW H)} {ps:List MemPlace},DataW.TrodAll enc P w base spare held ts vs ds ps→ds.length=ts.length
 |_,_,_,_,[],[],[],_,_=>rfl
 |_,_,_,_,t::ts,v::vs,d::ds,_,h=>by
  obtain⟨p,q,_,hq,_⟩:=h
  simp[Q9c hq]
 |_,_,_,_,[],_::_,_,_,h=>h.elim
 |_,_,_,_,[],[],_::_,_,h=>h.elim
 |_,_,_,_,_::_,[],_,_,h=>h.elim
 |_,_,_,_,_::_,_::_,[],_,h=>h.elim
theorem law_post{W:World}{args:Array Value}{ds gs:List (DataW H)}{before:List MemPlace}{fn:Func}{s:ChangeSpec}{f:Nat}{tb:TypeId}(hl:laidOutB P=true)(hvars:s.vars=[])(htb:P.underlying tb=some .bool)(hrt:fn.resultTypes = #[tb])
 (hr:∀t∈fn.params.toList,P.readableRec t=true∧t<P.types.size) (hfn:∀ds:List (DataW H),ds.length=fn.params.toList.length→s.fn H ds={results:=[.lit (.bool true)],args:=ds})
 (hW:DataW.Whole enc P fn.params.toList s.vars false W args.toList ds gs before) (hc:Calls P f args W (RetT W true)) :
 Calls P f args W fun e W'=>∃v,e = .returned v∧s.post enc P fn false true false false W args v W':=by
 refine hc.mono fun e W' h=>?_
 obtain⟨he,bel⟩:=h
 subst he
 have hW':=hW
 obtain⟨p,q,hA,hV,rfl,hfz,hnd⟩:=hW
 rw[hvars] at hV
 obtain⟨rfl,rfl⟩:=trodVars_none hV
 have hfd:=hfn ds (Q9c hA)
 refine⟨_,rfl,ds,[],p++[],[],p,[],hW',?_,?_,?_,bel.frame _,fun h=>by cases h⟩
 · rw[hrt,List.append_nil,hfd]
   exact trodAll_mk1 (shut_bool htb _)
 · rw[List.append_nil,hfd]
   exact Q7l hl bel hr hA
 · rw[hvars,List.append_nil,hfd]
   rfl
end
end
section
open Go.RowKit Go.ChangeShapes Go.WideShapes Go.ChangeAt Go.Deep
def DecV{α : Type}(P:Program)(t:TypeId)(sz:Nat)(g:α→List PV)(Good:α→Prop):Prop:=
 P.cellsOf t=sz∧∀(H:Type) (enc:TypeId×Value→H) (w:World) (base:Nat) (spare:Nat→Bool) (held:Bool) (fuel:Nat) (cs:List Value) (x:DataW H×List MemPlace),
  DataW.trod enc P w base spare held fuel t cs=some x→∃a,cs.length=sz∧(g a).length=sz∧(∀(j:Nat) (u:Value) (y:PV),cs[j]? = some u→(g a)[j]? = some y→RVp (fun _=>True) w u y)∧Good a
theorem Dec.toV{α : Type}{P:Program}{t:TypeId}{sz:Nat}{f:α→List Value}{G:α→Prop}(h:Dec P t sz f G)(hf:∀a,(f a).length=sz)(ho:∀a,∀u∈f a,u.oneCell'=true):DecV P t sz (fun a=>(f a).map .v) G:=
 ⟨h.1,fun H enc w base spare held fuel cs x hx=>by
   obtain⟨a,rfl,ga⟩:=h.2 H enc w base spare held fuel cs x hx
   refine⟨a,hf a,by simp[hf],fun j u y hu hy=>?_,ga⟩
   rw[List.getElem?_map,hu] at hy
   cases hy
   exact .v u (ho a u (List.mem_of_getElem? hu))⟩
theorem DecV.map{α β : Type}{P:Program}{t:TypeId}{sz:Nat}{g:α→List PV}{G:α→Prop}(h:DecV P t sz g G){g':β→List PV}{G':β→Prop}(hg:∀a,G a→∃b,g a=g' b∧G' b):DecV P t sz g' G':=
 ⟨h.1,fun H enc w base spare held fuel cs x hx=>by
   obtain⟨a,h1,h2,h3,ga⟩:=h.2 H enc w base spare held fuel cs x hx
   obtain⟨b,e,gb⟩:=hg a ga
   exact⟨b,h1,by rw[←e];exact h2,by rw[←e];exact h3,gb⟩⟩
theorem Q5l{α : Type}{P:Program}{t e:TypeId}{sz:Nat}{g:α→List PV}{G:α→Prop}(ht:P.underlying t=some (.slice e))(hc:P.cellsOf t=1)(he:DecV P e sz g G)(hs:0<sz)(hgl:∀a,(g a).length=sz) :
 DecV P t 1 (fun l:List α=>[PV.sl false sz l.length (l.flatMap g)]) (fun l=>l.length≤maxLen∧∀a∈l,G a):=
 ⟨hc,fun H enc w base spare held fuel cs x hx=>by
   rcases DataW.trod_slice ht hx with⟨rfl,_⟩|⟨a,n,c,elems,rest,m,_,rfl,_,_,hl,hm,hel,hi,_,_⟩
   · refine⟨[],rfl,rfl,fun j u y hu hy=>?_,Nat.zero_le _,by simp⟩
     cases j with
     |zero=>
      simp only[List.getElem?_cons_zero,Option.some.injEq] at hu hy
      subst hu hy
      exact .sl false sz none 0 0 [] [] (Nat.le_refl _) (Nat.zero_le _) (fun _=>rfl) (fun h=>by cases h) rfl (by simp) (fun h=>absurd rfl h) fun j u x hu=>by cases hu
     |succ j=>simp at hu
   · have key:∀i,i<n→∃b:α,G b∧∃us:List Value,us.length=sz∧(∀j,j<sz→w.cell? (a.add (i*sz+j))=us[j]?)∧∀(j:Nat) (u:Value) (y:PV),us[j]? = some u→(g b)[j]? = some y→RVp (fun _=>True) w u y:=by
      intro i hin
      have h1:=hi i hin
      rw[List.getElem?_eq_getElem (by omega)] at h1
      obtain⟨us,hcs,htr⟩:=Option.bind_eq_some_iff.1 h1
      rw[he.1] at hcs
      obtain⟨b,hb1,hb2,hb3,hG⟩:=he.2 H enc w base spare held m us _ htr
      obtain⟨_,hcl,hat⟩:=World.cells?_some hcs
      refine⟨b,hG,us,hb1,fun j hj=>?_,hb3⟩
      rw[←Go.Deep.add_add,hat j hj]
     have key2:∃l:List α,l.length=n∧∀i b,l[i]? = some b→G b∧∃us:List Value,us.length=sz∧(∀j,j<sz→w.cell? (a.add (i*sz+j))=us[j]?)∧∀(j:Nat) (u:Value) (y:PV),us[j]? = some u→(g b)[j]? = some y→RVp (fun _=>True) w u y:=
      Q7j (p:=fun i b=>G b∧∃us:List Value,us.length=sz∧(∀j,j<sz→w.cell? (a.add (i*sz+j))=us[j]?)∧∀(j:Nat) (u:Value) (y:PV),us[j]? = some u→(g b)[j]? = some y→RVp (fun _=>True) w u y) n key
     obtain⟨l,hll,hp⟩:=key2
     have hcell:∀j,j<n*sz→∃u,w.cell? (a.add j)=some u∧∀y,(l.flatMap g)[j]? = some y→RVp (fun _=>True) w u y:=fun j hjl=>by
      have hq:j/sz<n:=Nat.div_lt_of_lt_mul (by rw[Nat.mul_comm];exact hjl)
      have hr:j%sz<sz:=Nat.mod_lt _ hs
      have hj:j=j/sz*sz+j%sz:=by rw[Nat.mul_comm];exact(Nat.div_add_mod j sz).symm
      have hk:l[j/sz]? = some (l[j/sz]'(by omega)):=List.getElem?_eq_getElem (by omega)
      obtain⟨_,us,hul,hc1,hrv⟩:=hp _ _ hk
      have h1:=hc1 _ hr
      rw[←hj,List.getElem?_eq_getElem (by omega)] at h1
      refine⟨_,h1,fun y hy=>hrv (j%sz) _ y (List.getElem?_eq_getElem (by omega)) ?_⟩
      have h2:=Q5t hgl hk
      have h3:((l.flatMap g).drop (j/sz*sz)).take sz=g (l[j/sz]'(by omega)):=h2
      rw[←h3,List.getElem?_take,if_pos hr,List.getElem?_drop,←hj]
      exact hy
     have hus:∃us:List Value,us.length=n*sz∧∀j u,us[j]? = some u→w.cell? (a.add j)=some u∧∀y,(l.flatMap g)[j]? = some y→RVp (fun _=>True) w u y:=
      Q7j (p:=fun j u=>w.cell? (a.add j)=some u∧∀y,(l.flatMap g)[j]? = some y→RVp (fun _=>True) w u y) (n*sz) hcell
     obtain⟨us,husl,hu⟩:=hus
     have hfl:(l.flatMap g).length=n*sz:=by rw[Q0u hgl,hll]
     refine⟨l,rfl,rfl,fun j u y hu0 hy=>?_,by omega,fun b hb=>?_⟩
     · cases j with
       |zero=>
        simp only[List.getElem?_cons_zero,Option.some.injEq] at hu0 hy
        subst hu0 hy
        rw[hll]
        refine .sl false sz (some a) n c us _ hl hm (fun h=>by cases h) (fun h=>by cases h) (by rw[husl,hfl]) hfl (fun hne=>?_) fun j u x hj hx=>(hu j u hj).2 x hx
        obtain⟨u0,rest0,hu0⟩:=List.exists_cons_of_ne_nil hne
        have hc0:=(hu 0 u0 (by rw[hu0];rfl)).1
        rw[add_zero'] at hc0
        have hspot:=World.cell?_spot hc0
        obtain⟨ab,ao,asp⟩:=a
        simp only at hspot
        subst hspot
        exact⟨ab,ao,rfl,trivial,fun j u hj=>by have:=(hu j u hj).1;rwa [Q1q] at this⟩
       |succ j=>simp at hu0
     · obtain⟨i,hi'⟩:=List.mem_iff_getElem?.1 hb
       exact(hp i b hi').1⟩
theorem X6x{α β γ : Type}{P:Program}{t:TypeId}{f0 f1 f2:Field}{s0 s1 s2:Nat}{f:α→List PV}{g:β→List PV}{h:γ→List PV}{G:α→Prop}{G':β→Prop}{G2:γ→Prop}(ht:P.underlying t=some (.struct #[f0,f1,f2]))(hc:P.cellsOf t=s0+(s1+s2))
 (h0:DecV P f0.type s0 f G) (h1:DecV P f1.type s1 g G') (h2:DecV P f2.type s2 h G2) (o0:f0.offset=0) (o1:f1.offset=s0) (o2:f2.offset=s0+s1):DecV P t (s0+(s1+s2)) (fun x:α×β×γ=>f x.1++(g x.2.1++h x.2.2)) (fun x=>G x.1∧G' x.2.1∧G2 x.2.2):=
 ⟨hc,fun H enc w base spare held fuel cs x hx=>by
   obtain⟨xs,n,_,_,hlen,hxl,hf⟩:=DataW.trod_struct ht hx
   have e0:=hf 0 f0 rfl
   have e1:=hf 1 f1 rfl
   have e2:=hf 2 f2 rfl
   have hxl':xs.length=3:=hxl
   rw[o0,h0.1,List.drop_zero,List.getElem?_eq_getElem (by omega)] at e0
   rw[o1,h1.1,List.getElem?_eq_getElem (by omega)] at e1
   rw[o2,h2.1,List.getElem?_eq_getElem (by omega)] at e2
   obtain⟨a,a1,a2,a3,ga⟩:=h0.2 H enc w base spare held n _ _ e0
   obtain⟨b,b1,b2,b3,gb⟩:=h1.2 H enc w base spare held n _ _ e1
   obtain⟨c,c1,c2,c3,gc⟩:=h2.2 H enc w base spare held n _ _ e2
   rw[hc] at hlen
   refine⟨(a,b,c),hlen,by simp[a2,b2,c2],fun j u y hu hy=>?_,ga,gb,gc⟩
   dsimp only at hy
   rw[List.getElem?_append] at hy
   split at hy
   · exact a3 j u y (by rw[List.getElem?_take,if_pos (by omega)];exact hu) hy
   · rw[List.getElem?_append] at hy
     split at hy
     · refine b3 (j-(f a).length) u y ?_ hy
       rw[List.getElem?_take,if_pos (by omega),List.getElem?_drop,a2,show s0+(j-s0)=j by omega];exact hu
     · have hjl:=(List.getElem?_eq_some_iff.1 hy).1
       refine c3 (j-(f a).length-(g b).length) u y ?_ hy
       rw[List.getElem?_take,if_pos (by omega),List.getElem?_drop,a2,b2,show s0+s1+(j-s0-s1)=j by omega];exact hu⟩
theorem X7x{P:Program}{t:TypeId}{k:IntKind}(ht:P.underlying t=some (.int k))(hc:P.cellsOf t=1):DecV P t 1 (fun n:Int=>[PV.v (.int k n)]) (fun n=>(Lit.int k n).wf=true):=
 ((dec_int ht hc).toV (fun _=>rfl) (fun a u hu=>by simp at hu;subst hu;rfl)).map fun a ga=>⟨a,rfl,ga⟩
theorem Q9z{P:Program}{t:TypeId}(ht:P.underlying t=some (.int .u64))(hc:P.cellsOf t=1):DecV P t 1 (fun n:Int=>[PV.v (.int .u64 n)]) (fun n=>0≤n∧n≤18446744073709551615):=
 (X7x ht hc).map fun a ga=>⟨a,rfl,by have:=X7b ga;omega⟩
theorem decV_w4{P:Program}{t e:TypeId}(ht:P.underlying t=some (.array 4 e))(hc:P.cellsOf t=4*1)(he:P.underlying e=some (.int .u64))(hce:P.cellsOf e=1) :
 DecV P t 4 (fun x:Int×Int×Int×Int=>[PV.v (.int .u64 x.1),.v (.int .u64 x.2.1),.v (.int .u64 x.2.2.1),.v (.int .u64 x.2.2.2)]) (fun x=>(0≤x.1∧x.1≤18446744073709551615)∧(0≤x.2.1∧x.2.1≤18446744073709551615)∧(0≤x.2.2.1∧x.2.2.1≤18446744073709551615)∧(0≤x.2.2.2∧x.2.2.2≤18446744073709551615)):=
 ((dec_map (f':=fun x:Int×Int×Int×Int=>[.int .u64 x.1,.int .u64 x.2.1,.int .u64 x.2.2.1,.int .u64 x.2.2.2]) (G':=fun x=>(0≤x.1∧x.1≤18446744073709551615)∧(0≤x.2.1∧x.2.1≤18446744073709551615)∧(0≤x.2.2.1∧x.2.2.1≤18446744073709551615)∧(0≤x.2.2.2∧x.2.2.2≤18446744073709551615)) (dec_arr (n:=4) ht hc (by omega) (dec_u64 he hce) (fun _=>rfl)) fun l ⟨hl,hg⟩=>by
   match l,hl with
   |[x,y,z,u],_=>
    have h1:=hg x (by simp)
    have h2:=hg y (by simp)
    have h3:=hg z (by simp)
    have h4:=hg u (by simp)
    exact⟨(x,y,z,u),by simp[sts],⟨by simp only;omega,by simp only;omega⟩,⟨by simp only;omega,by simp only;omega⟩,⟨by simp only;omega,by simp only;omega⟩,⟨by simp only;omega,by simp only;omega⟩⟩).toV (fun _=>rfl) (fun a u hu=>by simp at hu;rcases hu with rfl|rfl|rfl|rfl<;>rfl)).map fun a ga=>⟨a,rfl,ga⟩
open Go.RowKit Go.ChangeShapes Go.WideShapes Go.ChangeAt Go.Deep
def DecF{α : Type}(P:Program)(fs:List Field)(o sz:Nat)(g:α→List PV)(Good:α→Prop):Prop:=
 ∀(H:Type) (enc:TypeId×Value→H) (w:World) (base:Nat) (spare:Nat→Bool) (held:Bool) (fuel:Nat) (cs:List Value),o+sz≤cs.length →
  (∀f∈fs,∃x:DataW H×List MemPlace,DataW.trod enc P w base spare held fuel f.type ((cs.drop f.offset).take (P.cellsOf f.type))=some x) →
  ∃a,(g a).length=sz∧(∀(j:Nat) (u:Value) (y:PV),cs[o+j]? = some u→(g a)[j]? = some y→RVp (fun _=>True) w u y)∧Good a
theorem Q4y{α : Type}{P:Program}{f:Field}{o sz:Nat}{g:α→List PV}{G:α→Prop}(h:DecV P f.type sz g G)(ho:f.offset=o):DecF P [f] o sz g G:=by
 intro H enc w base spare held fuel cs hlen hf
 obtain⟨x,hx⟩:=hf f (by simp)
 rw[ho,h.1] at hx
 obtain⟨a,a1,a2,a3,ga⟩:=h.2 H enc w base spare held fuel _ _ hx
 refine⟨a,a2,fun j u y hu hy=>a3 j u y ?_ hy,ga⟩
 have hj:=(List.getElem?_eq_some_iff.1 hy).1
 rw[List.getElem?_take,if_pos (by omega),List.getElem?_drop]
 exact hu
theorem Q1x{α β : Type}{P:Program}{f:Field}{fs:List Field}{o s0 s1:Nat}{g:α→List PV}{g':β→List PV}{G:α→Prop}{G':β→Prop}(h:DecV P f.type s0 g G)(ho:f.offset=o)(hr:DecF P fs (o+s0) s1 g' G') :
 DecF P (f::fs) o (s0+s1) (fun x:α×β=>g x.1++g' x.2) (fun x=>G x.1∧G' x.2):=by
 intro H enc w base spare held fuel cs hlen hf
 obtain⟨a,a2,a3,ga⟩:=Q4y h ho H enc w base spare held fuel cs (by omega) (fun f' hf'=>hf f' (by simp at hf';simp[hf']))
 obtain⟨b,b2,b3,gb⟩:=hr H enc w base spare held fuel cs (by omega) (fun f' hf'=>hf f' (by simp[hf']))
 refine⟨(a,b),by simp[a2,b2],fun j u y hu hy=>?_,ga,gb⟩
 dsimp only at hy
 rw[List.getElem?_append] at hy
 split at hy
 · exact a3 j u y hu hy
 · exact b3 (j-(g a).length) u y (by rw[a2,show o+s0+(j-s0)=o+j by omega];exact hu) hy
theorem Q3s{α : Type}{P:Program}{t:TypeId}{fs:Array Field}{sz:Nat}{g:α→List PV}{G:α→Prop}(ht:P.underlying t=some (.struct fs))(hc:P.cellsOf t=sz)(h:DecF P fs.toList 0 sz g G):DecV P t sz g G:=
 ⟨hc,fun H enc w base spare held fuel cs x hx=>by
   obtain⟨xs,n,_,_,hlen,hxl,hf⟩:=DataW.trod_struct ht hx
   rw[hc] at hlen
   obtain⟨a,a2,a3,ga⟩:=h H enc w base spare held n cs (by omega) (fun f hf'=>by
    obtain⟨k,hk⟩:=List.mem_iff_getElem?.1 hf'
    have hk':fs[k]? = some f:=by rw[←Array.getElem?_toList];exact hk
    have h1:=hf k f hk'
    have hlt:=(Array.getElem?_eq_some_iff.1 hk').1
    rw[List.getElem?_eq_getElem (by omega)] at h1
    exact⟨_,h1⟩)
   exact⟨a,hlen,a2,fun j u y hu hy=>a3 j u y (by rw[Nat.zero_add];exact hu) hy,ga⟩⟩
theorem open_VA{H:Type}{enc:TypeId×Value→H}{α : Type}{P:Program}{t:TypeId}{sz:Nat}{g:α→List PV}{G:α→Prop}{w:World}{base:Nat}{spare:Nat→Bool}{held:Bool}{cs:Array Value}{d:DataW H}{ps:List MemPlace}(h:DecV P t sz g G)(ht:DataW.Trod enc P w base spare held t (.agg cs) d ps)(ι : Nat→Nat×Nat×Nat) :
 ∃a,RV (fun _=>True) ι w (.agg cs) (.agg ((g a).map .c))∧G a:=by
 obtain⟨fuel,ht⟩:=ht
 obtain⟨a,a1,a2,a3,ga⟩:=h.2 H enc w base spare held fuel _ _ ht
 have e:(Value.agg cs).cells.toList=cs.toList:=rfl
 rw[e] at a1 a3
 refine⟨a,?_,ga⟩
 have hc:cs=cs.toList.toArray:=by simp
 rw[hc]
 have key:∀(j:Nat) (u:Value) (y:PV),cs.toList[j]? = some u→(g a)[j]? = some y→RVp (fun _=>True) w u y:=a3
 refine .agg cs.toList _ (by rw[List.length_map,a1,a2]) (fun u hu=>?_) fun j u x hu hx=>?_
 · obtain⟨j,hj⟩:=List.mem_iff_getElem?.1 hu
   have hlt:=(List.getElem?_eq_some_iff.1 hj).1
   exact(key j u _ hj (List.getElem?_eq_getElem (by omega))).one
 · rw[List.getElem?_map,Option.map_eq_some_iff] at hx
   obtain⟨y,hy,rfl⟩:=hx
   exact .c _ _ (key j u y hu hy)
theorem Q7y{P:Program}{w:World}{r:Reach}{base:Nat}{t:TypeId}{fs:Array Field}{v:Value}(ht:P.underlying t=some (.struct fs))(h:Value.okWide P w r base t v):∃cs,v = .agg cs:=by
 simp only[Value.okWide,ht] at h
 obtain⟨cs,h1,_⟩:=h
 exact⟨cs,h1⟩
end
section
open Go.RowKit
set_option maxRecDepth 20000
set_option maxHeartbeats 2000000
def w1:List Ac:=[⟨20,7,0,[],[]⟩]
def w2:List Ac:=[⟨20,4,0,[],[]⟩,⟨21,3,0,[],[]⟩]
def w3:List Ac:=[⟨20,4,0,[],[]⟩,⟨21,3,0,[],[⟨5,9⟩]⟩]
theorem k0:Okl []:=⟨Nat.zero_le _,fun x h=>by cases h⟩
theorem word_of{a b c d:Int}(ha:0≤a∧a≤18446744073709551615)(hb:0≤b∧b≤18446744073709551615)(hc:0≤c∧c≤18446744073709551615)(hd:0≤d∧d≤18446744073709551615):∃n:Nat,n<WW∧l0 n=a∧l1 n=b∧l2 n=c∧l3 n=d:=by
 refine⟨a.toNat+18446744073709551616*(b.toNat+18446744073709551616*(c.toNat+18446744073709551616*d.toNat)),?_,?_⟩
 · show _<115792089237316195423570985008687907853269984665640564039457584007913129639936
   omega
 · obtain⟨h0,h1,h2,h3⟩:=Q9y (s0:=a.toNat) (s1:=b.toNat) (s2:=c.toNat) (s3:=d.toNat) rfl (by omega) (by omega) (by omega) (by omega)
   rw[h0,h1,h2,h3]
   exact⟨Int.toNat_of_nonneg ha.1,Int.toNat_of_nonneg hb.1,Int.toNat_of_nonneg hc.1,Int.toNat_of_nonneg hd.1⟩
theorem Q5k:DecV Tryz.prog 34 4 wpv (fun n=>n<WW):=
 (decV_w4 Tryz.underlying34 (by kernel_rfl) Tryz.underlying31 (by kernel_rfl)).map fun x hx=>by
   obtain⟨n,hn,h0,h1,h2,h3⟩:=word_of hx.1 hx.2.1 hx.2.2.1 hx.2.2.2
   exact⟨n,by unfold wpv;rw[h0,h1,h2,h3],hn⟩
theorem Q8k:DecV Tryz.prog 32 1 (fun n:Int=>[PV.v (.int .u64 n)]) U:=(Q9z Tryz.underlying32 (by kernel_rfl)).map fun a ga=>⟨a,rfl,ga⟩
theorem X0a:DecV Tryz.prog 31 1 (fun n:Int=>[PV.v (.int .u64 n)]) U:=(Q9z Tryz.underlying31 (by kernel_rfl)).map fun a ga=>⟨a,rfl,ga⟩
theorem decV_byte:DecV Tryz.prog 5 1 bpv (fun n=>n<256):=(X7x Tryz.underlying5 (by kernel_rfl)).map fun a ga=>⟨a.toNat,by unfold bpv;rw[Int.toNat_of_nonneg (wf_u8 ga).1],by have:=wf_u8 ga;omega⟩
theorem X2k:DecV Tryz.prog 35 1 (fun l:List Nat=>[PV.sl false 1 l.length (l.flatMap bpv)]) (fun l=>l.length≤maxLen∧∀a∈l,a<256):=
 Q5l Tryz.underlying35 (by kernel_rfl) decV_byte (by omega) Q3f
theorem X9d:DecV Tryz.prog 67 8 Pr.pv Pr.ok:=
 (Q3s (sz:=4+4) Tryz.underlying67 (by kernel_rfl) (Q1x Q5k rfl (Q4y Q5k rfl))).map fun x hx=>⟨⟨x.1,x.2⟩,rfl,hx⟩
theorem X9c:DecV Tryz.prog 60 1 (fun l:List Pr=>[PV.sl false 8 l.length (l.flatMap Pr.pv)]) (fun l=>l.length≤maxLen∧∀a∈l,a.ok):=
 Q5l Tryz.underlying60 (by kernel_rfl) X9d (by omega) Q9d
theorem X5o:DecV Tryz.prog 62 8 Ac.pv Ac.ok:=
 (Q3s (sz:=1+(4+(1+(1+1)))) Tryz.underlying62 (by kernel_rfl) (Q1x Q8k rfl (Q1x Q5k rfl (Q1x X0a rfl (Q1x X2k rfl (Q4y X9c rfl)))))).map fun x hx=>⟨⟨x.1,x.2.1,x.2.2.1,x.2.2.2.1,x.2.2.2.2⟩,rfl,hx⟩
theorem X3r:DecV Tryz.prog 22 1 (fun l:List Ac=>[PV.sl false 8 l.length (l.flatMap Ac.pv)]) (fun l=>l.length≤maxLen∧∀a∈l,a.ok):=
 Q5l Tryz.underlying22 (by kernel_rfl) X5o (by omega) Q6a
end
section
open Go.RowKit
open Nat (reduceBEq)
set_option maxRecDepth 20000
set_option maxHeartbeats 2000000
abbrev lvA(x:UInt64):AV:=.c (.v (.int .u64 (x.toNat:Int)))
def rcV(l:List UInt64):List AV:=l.map lvA
theorem X6c(l:List UInt64):(rcV l).length=l.length:=by unfold rcV;rw[List.length_map]
theorem X4l(d:Nat)(l:List UInt64):AV.refsL d (rcV l)=false:=by
 unfold rcV
 induction l with
 |nil=>rfl
 |cons x l ih=>rw[List.map_cons,AV.refsL,ih];rfl
theorem renL_rcV(ρ : Nat→Nat)(l:List UInt64):AV.renL ρ (rcV l)=rcV l:=by
 unfold rcV
 induction l with
 |nil=>rfl
 |cons x l ih=>rw[List.map_cons,AV.renL,ih];rfl
theorem inNL_rcV(N:List Nat)(l:List UInt64):AV.inNL N (rcV l)=true:=by
 unfold rcV
 induction l with
 |nil=>rfl
 |cons x l ih=>rw[List.map_cons,AV.inNL,ih];rfl
theorem rcV_at{l:List UInt64}{j:Nat}{y:UInt64}(h:l[j]? = some y):(rcV l)[j]? = some (lvA y):=by
 unfold rcV;rw[List.getElem?_map,h];rfl
theorem rcV_set(l:List UInt64)(j:Nat)(y:UInt64)(h:j<l.length):spl (rcV l) j [lvA y]=rcV (l.set j y):=by
 unfold spl rcV
 rw[List.map_set,List.set_eq_take_append_cons_drop,if_pos (by rw[List.length_map];exact h)]
 simp
theorem u64w(n:Nat):IntKind.u64.wrap (n:Int)=((n%18446744073709551616:Nat):Int):=by
 unfold IntKind.wrap;simp[IntKind.bits,IntKind.signed]
theorem bvU(x:UInt64):BitVec.ofInt 64 (x.toNat:Int)=x.toBitVec:=by
 apply BitVec.eq_of_toNat_eq
 simp[BitVec.toNat_ofInt]
theorem u64_or(x y:UInt64):IntKind.u64.wrap ((@HOr.hOr (BitVec 64) (BitVec 64) (BitVec 64) (@instHOrOfOrOp (BitVec IntKind.u64.bits) (@BitVec.instOrOp IntKind.u64.bits)) (BitVec.ofInt 64 (x.toNat:Int)) (BitVec.ofInt 64 (y.toNat:Int))).toNat:Int)=((x ||| y).toNat:Int):=by
 show IntKind.u64.wrap ((BitVec.ofInt 64 (x.toNat:Int) ||| BitVec.ofInt 64 (y.toNat:Int)).toNat:Int)=_
 rw[bvU,bvU,u64w,show(x.toBitVec ||| y.toBitVec).toNat=(x ||| y).toNat from rfl,Nat.mod_eq_of_lt (x ||| y).toNat_lt]
abbrev bsl(ex:Bool)(l:List Nat):AV:=.c (.sl ex 1 l.length (l.flatMap bpv))
theorem bsl_at{l:List Nat}{i:Nat}{y:Nat}(h:l[i]? = some y):((l.flatMap bpv).drop (i*1)).take 1=[.v (.int .u8 (y:Int))]:=Q5t (f:=bpv) Q3f h
def rdN(l:List Nat):Nat→Nat
 |0=>0
 |i+1=>rdN l i*256+(match l[i]? with|some b=>b|none=>0)
theorem rcV_getD{l:List UInt64}{i:Nat}(h:i<l.length):(rcV l)[i]? = some (lvA (l.getD i 0)):=rcV_at (by rw[List.getD_eq_getElem?_getD,List.getElem?_eq_getElem h];rfl)
def zer(n:Nat):List UInt64:=List.replicate n 0
abbrev lnA(l:List UInt64):AV:=.agg (rcV l)
theorem getD_lt{l:List Nat}(h:∀b∈l,b<256)(i:Nat):l.getD i 0<256:=by
 rw[List.getD_eq_getElem?_getD]
 cases hb:l[i]? with
 |none=>show 0<256;omega
 |some b=>exact h b (List.mem_of_getElem? hb)
attribute [local simp] inNL_rcV X4l renL_rcV
def wrR(b:List Nat):Nat→List UInt64
 |0=>zer 4
 |i+1=>(wrR b i).set ((31-i)/8) ((wrR b i).getD ((31-i)/8) 0 ||| UInt64.ofNat (b.getD i 0*2 ^ (8*((31-i)%8))))
theorem X5w(b:List Nat):∀k,(wrR b k).length=4
 |0=>rfl
 |k+1=>by unfold wrR;rw[List.length_set,X5w b k]
theorem wread_fnE(ex:Bool)(l:List Nat)(hl:l.length=32)(hb:∀b∈l,b<256)(X:Nat→List UInt64)(X0:X 0=zer 4)(lx:∀k,(X k).length=4)
 (xs:∀i,X (i+1)=(X i).set ((31-i)/8) ((X i).getD ((31-i)/8) 0 ||| UInt64.ofNat (l.getD i 0*2 ^ (8*((31-i)%8))))) :
 Fn Tryz.prog 76 [bsl ex l] [] (.tup [lnA (X 32),vi .i64 0]) []:=by
 have z4:rcV (zer 4)=[vi .u64 0,vi .u64 0,vi .u64 0,vi .u64 0]:=rfl
 have e0:decide ((l.length:Int)>32)=false:=by rw[hl];rfl
 (refine Q0n Tryz.func76 rfl (by rfl) ?_;simp only[Tryz.ntmps76,List.length_cons,List.length_nil,Nat.reduceAdd,Nat.reduceSub,List.replicate,List.cons_append,List.nil_append])
 (repeat(any_goals(first|((with_reducible refine Q0c ?_ ?_);rfl;intro K hK;simp only[go_sem,e0];((repeat(refine ndI (by first|assumption) ?_));refine hK _ ?_;clear hK K))|(with_reducible first|(refine Q0d ?_;refine hR _ ?_;clear hR R)|((first|refine Q0e ?_|refine Q0l ?_);intro Ψ hΨ hΨ')|(refine Q0a ?_;intro R hR)|(refine hΨ _ ?_;clear hΨ hΨ' Ψ)|refine Q0j ?_)|((with_reducible apply Q0f);rfl;rfl;all_goals(intro hc;first|(cases hc;done)|(try simp only at hc))))))
 refine Q3n 32 (fun i=>⟨[bsl ex l,.any,.ptr 2 0,.any,.ptr 4 0,.any,.any,.any,.any,.any,.any,.any,bsl ex l,vi .i64 (l.length:Int),vi .i64 (i:Int),.any,.any,.any,.any,.any,.any,.any,.any,.any,.any,.any,.any,.any,.any,.any,.any,.any,.any,.any,.any,.any,.any,.any],[(2,rcV (zer 4)),(4,rcV (X i))]⟩) (St.le_of (by simp[leT]) (by rw[X0,z4];simp[leH,hget])) ?_
 intro i hi Ψ hΨ hΨ'
 (try dsimp only at hΨ ⊢)
 rcases Nat.lt_or_ge i 32 with hlt|hge
 · have k1:(decide ((i:Int)<(l.length:Int)))=true:=by simp;omega
   have k7:(i:Int)+1=((i+1:Nat):Int):=by omega
   have at1:l[i]? = some (l.getD i 0):=by rw[List.getD_eq_getElem?_getD,List.getElem?_eq_getElem (by omega)];rfl
   have at2:=bsl_at at1
   rw[Nat.mul_one] at at2
   have hbk:=getD_lt hb i
   have xi:=xs i
   obtain⟨b,hbv⟩:∃b,l.getD i 0=b:=⟨_,rfl⟩
   obtain⟨v,hv⟩:∃v,(X i).getD ((31-i)/8) 0=v:=⟨_,rfl⟩
   rw[hbv] at at2 hbk xi
   have k2:=rcV_getD (l:=X i) (i:=(31-i)/8) (by rw[lx];omega)
   rw[hv] at xi k2
   have w1:IntKind.u64.wrap ((b:Int)*2 ^ min (8*((31-i)%8)) 64)=((UInt64.ofNat (b*2 ^ (8*((31-i)%8)))).toNat:Int):=by
    rw[Nat.min_eq_left (by omega),show((b:Int)*2 ^ (8*((31-i)%8)))=((b*2 ^ (8*((31-i)%8)):Nat):Int) by push_cast;rfl,u64w,UInt64.toNat_ofNat']
   obtain⟨g,hg⟩:∃g,UInt64.ofNat (b*2 ^ (8*((31-i)%8)))=g:=⟨_,rfl⟩
   rw[hg] at w1 xi
   have u1:=u64_or v g
   have k4:=rcV_set (X i) ((31-i)/8) (v ||| g) (by rw[lx];omega)
   rw[←xi] at k4
   have k6:(rcV (X i)).length=4:=by rw[X6c,lx]
   have w2:IntKind.u64.wrap (b:Int)=(b:Int):=by rw[u64w,Nat.mod_eq_of_lt (by omega)]
   have j0:((l.length:Int)-1)-(i:Int)=((31-i:Nat):Int):=by omega
   have j1:Int.tdiv ((31-i:Nat):Int) 8=(((31-i)/8:Nat):Int):=by rw[Int.tdiv_eq_ediv_of_nonneg (by omega)];omega
   have j2:Int.tmod ((31-i:Nat):Int) 8=(((31-i)%8:Nat):Int):=by rw[Int.tmod_eq_emod_of_nonneg (by omega)];omega
   have j3:(8:Int)*(((31-i)%8:Nat):Int)=((8*((31-i)%8):Nat):Int):=by omega
   clear xi hg hv hbv xs X0
   (have W:=ndI at2 (ndI k1 (ndI k2 (ndI k4 (ndI k6 (ndI k7 (ndI j0 (ndI j1 (ndI j2 (ndI j3 (ndI w1 (ndI w2 (ndI u1 @wrI))))))))))));(repeat(any_goals(first|((with_reducible refine Q0c ?_ ?_);rfl;intro K hK;simp(disch:=omega) only[go_sem,W,Nat.mul_one,Int.toNat_natCast,Nat.zero_add];((repeat(refine ndI (by first|assumption|omega|rfl) ?_));refine hK _ ?_;clear hK K))|(with_reducible first|(refine Q0d ?_;refine hR _ ?_;clear hR R)|((first|refine Q0e ?_|refine Q0l ?_);intro Ψ hΨ hΨ')|(refine Q0a ?_;intro R hR)|(refine hΨ _ ?_;clear hΨ hΨ' Ψ)|refine Q0j ?_)|((with_reducible refine hΨ' _ _ ?_ ?_);(focus(simp;done));clear hΨ hΨ' Ψ)|((with_reducible apply Q0f);rfl;rfl;all_goals(intro hc;first|(cases hc;done)|(try simp only at hc)))|((with_reducible refine Q0v ?_ ?_);(apply Q5i);(focus(repeat(first|exact Sims.nil|((apply Sims.cons);(focus(first|exact Ef.sim_refl _))))));kernel_rfl;(with_reducible refine hR _ ?_);clear hR R)|(((with_reducible apply Q0w);rfl;rfl;(simp(disch:=omega) only[rdE,rdOf,go_sem,W,Nat.mul_one,Int.toNat_natCast,Nat.zero_add];rfl);(intro τ hA hQ hN;((try simp only[Q1a,Op.operands,Call.operands,go_sem,W,Nat.mul_one,Int.toNat_natCast,Nat.zero_add,go_sem,List.mem_cons,List.not_mem_nil,forall_eq_or_imp,forall_eq,List.append_toArray,Option.toArray] at hA);(try simp only[go_sem,W,Nat.mul_one,Int.toNat_natCast,Nat.zero_add,List.mem_cons,List.not_mem_nil,forall_eq_or_imp,forall_eq] at hQ hN);(first|(revert hA;intro hA));(first|(revert hQ;intro hQ));(first|(revert hN;intro hN));simp(disch:=omega) only[go_sem,W,Nat.mul_one,Int.toNat_natCast,Nat.zero_add,go_sem,hA,hQ,hN];(repeat(refine ndI (by first|assumption|omega|rfl) ?_));(first|apply Q0z|apply Q2g))));(simp(disch:=omega) only[St.eff,setO,Q0t,go_sem,W,Nat.mul_one,Int.toNat_natCast,Nat.zero_add]))|((with_reducible refine Q0q ?_ ?_ ?_ ?_);kernel_rfl;kernel_rfl;(simp[Q1n,Q5f,St.free,Q2i,AV.refsL,AV.refs,X4l]);intro R hR)))))
   exact hΨ _ hlt (St.le_of (by simp[leT]) (by simp[leH,hget]))
 · have k1:(decide ((i:Int)<(l.length:Int)))=false:=by simp;omega
   obtain rfl:i=32:=by omega
   have b1:List.take 4 (rcV (X 32))=rcV (X 32):=List.take_of_length_le (by rw[X6c,lx];omega)
   have b2:(rcV (X 32)).length=4:=by rw[X6c,lx]
   have b3:List.drop 4 (rcV (X 32))=[]:=List.drop_eq_nil_of_le (by omega)
   have b5:(rcV (zer 4)).length=4:=rfl
   have b4:List.drop 4 (rcV (zer 4))=[]:=rfl
   (have W:=ndI k1 (ndI b1 (ndI b2 (ndI b3 (ndI b4 b5))));(repeat(any_goals(first|((with_reducible refine Q0c ?_ ?_);rfl;intro K hK;simp(disch:=omega) only[go_sem,W,List.append_nil];((repeat(refine ndI (by first|assumption|rfl) ?_));refine hK _ ?_;clear hK K))|(with_reducible first|(refine Q0d ?_;refine hR _ ?_;clear hR R)|((first|refine Q0e ?_);intro Ψ hΨ hΨ')|(refine Q0a ?_;intro R hR)|(refine hΨ _ ?_;clear hΨ hΨ' Ψ)|refine Q0h ?_|refine Q1f ?_)|((with_reducible refine hΨ' _ _ ?_ ?_);(focus(simp;done));clear hΨ hΨ' Ψ)|((with_reducible apply Q0f);rfl;rfl;all_goals(intro hc;first|(cases hc;done)|(try simp only at hc)))))))
   all_goals(refine⟨by simp,⟨_,?_,AV.le_refl _⟩,Q0g (by simp[leH,hget])⟩;simp only[Tryz.results76,resL,ldA,Q0o,go_sem,b1];rw[if_pos (by omega)];rfl)
theorem wread_fn(ex:Bool)(l:List Nat)(hl:l.length=32)(hb:∀b∈l,b<256):Fn Tryz.prog 76 [bsl ex l] [] (.tup [lnA (wrR l 32),vi .i64 0]) []:=
 wread_fnE ex l hl hb (wrR l) rfl (X5w l) fun _=>rfl
attribute [-go_sem] IntKind.bits
theorem or_nat{a b:Nat}(ha:a<18446744073709551616)(hb:b<18446744073709551616):IntKind.u64.wrap (BitVec.ofInt IntKind.u64.bits (a:Int) ||| BitVec.ofInt IntKind.u64.bits (b:Int)).toNat=((a ||| b:Nat):Int):=by
 have e:(BitVec.ofInt IntKind.u64.bits (a:Int) ||| BitVec.ofInt IntKind.u64.bits (b:Int)).toNat=a ||| b:=by
  show(BitVec.ofInt 64 (a:Int) ||| BitVec.ofInt 64 (b:Int)).toNat=_
  rw[BitVec.toNat_or,BitVec.ofInt_natCast,BitVec.ofInt_natCast,BitVec.toNat_ofNat,BitVec.toNat_ofNat,Nat.mod_eq_of_lt ha,Nat.mod_eq_of_lt hb]
 rw[e]
 have h:a ||| b<2 ^ 64:=Nat.or_lt_two_pow ha hb
 exact wrU (by omega) (by omega)
theorem X4m{l:List Nat}(h:∀b∈l,b<256):∀i,rdN l i<256 ^ i
 |0=>Nat.zero_lt_one
 |i+1=>by
  have h1:=X4m h i
  unfold rdN
  rw[Nat.pow_succ]
  cases hb:l[i]? with
  |none=>dsimp only;omega
  |some b=>
   have:=h b (List.mem_of_getElem? hb)
   dsimp only;omega
theorem or_step{x y:Nat}(hx:x<72057594037927936)(hy:y<256):IntKind.u64.wrap ((x:Int)*2 ^ min 8 IntKind.u64.bits)=((x*256:Nat):Int)∧IntKind.u64.wrap (y:Int)=(y:Int)∧IntKind.u64.wrap (BitVec.ofInt IntKind.u64.bits ((x*256:Nat):Int) ||| BitVec.ofInt IntKind.u64.bits (y:Int)).toNat=((x*256+y:Nat):Int):=by
 refine⟨?_,wrU (by omega) (by omega),?_⟩
 · rw[show min 8 IntKind.u64.bits=8 from rfl,show((x:Int)*2 ^ 8)=((x*256:Nat):Int) by omega]
   exact wrU (by omega) (by omega)
 · rw[or_nat (by omega) (by omega)]
   have:=Nat.two_pow_add_eq_or_of_lt (i:=8) (b:=y) (by omega) x
   rw[show x*256=2 ^ 8*x by omega,this]
theorem read_fn(ex:Bool)(l:List Nat)(hl:8≤l.length)(hb:∀b∈l,b<256):Fn Tryz.prog 75 [bsl ex l] [] (.tup [vi .u64 (rdN l 8:Int),vi .i64 0]) []:=by
 have e:(decide ((l.length:Int)<8))=false:=by simp;omega
 (refine Q0n Tryz.func75 rfl (by rfl) ?_;simp only[Tryz.ntmps75,List.length_cons,List.length_nil,Nat.reduceAdd,Nat.reduceSub,List.replicate,List.cons_append,List.nil_append])
 (repeat(any_goals(first|((with_reducible refine Q0c ?_ ?_);rfl;intro K hK;simp only[go_sem,e];((repeat(refine ndI (by first|assumption) ?_));refine hK _ ?_;clear hK K))|(with_reducible first|(refine Q0d ?_;refine hR _ ?_;clear hR R)|((first|refine Q0e ?_|refine Q0l ?_);intro Ψ hΨ hΨ')|(refine Q0a ?_;intro R hR)|(refine hΨ _ ?_;clear hΨ hΨ' Ψ)|refine Q0j ?_)|((with_reducible apply Q0f);rfl;rfl;all_goals(intro hc;first|(cases hc;done)|(try simp only at hc))))))
 refine Q3n 8 (fun i=>⟨[bsl ex l,.any,.any,vi .i64 0,vi .u64 (rdN l i:Int),.any,.any,.any,.any,vi .i64 i,.any,.any,.any,.any,.any,.any,.any,.any,.any,.any,.any,.any],[]⟩) (St.le_of (by simp[leT,rdN]) (by simp[leH])) ?_
 intro i hi Ψ hΨ hΨ'
 (try dsimp only at hΨ ⊢)
 rcases Nat.lt_or_ge i 8 with hlt|hge
 · obtain⟨y,hy⟩:∃y,l[i]? = some y:=⟨l[i]'(by omega),List.getElem?_eq_getElem (by omega)⟩
   have k1:(decide ((i:Int)<8))=true:=by simp;omega
   have k2:=bsl_at hy
   have k7:(i:Int)+1=((i+1:Nat):Int):=by omega
   have hil:i<l.length:=by omega
   have hx:rdN l i<72057594037927936:=Nat.lt_of_lt_of_le (X4m hb i) (Nat.pow_le_pow_right (n:=256) (by omega) (show i≤7 by omega))
   obtain⟨g1,g2,g3⟩:=or_step hx (hb y (List.mem_of_getElem? hy))
   have g4:rdN l (i+1)=rdN l i*256+y:=by
    show rdN l i*256+(match l[i]? with|some b=>b|none=>0)=_
    rw[hy]
   rw[←g4] at g3
   generalize rdN l (i+1)=r1 at g3 hΨ
   generalize rdN l i=r0 at g1 g3 ⊢
   generalize ((r0*256:Nat):Int)=r2 at g1 g3
   (have W:=ndI k1 (ndI k2 (ndI k7 (ndI g1 (ndI g2 (ndI g3 @wrI)))));(repeat(any_goals(first|((with_reducible refine Q0c ?_ ?_);rfl;intro K hK;simp(disch:=omega) only[go_sem,W];((repeat(refine ndI (by first|assumption|omega|rfl) ?_));refine hK _ ?_;clear hK K))|(with_reducible first|(refine Q0d ?_;refine hR _ ?_;clear hR R)|((first|refine Q0e ?_|refine Q0l ?_);intro Ψ hΨ hΨ')|(refine Q0a ?_;intro R hR)|(refine hΨ _ ?_;clear hΨ hΨ' Ψ)|refine Q0j ?_)|((with_reducible refine hΨ' _ _ ?_ ?_);(focus(simp;done));clear hΨ hΨ' Ψ)|((with_reducible apply Q0f);rfl;rfl;all_goals(intro hc;first|(cases hc;done)|(try simp only at hc)))))))
   exact hΨ _ hlt (St.le_of (by simp[leT]) (by simp[leH]))
 · have k1:(decide ((i:Int)<8))=false:=by simp;omega
   obtain rfl:i=8:=by omega
   (repeat(any_goals(first|((with_reducible refine Q0c ?_ ?_);rfl;intro K hK;simp only[go_sem,k1];((repeat(refine ndI (by first|assumption) ?_));refine hK _ ?_;clear hK K))|(with_reducible first|(refine Q0d ?_;refine hR _ ?_;clear hR R)|((first|refine Q0e ?_);intro Ψ hΨ hΨ')|(refine Q0a ?_;intro R hR)|(refine hΨ _ ?_;clear hΨ hΨ' Ψ)|refine Q0h ?_|refine Q1f ?_)|((with_reducible refine hΨ' _ _ ?_ ?_);(focus(simp;done));clear hΨ hΨ' Ψ)|((with_reducible apply Q0f);rfl;rfl;all_goals(intro hc;first|(cases hc;done)|(try simp only at hc))))))
   all_goals(refine⟨by simp,⟨_,?_,AV.le_refl _⟩,Q0g (by simp[leH,hget])⟩;simp only[Tryz.results75,resL,ldA,Q0o,go_sem])
theorem wread_val(ex:Bool)(l:List Nat)(hl:l.length=32)(hb:∀b∈l,b<256):∃n,n<WW∧Fn Tryz.prog 76 [bsl ex l] [] (.tup [wN n,vi .i64 0]) []:=by
 have h:=wread_fn ex l hl hb
 have e:=X5w l 32
 generalize wrR l 32=X at h e
 match X,e with
 |[x,y,z,u],_=>
  have b:∀v:UInt64,0≤(v.toNat:Int)∧(v.toNat:Int)≤18446744073709551615:=fun v=>by have:=v.toNat_lt;omega
  obtain⟨n,hn,h0,h1,h2,h3⟩:=word_of (b x) (b y) (b z) (b u)
  refine⟨n,hn,?_⟩
  have e2:lnA [x,y,z,u]=wN n:=by
   show AV.agg [lvA x,lvA y,lvA z,lvA u]=_
   simp only[wN,lvA,h0,h1,h2,h3]
  rw[←e2]
  exact h
theorem opA_max2{P:Program}{o:Oper}{σ : St}{K:St→Prop}{ts:Array TypeId}{x y:Operand}{k k':IntKind}{m n:Int}(ho:o.op = .call {callee:=.builtin .max,args:=#[x,y],argTypes:=ts})(hx:Q0k x=true)(hy:Q0k y=true)(h1:σ.ev x = .c (.v (.int k m)))(h2:σ.ev y = .c (.v (.int k' n)))(hK:K (σ.put o.dst (.c (.v (.int k (if n>m then n else m)))))):OpA P o σ K:=
 Q1h _ hK fun E ι a w h=>by
  have hxv:=h.ev x hx
  rw[h1] at hxv
  have hyv:=h.ev y hy
  rw[h2] at hyv
  obtain⟨e1,_⟩:=hxv.v_inv
  obtain⟨e2,_⟩:=hyv.v_inv
  refine⟨.int k (if n>m then n else m),?_,Q1z _ rfl⟩
  simp[execOp,ho,resolve,invoke,builtin,e1,e2,Builtin.max_,Builtin.max2]
theorem u64_val(ex:Bool)(l:List Nat)(hl:l.length=8)(hb:∀b∈l,b<256):∃y,U y∧Fn Tryz.prog 79 [bsl ex l] [] (vi .u64 y) []:=by
 refine⟨(rdN l 8:Int),⟨by omega,by have:=X4m hb 8;have e:(256:Nat) ^ 8=18446744073709551616:=rfl;omega⟩,?_⟩
 have hl':(l.length:Int)=8:=by omega
 have d8:(l.flatMap bpv).take 8=l.flatMap bpv:=List.take_of_length_le (by rw[Q0u Q3f,hl];exact Nat.le_refl _)
 (refine Q0n Tryz.func79 rfl (by rfl) ?_;simp only[Tryz.ntmps79,List.length_cons,List.length_nil,Nat.reduceAdd,Nat.reduceSub,List.replicate,List.cons_append,List.nil_append])
 (repeat(any_goals(first|((with_reducible refine Q0c ?_ ?_);rfl;intro K hK;simp(disch:=omega) only[go_sem,hl,hl',Int.toNat_zero,Int.toNat_natCast,Int.sub_self,Nat.sub_zero,List.drop_zero,Nat.zero_mul];((repeat(refine ndI (by first|assumption|rfl) ?_));refine hK _ ?_;clear hK K))|(with_reducible first|(refine Q0d ?_;refine hR _ ?_;clear hR R)|((first|refine Q0e ?_);intro Ψ hΨ hΨ')|(refine Q0a ?_;intro R hR)|(refine hΨ _ ?_;clear hΨ hΨ' Ψ)))))
 (with_reducible refine Q4u ?_ ?_)
 · rfl
 intro K hK
 refine opA_max2 rfl rfl rfl rfl rfl ?_
 refine hK _ ?_
 clear hK K
 simp only[St.put,List.set]
 have w0:(if (0:Int)>IntKind.i64.wrap (((8:Nat):Int)-8) then(0:Int) else IntKind.i64.wrap (((8:Nat):Int)-8))=((0:Nat):Int):=by decide
 rw[w0]
 (repeat(any_goals(first|((with_reducible refine Q0c ?_ ?_);rfl;intro K hK;simp(disch:=omega) only[go_sem,hl,hl',d8,Int.toNat_zero,Int.toNat_natCast,Int.sub_self,Nat.sub_zero,List.drop_zero,Nat.zero_mul];((repeat(refine ndI (by first|assumption|omega|rfl) ?_));refine hK _ ?_;clear hK K))|(with_reducible first|(refine Q0d ?_;refine hR _ ?_;clear hR R)|((first|refine Q0l ?_);intro Ψ hΨ hΨ')|(refine hΨ _ ?_;clear hΨ hΨ' Ψ)))))
 refine Q3n 8 (fun i=>⟨[.any,.any,vi .u64 (rdN l i:Int),.any,.any,.any,.any,.any,.any,.any,.c (.sl false 1 8 (l.flatMap bpv)),vi .i64 8,vi .i64 (i:Int),.any,.any,.any,.any,.any,.any,.any,.any,.any,.any],[]⟩) (St.le_of (by simp[leT,rdN,hl]) (by simp[leH])) ?_
 intro i hi Ψ hΨ hΨ'
 (try dsimp only at hΨ ⊢)
 rcases Nat.lt_or_ge i 8 with hlt|hge
 · obtain⟨y,hy⟩:∃y,l[i]? = some y:=⟨l[i]'(by omega),List.getElem?_eq_getElem (by omega)⟩
   have k1:(decide ((i:Int)<8))=true:=by simp;omega
   have k2:=bsl_at hy
   have k7:(i:Int)+1=((i+1:Nat):Int):=by omega
   have hx:rdN l i<72057594037927936:=Nat.lt_of_lt_of_le (X4m hb i) (Nat.pow_le_pow_right (n:=256) (by omega) (show i≤7 by omega))
   obtain⟨g1,g2,g3⟩:=or_step hx (hb y (List.mem_of_getElem? hy))
   have g4:rdN l (i+1)=rdN l i*256+y:=by
    show rdN l i*256+(match l[i]? with|some b=>b|none=>0)=_
    rw[hy]
   rw[←g4] at g3
   have fin:=fun τ=>hΨ τ hlt
   clear hΨ g4
   generalize rdN l (i+1)=r1 at g3 fin
   generalize rdN l i=r0 at g1 g3 ⊢
   generalize ((r0*256:Nat):Int)=r2 at g1 g3
   (have W:=ndI k1 (ndI k2 (ndI k7 (ndI g1 (ndI g2 (ndI g3 @wrI)))));(repeat(any_goals(first|((with_reducible refine Q0c ?_ ?_);rfl;intro K hK;simp(disch:=omega) only[go_sem,W];((repeat(refine ndI (by first|assumption|omega|rfl) ?_));refine hK _ ?_;clear hK K))|(with_reducible first|(refine Q0d ?_;refine hR _ ?_;clear hR R)|((first|refine Q0e ?_|refine Q0l ?_);intro Ψ hΨ hΨ')|(refine Q0a ?_;intro R hR)|(refine hΨ _ ?_;clear hΨ hΨ' Ψ)|refine Q0j ?_)|((with_reducible refine hΨ' _ _ ?_ ?_);(focus(simp;done));clear hΨ hΨ' Ψ)|((with_reducible apply Q0f);rfl;rfl;all_goals(intro hc;first|(cases hc;done)|(try simp only at hc)))))))
   all_goals exact fin _ (St.le_of (by simp[leT]) (by simp[leH]))
 · obtain rfl:i=8:=by omega
   have k1:(decide (((8:Nat):Int)<8))=false:=rfl
   (repeat(any_goals(first|((with_reducible refine Q0c ?_ ?_);rfl;intro K hK;simp only[go_sem,k1];((repeat(refine ndI (by first|assumption) ?_));refine hK _ ?_;clear hK K))|(with_reducible first|(refine Q0d ?_;refine hR _ ?_;clear hR R)|((first|refine Q0e ?_);intro Ψ hΨ hΨ')|(refine Q0a ?_;intro R hR)|(refine hΨ _ ?_;clear hΨ hΨ' Ψ)|refine Q0h ?_|refine Q1f ?_)|((with_reducible refine hΨ' _ _ ?_ ?_);(focus(simp;done));clear hΨ hΨ' Ψ)|((with_reducible apply Q0f);rfl;rfl;all_goals(intro hc;first|(cases hc;done)|(try simp only at hc))))))
   all_goals(refine⟨by simp,⟨_,?_,AV.le_refl _⟩,Q0g (by simp[leH,hget])⟩;simp only[Tryz.results79,resL,ldA,Q0o,go_sem])
end
section
open Go.RowKit
theorem St.to.cells{σ : St}(r:Nat){cs ds:List AV}(hr:hget σ.H r=some cs)(hle:leL cs ds):σ.to ⟨σ.T,hput σ.H r ds⟩:=fun E ι a w hg=>by
 refine⟨ι,?_⟩
 obtain⟨hlen0,hle2⟩:=X0z hle
 have hget':∀q es,hget (hput σ.H r ds) q=some es→(q=r∧es=ds)∨(q≠r∧hget σ.H q=some es):=fun q es hq=>by
  rw[Q2k] at hq
  split at hq
  · rename_i e;cases hq;exact .inl ⟨e,rfl⟩
  · rename_i e;exact .inr ⟨e,hq⟩
 have hold:∀q es,hget (hput σ.H r ds) q=some es→∃fs,hget σ.H q=some fs:=fun q es hq=>by
  rcases hget' q es hq with⟨rfl,_⟩|⟨_,h⟩
  · exact⟨_,hr⟩
  · exact⟨_,h⟩
 have hSx:∀b,Sx E ι σ.H b→Sx E ι (hput σ.H r ds) b:=fun b ⟨g1,g2⟩=>⟨g1,fun q es hq hz=>by
  obtain⟨fs,hes⟩:=hold q es hq
  exact g2 q fs hes hz⟩
 have hR:∀{v:Value} {x:AV},RV (Sx E ι σ.H) ι w v x→RV (Sx E ι (hput σ.H r ds)) ι w v x:=fun hv=>hv.mono (fun b hb _=>⟨hSx b hb,rfl⟩) fun _ _=>rfl
 refine⟨hg.defers.mono fun b hb _=>⟨hSx b hb,rfl⟩,hg.size,fun i=>hR (hg.tmp i),⟨fun q es hq=>?_,fun q q' es fs hq hq'=>?_⟩,⟨hg.keep.os,hg.keep.tape,hg.keep.output,hg.keep.size,hg.keep.block,fun q es hq=>?_⟩⟩
 · rcases hget' q es hq with⟨rfl,rfl⟩|⟨_,h⟩
   · rcases hg.heap.blk q cs hr with⟨h0,rfl⟩|⟨cur,hh,hs,hlen,hcur,hone1⟩
     · exact .inl ⟨h0,List.eq_nil_of_length_eq_zero hlen0.symm⟩
     · refine .inr ⟨cur,hh,hs,by rw[←hlen0];exact hlen,fun i u x hu hx=>?_,hone1⟩
       have hi:i<cs.length:=by rw[hlen0];exact(List.getElem?_eq_some_iff.1 hx).1
       have hy:cs[i]? = some cs[i]:=List.getElem?_eq_getElem hi
       exact⟨hle2 i _ _ hy hx _ _ _ _ (hR (hcur i u _ hu hy).1),(hcur i u _ hu hy).2⟩
   · rcases hg.heap.blk q es h with h0|⟨cur,hh,hs,hlen,hcur,hone1⟩
     · exact .inl h0
     · exact .inr ⟨cur,hh,hs,hlen,fun i u x hu hx=>⟨hR (hcur i u x hu hx).1,(hcur i u x hu hx).2⟩,hone1⟩
 · obtain⟨ds',h1'⟩:=hold q es hq
   obtain⟨es',h2'⟩:=hold q' fs hq'
   exact hg.heap.inj q q' ds' es' h1' h2'
 · obtain⟨ds',h1'⟩:=hold q es hq
   exact hg.keep.mine q ds' h1'
section
variable {P:Program} {o:Oper} {σ : St} {K:St→Prop}
theorem X4u{t sz n:Nat}{g:Bool}{x i:Operand}{cs:List PV}{k:IntKind}{m:Int}(ho:o.op = .indexAddr t x i)(hx:Q0k x=true)(hi0:Q0k i=true)(h1:σ.ev x = .ep cs)(hi:σ.ev i = .c (.v (.int k m)))(hs:arrT P t=some (n,sz,g))
 (hb:0≤m∧m<n) (hl:m.toNat*sz<cs.length) (hK:K (σ.put o.dst (.ep (cs.drop (m.toNat*sz))))):OpA P o σ K:=
 Q1h _ hK fun E ι a w h=>by
  have hxv:=h.ev x hx
  rw[h1] at hxv
  have hiv:=h.ev i hi0
  rw[hi] at hiv
  obtain⟨ei,_⟩:=hiv.v_inv
  generalize he:a.eval x=v at hxv
  unfold arrT at hs
  split at hs
  · rename_i n' e' hu
    split at hs
    · rename_i s' g' hs1 hs2
      simp only[Option.some.injEq,Prod.mk.injEq] at hs
      obtain⟨rfl,rfl,rfl⟩:=hs
      cases hxv with
      |ep b off us cs hl' hne hS h4 h5=>
       refine⟨_,?_,.ep b (off+m.toNat*s') (us.drop (m.toNat*s')) _ (by simp;omega) (fun e=>?_) hS (fun j u hu=>?_) fun j u x hu hx=>?_⟩
       · simp only[execOp,ho,he,ei,Instr.indexAt,Sem.run_bind,Q3t,run_underlying hu,Result.andThen_ok,Sem.run_pure,Instr.sureAddr,Q3a hs1,Sem.run_ite,if_pos hb,Q1q]
       · have:=congrArg List.length e;simp at this;omega
       · rw[List.getElem?_drop] at hu;rw[Nat.add_assoc];exact h4 _ u hu
       · rw[List.getElem?_drop] at hu hx;exact h5 _ u x hu hx
    · cases hs
  · cases hs
theorem Q3c{t sz n:Nat}{g:Bool}{x i:Operand}{cs:List PV}{k:IntKind}{m:Int}(ho:o.op = .indexAddr t x i)(hx:Q0k x=true)(hi0:Q0k i=true)(h1:σ.ev x = .ep cs)(hi:σ.ev i = .c (.v (.int k m)))(hs:arrT P t=some (n,sz,g))
 (hb:0≤m∧m<n) (hl:m.toNat*sz<cs.length):OpF P o σ.ev (hget σ.H) (.ep (cs.drop (m.toNat*sz))) [] []:=fun τ hA _=>by
 refine X4u ho hx hi0 (by rw[hA x (by rw[ho];simp[Op.operands])];exact h1) (by rw[hA i (by rw[ho];simp[Op.operands])];exact hi) hs hb hl ?_
 cases o.dst<;>rfl
end
end
end Go.Proofs.YtbmcdemnnbndeaaGreatDoor
