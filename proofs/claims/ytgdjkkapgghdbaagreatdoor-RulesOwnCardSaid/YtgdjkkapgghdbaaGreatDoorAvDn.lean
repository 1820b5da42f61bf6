/-
  Nothing is appended to a part of a row; nothing in a temporary, as a part of a row of nothing. No program in sight.
-/
import Derived.Test.YtgdjkkapgghdbaaGreatDoorRld
import Derived.Test.YtgdjkkapgghdbaaGreatDoorYd
import Derived.Test.YtgdjkkapgghdbaaGreatDoorAvO
import Derived.Test.YtgdjkkapgghdbaaGreatDoorTrf
namespace Go.Proofs.YtgdjkkapgghdbaaGreatDoor
set_option linter.unusedSimpArgs false
set_option linter.unusedVariables false
section
open Go.RowKit
open Nat (reduceBEq)
attribute [-go_sem] IntKind.bits
set_option maxRecDepth 20000
set_option maxHeartbeats 1000000
def ofS:List Ph→Bool×Bool→Bool×Bool
 |[],s=>s
 |p::l,s=>ofS l (if p.role==1 then(true,p.stk) else s)
theorem court_yes(c:Cs)(hc:c.ok)(hr:Q4b c=true):Fn Tryz.prog 43 [csA c] [] (.ptr 11 0) [(11,[vi .u64 c.snd,phs false c.ph,asl false c.cd,vb (ofS c.ph (false,true)).1,vb (ofS c.ph (false,true)).2])]:=by
 have ck:=X5n c hc
 rw[hr,if_pos rfl] at ck
 have hpl:=hc.2.1.1
 obtain⟨s,ph,cd⟩:=c
 clear hr hc
 dsimp only at hpl
 dsimp only
 change Fn _ _ [.agg [vi .u64 s,phs false ph,asl false cd]] _ _ _ at ck
 change Fn _ _ [.agg [vi .u64 s,phs false ph,asl false cd]] _ _ _
 obtain⟨r,hr⟩:∃r,ofS ph (false,true)=r:=⟨_,rfl⟩
 rw[hr]
 obtain⟨rm,rf⟩:=r
 dsimp only
 (refine Q0z Tryz.func43 rfl (by rfl) ?_;simp only[Tryz.ntmps43,List.length_cons,List.length_nil,Nat.reduceAdd,Nat.reduceSub,List.replicate,List.cons_append,List.nil_append])
 (repeat(any_goals(first|((with_reducible refine Q0n ?_ ?_ ?_);rfl;rfl;intro K hK;((apply Q0k (ck);rfl;rfl;rfl;rfl;exact Tryz.func16);kernel_rfl;rfl;(focus((simp only[go_sem]);(try rfl);done));(first|rfl));(simp only[go_sem];refine hK _ ?_;clear hK K))|((with_reducible refine Q0b ?_ ?_);rfl;intro K hK;simp only[go_sem];((repeat(refine ndI (by first|assumption) ?_));refine hK _ ?_;clear hK K))|(with_reducible first|(refine Q0c ?_;refine hR _ ?_;clear hR R)|((first|refine Q0d ?_|refine Q0f ?_);intro J hJ hJ')|(refine Q0a ?_;intro R hR)|(refine hJ _ ?_;clear hJ hJ' J)|refine Q0g ?_)|((with_reducible apply Q0e);rfl;rfl;all_goals(intro hc;first|(cases hc;done)|(try simp only at hc))))))
 refine Q1t (α:={p:Nat×Bool×Bool // p.1≤ph.length∧ofS (ph.drop p.1) p.2=(rm,rf)}) (fun p=>⟨[.any,.ptr 1 0,.any,.ptr 11 0,.any,.any,.any,.any,.any,.any,.any,.any,.any,phs false ph,vi .i64 ph.length,vi .i64 (p.1.1:Int),.any,.any,.any,.any,.any,.any,.any,.any,.any,.any,.any,.any,.any,.any,.any,.any],[(1,[vi .u64 s,phs false ph,asl false cd]),(11,[vi .u64 s,phs false ph,asl false cd,vb p.1.2.1,vb p.1.2.2])]⟩) (fun p=>ph.length-p.1.1) ⟨(0,false,true),Nat.zero_le _,hr⟩ (St.le_of (by simp[leT]) (by simp[leH,hget])) ?_
 rintro ⟨⟨i,m,f⟩,hi,hd⟩ J hJ hJ'
 (try dsimp only at hi hd hJ ⊢)
 rcases Nat.lt_or_ge i ph.length with hlt|hge
 · obtain⟨y,hy⟩:∃y,ph[i]? = some y:=⟨_,List.getElem?_eq_getElem hlt⟩
   have k1:(decide ((i:Int)<(ph.length:Int)))=true:=by simp;omega
   have k2:=X1e hy
   have k7:(i:Int)+1=((i+1:Nat):Int):=by omega
   have hdr:ph.drop i=y::ph.drop (i+1):=by
    rw[List.drop_eq_getElem_cons hlt]
    rw[List.getElem?_eq_getElem hlt] at hy
    rw[Option.some.inj hy]
   rw[hdr] at hd
   unfold ofS at hd
   cases hb:(y.role==1) with
   |true=>
    rw[hb,if_pos rfl] at hd
    have hJ1:=fun σ'=>hJ σ' ⟨(i+1,true,y.stk),hlt,hd⟩ (by dsimp only;omega)
    dsimp only at hJ1
    clear hd hr
    (have W:=ndI k1 (ndI k2 (ndI k7 @wrI));(repeat(any_goals(first|((with_reducible refine Q0b ?_ ?_);rfl;intro K hK;simp(disch:=omega) only[go_sem,W,hb];((repeat(refine ndI (by first|assumption|omega|rfl) ?_));refine hK _ ?_;clear hK K))|(with_reducible first|(refine Q0c ?_;refine hR _ ?_;clear hR R)|((first|refine Q0d ?_|refine Q0f ?_);intro J hJ hJ')|(refine Q0a ?_;intro R hR)|(refine hJ _ ?_;clear hJ hJ' J)|refine Q0g ?_)|((with_reducible refine hJ' _ _ ?_ ?_);(focus(simp;done));clear hJ hJ' J)|((with_reducible apply Q0e);rfl;rfl;all_goals(intro hc;first|(cases hc;done)|(try simp only at hc)))|((with_reducible refine Q0v ?_ ?_);kernel_rfl;(with_reducible refine hR _ ?_);clear hR R)|(((with_reducible apply Q0t);rfl;rfl;(simp(disch:=omega) only[rdE,rdOf,go_sem,W,hb];rfl);(intro τ hA hQ hN;((try simp only[Q1e,Op.operands,Call.operands,go_sem,W,hb,go_sem,List.mem_cons,List.not_mem_nil,forall_eq_or_imp,forall_eq,List.append_toArray,Option.toArray] at hA);(try simp only[go_sem,W,hb,List.mem_cons,List.not_mem_nil,forall_eq_or_imp,forall_eq] at hQ hN);(first|(revert hA;intro hA));(first|(revert hQ;intro hQ));(first|(revert hN;intro hN));simp(disch:=omega) only[go_sem,W,hb,go_sem,hA,hQ,hN];(repeat(refine ndI (by first|assumption|rfl) ?_));(first|apply Q1a|apply Q5h))));(simp(disch:=omega) only[St.eff,setO,Q0w,go_sem,W,hb]))|((with_reducible refine Q0r ?_ ?_ ?_ ?_);kernel_rfl;kernel_rfl;(first|kernel_rfl);intro R hR)))))
    all_goals exact hJ1 _ (St.le_of (by simp[leT]) (by simp[leH,hget]))
   |false=>
    rw[hb,if_neg (by simp)] at hd
    have hJ1:=fun σ'=>hJ σ' ⟨(i+1,m,f),hlt,hd⟩ (by dsimp only;omega)
    dsimp only at hJ1
    clear hd hr
    (have W:=ndI k1 (ndI k2 (ndI k7 @wrI));(repeat(any_goals(first|((with_reducible refine Q0b ?_ ?_);rfl;intro K hK;simp(disch:=omega) only[go_sem,W,hb];((repeat(refine ndI (by first|assumption|omega|rfl) ?_));refine hK _ ?_;clear hK K))|(with_reducible first|(refine Q0c ?_;refine hR _ ?_;clear hR R)|((first|refine Q0d ?_|refine Q0f ?_);intro J hJ hJ')|(refine Q0a ?_;intro R hR)|(refine hJ _ ?_;clear hJ hJ' J)|refine Q0g ?_)|((with_reducible refine hJ' _ _ ?_ ?_);(focus(simp;done));clear hJ hJ' J)|((with_reducible apply Q0e);rfl;rfl;all_goals(intro hc;first|(cases hc;done)|(try simp only at hc)))))))
    all_goals exact hJ1 _ (St.le_of (by simp[leT]) (by simp[leH,hget]))
 · have k1:(decide ((i:Int)<(ph.length:Int)))=false:=by simp;omega
   rw[List.drop_eq_nil_of_le hge] at hd
   have e1:m=rm:=congrArg Prod.fst hd
   have e2:f=rf:=congrArg Prod.snd hd
   clear hd hr
   (repeat(any_goals(first|((with_reducible refine Q0b ?_ ?_);rfl;intro K hK;simp only[go_sem,k1];((repeat(refine ndI (by first|assumption) ?_));refine hK _ ?_;clear hK K))|(with_reducible first|(refine Q0c ?_;refine hR _ ?_;clear hR R)|((first|refine Q0d ?_);intro J hJ hJ')|(refine Q0a ?_;intro R hR)|(refine hJ _ ?_;clear hJ hJ' J)|refine Q0j ?_|refine Q0o ?_)|((with_reducible refine hJ' _ _ ?_ ?_);(focus(simp;done));clear hJ hJ' J)|((with_reducible apply Q0e);rfl;rfl;all_goals(intro hc;first|(cases hc;done)|(try simp only at hc))))))
   all_goals rw[←e1,←e2]
   all_goals(refine⟨by simp,⟨_,?_,AV.le_refl _⟩,Q0h (by simp[leH,hget])⟩;simp only[Tryz.results43,resL,ldA,Q0q,go_sem])
def ofM(c:Cs):Bool:=(ofS c.ph (false,true)).1
def ofF(c:Cs):Bool:=(ofS c.ph (false,true)).2
theorem Q9l(c:Cs)(hc:c.ok)(hr:Q4b c=true):Fn Tryz.prog 43 [csA c] [] (ktP c (ofM c) (ofF c)) []:=by
 have h:=Fn.frzG (d:=11) (pcs:=[.v (.int .u64 c.snd),.sl false 4 c.ph.length (c.ph.flatMap Ph.pv),.sl false 1 c.cd.length (c.cd.flatMap apv),.v (.bool (ofM c)),.v (.bool (ofF c))]) (court_yes c hc hr)
 simpa [AV.frz] using h
theorem X4e(c:Cs)(hc:c.ok)(hr:Q4b c=false):Fn Tryz.prog 43 [csA c] [] (.c (.v (.pointer none))) []:=by
 have ck:=X5n c hc
 rw[hr,if_neg (by simp)] at ck
 clear hr
 (refine Q0z Tryz.func43 rfl (by rfl) ?_;simp only[Tryz.ntmps43,List.length_cons,List.length_nil,Nat.reduceAdd,Nat.reduceSub,List.replicate,List.cons_append,List.nil_append])
 (repeat(any_goals(first|((with_reducible refine Q0n ?_ ?_ ?_);rfl;rfl;intro K hK;((apply Q0k (ck);rfl;rfl;rfl;rfl;exact Tryz.func16);kernel_rfl;rfl;(focus((simp only[go_sem]);(try rfl);done));(first|rfl));(simp only[go_sem];refine hK _ ?_;clear hK K))|((with_reducible refine Q0b ?_ ?_);rfl;intro K hK;simp only[go_sem];((repeat(refine ndI (by first|assumption) ?_));refine hK _ ?_;clear hK K))|(with_reducible first|(refine Q0c ?_;refine hR _ ?_;clear hR R)|((first|refine Q0d ?_);intro J hJ hJ')|(refine Q0a ?_;intro R hR)|(refine hJ _ ?_;clear hJ hJ' J)|refine Q0j ?_)|((with_reducible refine hJ' _ _ ?_ ?_);(focus(simp;done));clear hJ hJ' J)|((with_reducible apply Q0e);rfl;rfl;all_goals(intro hc;first|(cases hc;done)|(try simp only at hc))))))
 all_goals(refine⟨by simp,⟨_,?_,AV.le_refl _⟩,Q0h (by simp[leH,hget])⟩;simp only[Tryz.results43,resL,ldA,Q0q,go_sem])
def ownB'(c:Cs)(s:Sp):Bool:=Q4b c&&Q2o c s c.snd
theorem own_fn(c:Cs)(hc:c.ok)(s:Sp)(hs:s.ok):Fn Tryz.prog 14 [csA c,spA s] [] (vb (ownB' c s)) []:=by
 have bf:=Q6n c hc (ofM c) (ofF c) s hs c.snd hc.1
 unfold ownB'
 generalize Q2o c s c.snd=b at bf ⊢
 cases hr:Q4b c with
 |true=>
  have h:=Q9l c hc hr
  change Fn _ _ [.agg [vi .u64 c.snd,phs false c.ph,asl false c.cd]] _ _ _ at h
  generalize ofM c=m at h bf
  generalize ofF c=f at h bf
  clear hr hc
  (refine Q0z Tryz.func14 rfl (by rfl) ?_;simp only[Tryz.ntmps14,List.length_cons,List.length_nil,Nat.reduceAdd,Nat.reduceSub,List.replicate,List.cons_append,List.nil_append])
  (repeat(any_goals(first|((with_reducible refine Q0n ?_ ?_ ?_);rfl;rfl;intro K hK;((first|(apply Q0k (h);rfl;rfl;rfl;rfl;exact Tryz.func43));kernel_rfl;rfl;(focus((simp only[go_sem]);(try rfl);done));(first|rfl));(simp only[go_sem];refine hK _ ?_;clear hK K))|((with_reducible refine Q0b ?_ ?_);rfl;intro K hK;simp only[go_sem];((repeat(refine ndI (by first|assumption) ?_));refine hK _ ?_;clear hK K))|(with_reducible first|(refine Q0c ?_;refine hR _ ?_;clear hR R)|((first|refine Q0d ?_);intro J hJ hJ')|(refine Q0a ?_;intro R hR)|(refine hJ _ ?_;clear hJ hJ' J)|refine Q0j ?_)|((with_reducible refine Q0v ?_ ?_);kernel_rfl;(with_reducible refine hR _ ?_);clear hR R)|((first|((first|((with_reducible apply Q2y);rfl;rfl;rfl;rfl;rfl));((first|(apply Q0u (bf);rfl;rfl;rfl;rfl;exact Tryz.func46));kernel_rfl;rfl;(focus((simp only[go_sem]);(try rfl);done));(first|rfl)))|((first|((with_reducible apply Q0t);rfl;rfl)|((with_reducible apply Q2v);rfl;rfl;rfl;rfl;rfl));(simp only[rdE,rdOf,go_sem];rfl);(intro τ hA hQ hN;((try simp only[Q1e,Op.operands,Call.operands,go_sem,List.mem_cons,List.not_mem_nil,forall_eq_or_imp,forall_eq,List.append_toArray,Option.toArray] at hA);(try simp only[go_sem,List.mem_cons,List.not_mem_nil,forall_eq_or_imp,forall_eq] at hQ hN);(first|(revert hA;intro hA));(first|(revert hQ;intro hQ));(first|(revert hN;intro hN));simp only[go_sem,hA,hQ,hN];(repeat(refine ndI (by first|assumption) ?_));(first|apply Q1a))))|((first|((with_reducible apply Q3j);rfl));(first|(apply opF_epne;rfl;rfl;kernel_rfl;rfl))));(simp only[St.eff,setO,Q0w,go_sem]))|((with_reducible refine Q0r ?_ ?_ ?_ ?_);kernel_rfl;kernel_rfl;(first|kernel_rfl);intro R hR))))
  all_goals(refine⟨by simp,⟨_,?_,AV.le_refl _⟩,Q0h (by simp[leH,hget])⟩;simp only[Tryz.results14,resL,ldA,Q0q,go_sem])
  all_goals(fail)
 |false=>
  have h:=X4e c hc hr
  change Fn _ _ [.agg [vi .u64 c.snd,phs false c.ph,asl false c.cd]] _ _ _ at h
  clear hr hc
  (refine Q0z Tryz.func14 rfl (by rfl) ?_;simp only[Tryz.ntmps14,List.length_cons,List.length_nil,Nat.reduceAdd,Nat.reduceSub,List.replicate,List.cons_append,List.nil_append])
  (repeat(any_goals(first|((with_reducible refine Q0n ?_ ?_ ?_);rfl;rfl;intro K hK;((first|(apply Q0k (h);rfl;rfl;rfl;rfl;exact Tryz.func43));kernel_rfl;rfl;(focus((simp only[go_sem]);(try rfl);done));(first|rfl));(simp only[go_sem];refine hK _ ?_;clear hK K))|((with_reducible refine Q0b ?_ ?_);rfl;intro K hK;simp only[go_sem];((repeat(refine ndI (by first|assumption) ?_));refine hK _ ?_;clear hK K))|(with_reducible first|(refine Q0c ?_;refine hR _ ?_;clear hR R)|((first|refine Q0d ?_);intro J hJ hJ')|(refine Q0a ?_;intro R hR)|(refine hJ _ ?_;clear hJ hJ' J)|refine Q0j ?_)|((with_reducible refine Q0v ?_ ?_);kernel_rfl;(with_reducible refine hR _ ?_);clear hR R)|((first|((with_reducible apply Q3e);rfl;rfl;rfl;rfl)|((first|((with_reducible apply Q0t);rfl;rfl));(simp only[rdE,rdOf,go_sem];rfl);(intro τ hA hQ hN;((try simp only[Q1e,Op.operands,Call.operands,go_sem,List.mem_cons,List.not_mem_nil,forall_eq_or_imp,forall_eq,List.append_toArray,Option.toArray] at hA);(try simp only[go_sem,List.mem_cons,List.not_mem_nil,forall_eq_or_imp,forall_eq] at hQ hN);(first|(revert hA;intro hA));(first|(revert hQ;intro hQ));(first|(revert hN;intro hN));simp only[go_sem,hA,hQ,hN];(repeat(refine ndI (by first|assumption) ?_));(first|apply Q1a))))|((first|((with_reducible apply Q3j);rfl));(first|(apply opF_pne;rfl;rfl;kernel_rfl;rfl))));(simp only[St.eff,setO,Q0w,go_sem]))|((with_reducible refine Q0r ?_ ?_ ?_ ?_);kernel_rfl;kernel_rfl;(first|kernel_rfl);intro R hR))))
  all_goals(refine⟨by simp,⟨_,?_,AV.le_refl _⟩,Q0h (by simp[leH,hget])⟩;simp only[Tryz.results14,resL,ldA,Q0q,go_sem])
  all_goals(first|rfl)
end
section
open Go.RowKit
open Nat (reduceBEq)
attribute [-go_sem] IntKind.bits
set_option maxRecDepth 20000
set_option maxHeartbeats 1000000
abbrev raA(l:List Int):List AV:=(l.flatMap apv).map .c
def whoL(l:List Ph):List Int:=l.map Ph.who
theorem whoL_snoc{l:List Ph}{i:Nat}{y:Ph}(h:l[i]? = some y):whoL (l.take (i+1))=whoL (l.take i)++[y.who]:=by
 unfold whoL
 rw[List.take_add_one,h,List.map_append]
 rfl
theorem X8q(l:List Ph):(whoL l).length=l.length:=List.length_map _
abbrev stE(c:Cs)(m f:Bool)(r:Nat)(out:List Int)(i:Nat):St:=⟨[.any,.ptr 1 0,.c (.v (.slice none 0 0)),ktP c m f,.row r 23 1 out.length,.any,.any,.any,.any,.any,.any,.any,.any,.any,.any,phs false c.ph,vi .i64 c.ph.length,vi .i64 i,.any,.any,.any,.any,.any,.any,.any,.any,.any,.any,.any],[(1,[vi .u64 c.snd,phs false c.ph,asl false c.cd]),(r,raA out)]⟩
theorem stE_rn(c:Cs)(m f:Bool)(out:List Int)(i:Nat):(stE c m f 25 out i).to (stE c m f 500 out i):=by
 have h:=St.to.rn (σ:=stE c m f 25 out i) (fun r=>if r=25 then 500 else r) (fun r=>if r=500 then 25 else r) [25,1] (by simp[AV.inNL,AV.inN]) (by simp) (by simp[inH,AV.inNL,AV.inN,Q1b]) (by simp) (by simp)
 simpa [AV.renL,AV.ren,renH] using h
abbrev stF(c:Cs)(m f:Bool)(out:List Int)(i:Nat):St:=⟨[.any,.ptr 1 0,.c (.v (.slice none 0 0)),ktP c m f,asl false out,.any,.any,.any,.any,.any,.any,.any,.any,.any,.any,phs false c.ph,vi .i64 c.ph.length,vi .i64 i,.any,.any,.any,.any,.any,.any,.any,.any,.any,.any,.any],[(1,[vi .u64 c.snd,phs false c.ph,asl false c.cd])]⟩
theorem stE_frz(c:Cs)(m f:Bool)(out:List Int)(i:Nat):(stE c m f 500 out i).to (stF c m f out i):=by
 have h:=St.to.frz (σ:=stE c m f 500 out i) 500 (pcs:=out.flatMap apv) rfl
 have e:((stE c m f 500 out i).frz 500 (out.flatMap apv))=stF c m f out i:=by
  simp[St.frz,AV.frz,AV.frzL,frzH,Q0p Q3v]
 rwa [e] at h
abbrev stI(c:Cs)(m f:Bool)(i:Nat):St:=if i<c.ph.length then stE c m f 500 (whoL (c.ph.take i)) i else stF c m f (whoL (c.ph.take i)) i
theorem stI_to(c:Cs)(m f:Bool){τ : St}{i:Nat}(h:τ.to (stE c m f 500 (whoL (c.ph.take i)) i)):τ.to (stI c m f i):=by
 unfold stI
 split
 · exact h
 · exact h.trans (stE_frz c m f _ i)
theorem X6r(c:Cs)(hpl:c.ph.length≤1000)(m f:Bool)(h:Fn Tryz.prog 43 [.agg [vi .u64 c.snd,phs false c.ph,asl false c.cd]] [] (ktP c m f) [])(r:List Int)(so:Fn Tryz.prog 55 [asl false (whoL c.ph)] [] (asl false r) []) :
 Fn Tryz.prog 17 [csA c] [] (asl false r) []:=by
 (refine Q0z Tryz.func17 rfl (by rfl) ?_;simp only[Tryz.ntmps17,List.length_cons,List.length_nil,Nat.reduceAdd,Nat.reduceSub,List.replicate,List.cons_append,List.nil_append])
 (repeat(any_goals(first|((with_reducible refine Q3p ?_ ?_);rfl;intro K hK;(first|(apply Q7p;rfl;rfl;kernel_rfl;rfl));(simp only[go_sem];refine hK _ ?_;clear hK K))|((with_reducible refine Q0n ?_ ?_ ?_);rfl;rfl;intro K hK;((apply Q0k (h);rfl;rfl;rfl;rfl;exact Tryz.func43);kernel_rfl;rfl;(focus((simp only[go_sem]);(try rfl);done));(first|rfl));(simp only[go_sem];refine hK _ ?_;clear hK K))|((with_reducible refine Q0b ?_ ?_);rfl;intro K hK;simp only[go_sem];((repeat(refine ndI (by first|assumption) ?_));refine hK _ ?_;clear hK K))|(with_reducible first|(refine Q0c ?_;refine hR _ ?_;clear hR R)|((first|refine Q0d ?_|refine Q0f ?_);intro J hJ hJ')|(refine Q0a ?_;intro R hR)|(refine hJ _ ?_;clear hJ hJ' J)|refine Q0g ?_)|((with_reducible apply Q0e);rfl;rfl;all_goals(intro hc;first|(cases hc;done)|(try simp only at hc))))))
 refine Q3u c.ph.length (fun i=>stI c m f i) ?_ ?_
 · refine stI_to c m f ?_
   refine St.to.trans (St.to.of_le (τ:=⟨[.any,.ptr 1 0,.c (.v (.slice none 0 0)),ktP c m f,.c (.v (.slice none 0 0)),.any,.any,.any,.any,.any,.any,.any,.any,.any,.any,phs false c.ph,vi .i64 c.ph.length,vi .i64 0,.any,.any,.any,.any,.any,.any,.any,.any,.any,.any,.any],[(1,[vi .u64 c.snd,phs false c.ph,asl false c.cd])]⟩) (St.le_of (by simp[leT]) (by simp[leH,hget]))) ?_
   refine St.to.trans (St.to.nilrow 4 500 23 1 rfl (by simp) (by simp[St.free,Q1w,AV.refsL,AV.refs]) (by decide)) (St.to.of_le (St.le_of (by simp[leT,whoL]) (by simp[leH,hget,hput,whoL])))
 intro i hi J hJ hJ'
 have hJ0:=fun τ h1 h2=>hJ τ h1 (stI_to c m f h2)
 clear hJ
 have hJ:=hJ0
 clear hJ0
 rcases Nat.lt_or_ge i c.ph.length with hlt|hge
 · obtain⟨y,hy⟩:∃y,c.ph[i]? = some y:=⟨_,List.getElem?_eq_getElem hlt⟩
   have k1:(decide ((i:Int)<(c.ph.length:Int)))=true:=by simpa using hlt
   have k2:=X1e hy
   have k7:(i:Int)+1=((i+1:Nat):Int):=by omega
   have es:stI c m f i=stE c m f 500 (whoL (c.ph.take i)) i:=if_pos hlt
   rw[es]
   clear es
   dsimp only[stE] at hJ ⊢
   have k5:(whoL (c.ph.take i)).length≤1000:=by rw[X8q];simp;omega
   have hJ1:=fun τ=>hJ τ hlt
   rw[whoL_snoc hy] at hJ1
   clear hJ
   generalize whoL (c.ph.take i)=out at k5 hJ1 ⊢
   have k4:(raA out).length=out.length*1:=by rw[List.length_map,Q0p Q3v]
   have k9:∀r,AV.refsL r (raA out)=false:=fun r=>Q0l r _
   (have W:=ndI k1 (ndI k2 (ndI k4 (ndI k7 (ndI k9 (ndI @wrI @Q0l)))));(repeat(any_goals(first|((with_reducible refine Q0b ?_ ?_);rfl;intro K hK;simp(disch:=omega) only[go_sem,W,Q0x,AV.refsL,AV.refs,List.length_append,List.length_cons,List.length_nil,Bool.or_false];((repeat(refine ndI (by first|assumption|omega|rfl) ?_));refine hK _ ?_;clear hK K))|(with_reducible first|(refine Q0c ?_;refine hR _ ?_;clear hR R)|((first|refine Q0d ?_|refine Q0f ?_);intro J hJ hJ')|(refine Q0a ?_;intro R hR)|(refine hJ _ ?_;clear hJ hJ' J)|refine Q0g ?_)|((with_reducible refine hJ' _ _ ?_ ?_);(focus(simp;done));clear hJ hJ' J)|((with_reducible apply Q0e);rfl;rfl;all_goals(intro hc;first|(cases hc;done)|(try simp only at hc)))))))
   all_goals exact hJ1 _ (St.to.trans (St.to.of_le (τ:=stE c m f 25 (out++[y.who]) (i+1)) (St.le_of (by simp[leT]) (by simp[leH,hget,apv,raA]))) (stE_rn c m f _ _))
 · have k1:(decide ((i:Int)<(c.ph.length:Int)))=false:=by simpa using hge
   have e:c.ph.take i=c.ph:=List.take_of_length_le hge
   have es:stI c m f i=stF c m f (whoL (c.ph.take i)) i:=if_neg (by omega)
   rw[es,e]
   clear es
   dsimp only[stF]
   (repeat(any_goals(first|((with_reducible refine Q0n ?_ ?_ ?_);rfl;rfl;intro K hK;((apply Q0k (so);rfl;rfl;rfl;rfl;exact Tryz.func55);kernel_rfl;rfl;(focus((simp only[go_sem,k1]);(try rfl);done));(first|rfl));(simp only[go_sem,k1];refine hK _ ?_;clear hK K))|((with_reducible refine Q0b ?_ ?_);rfl;intro K hK;simp only[go_sem,k1];((repeat(refine ndI (by first|assumption) ?_));refine hK _ ?_;clear hK K))|(with_reducible first|(refine Q0c ?_;refine hR _ ?_;clear hR R)|((first|refine Q0d ?_);intro J hJ hJ')|(refine Q0a ?_;intro R hR)|(refine hJ _ ?_;clear hJ hJ' J)|refine Q0j ?_|refine Q0o ?_)|((with_reducible refine hJ' _ _ ?_ ?_);(focus(simp;done));clear hJ hJ' J)|((with_reducible apply Q0e);rfl;rfl;all_goals(intro hc;first|(cases hc;done)|(try simp only at hc))))))
   all_goals exact⟨by simp,⟨_,rfl,AV.le_refl _⟩,Q0h (by simp[leH,hget])⟩
theorem X6q(c:Cs)(hc:c.ok)(hr:Q4b c=true):∃r:List Int,r.Pairwise (· < ·)∧(∀x,x∈r↔x∈whoL c.ph)∧Fn Tryz.prog 17 [csA c] [] (asl false r) []:=by
 obtain⟨r,h1,h2,_,so⟩:=X1q false (whoL c.ph) (by rw[X8q];have:=hc.2.1.1;omega) fun a ha=>by
  obtain⟨p,hp,rfl⟩:=List.mem_map.1 ha
  exact(hc.2.1.2 p hp).1
 exact⟨r,h1,h2,X6r c hc.2.1.1 _ _ (Q9l c hc hr) r so⟩
end
section
open Go.RowKit
open Nat (reduceBEq)
attribute [-go_sem] IntKind.bits
set_option maxRecDepth 20000
set_option maxHeartbeats 1000000
abbrev epE(e:Ev):AV:=.ep [.v (.int .i64 e.kind),.v (.int .i64 e.dep),.v (.int .u64 e.self),.v (.int .u64 e.to),.v (.int .u8 (e.op:Int)),.v (.int .u64 (l0 e.key)),.v (.int .u64 (l1 e.key)),.v (.int .u64 (l2 e.key)),.v (.int .u64 (l3 e.key)),.v (.int .u64 (l0 e.val)),.v (.int .u64 (l1 e.val)),.v (.int .u64 (l2 e.val)),.v (.int .u64 (l3 e.val)),.sl false 1 e.data.length (e.data.flatMap bpv)]
abbrev epP(p:Ph):AV:=.ep [.v (.int .i64 p.role),.v (.int .u64 p.who),.v (.bool p.stk),.sl false 14 p.tr.length (p.tr.flatMap Ev.pv)]
abbrev clF(e:Ev):AV:=.fn 100 [epE e]
theorem rl8_fn(e:Ev)(he:e.ok)(c:Cs)(hc:c.ok)(m f:Bool)(p:Ph)(hp:U p.who):Fn Tryz.prog 110 [epE e,.ptr 1002 0,epP p] [(1002,[ktP c m f])] (vb (((e.kind==2)||(e.kind==3)) && !X1n c f p e)) [(1002,[ktP c m f])]:=by
 have g:=touch_fn c hc m f p hp e he
 clear he hc
 generalize X1n c f p e=q at g ⊢
 obtain⟨b1,h1⟩:∃b,(e.kind==2)=b:=⟨_,rfl⟩
 obtain⟨b2,h2⟩:∃b,(e.kind==3)=b:=⟨_,rfl⟩
 rw[h1,h2]
 cases b1<;>cases b2
 all_goals(refine Q0z Tryz.func110 rfl (by rfl) ?_;simp only[Tryz.ntmps110,List.length_cons,List.length_nil,Nat.reduceAdd,Nat.reduceSub,List.replicate,List.cons_append,List.nil_append])
 all_goals(repeat(any_goals(first|((with_reducible refine Q0b ?_ ?_);rfl;intro K hK;simp only[go_sem,h1,h2];((repeat(refine ndI (by first|assumption) ?_));refine hK _ ?_;clear hK K))|(with_reducible first|(refine Q0c ?_;refine hR _ ?_;clear hR R)|((first|refine Q0d ?_);intro J hJ hJ')|(refine Q0a ?_;intro R hR)|(refine hJ _ ?_;clear hJ hJ' J)|refine Q0j ?_)|((with_reducible apply Q0y);rfl;rfl;rfl;all_goals(intro hb;first|(cases hb;done)|((try simp only[Bool.not_true,Bool.not_false] at hb);(first|((with_reducible intro K hK);(first|((apply Q0k (g);rfl;rfl;rfl;rfl;exact Tryz.func111);kernel_rfl;rfl;(focus((simp only[go_sem,h1,h2]);(try rfl);done));(first|rfl))|skip);simp only[go_sem,h1,h2];((repeat(refine ndI (by first|assumption) ?_));refine hK _ ?_;clear hK K))|((fail_if_success (with_reducible intro _));simp only[go_sem,h1,h2]))))))))
 all_goals(refine⟨by simp,⟨_,?_,AV.le_refl _⟩,Q0h (by simp[leH,hget])⟩;simp only[Tryz.results110,resL,ldA,Q0q,go_sem])
 all_goals(first|rfl)
end
section
open Go.RowKit
open Nat (reduceBEq)
attribute [-go_sem] IntKind.bits
set_option maxRecDepth 20000
set_option maxHeartbeats 4000000
def funcT(P:Program)(t:Nat):Bool:=match P.underlying t with|some (.func _ _ _)=>true|_=>false
section
variable {P:Program} {o:Oper} {σ : St} {K:St→Prop}
theorem Z0d{t:Nat}(ht:funcT P t=true)(f:Go.Fn)(us vs:Array Value)(w:World):(Op.equal t (.func f us vs) .nilFunc).run P w = .ok false w∧(Op.equal t .nilFunc .nilFunc).run P w = .ok true w:=by
 obtain⟨a,b,c,hu⟩:∃a b c,P.underlying t=some (.func a b c):=by
  unfold funcT at ht
  cases hu:P.underlying t with
  |none=>simp[hu] at ht
  |some d=>cases d<;>simp[hu] at ht;exact⟨_,_,_,rfl⟩
 unfold Op.equal
 rw[show Op.maxDepth=9999+1 from rfl]
 unfold Op.equalIn
 rw[Sem.run_bind,run_underlying hu,Result.andThen_ok,Sem.run_bind,run_underlying hu,Result.andThen_ok]
 exact⟨rfl,rfl⟩
theorem opA_fnne{t t':TypeId}{x:Operand}{f:FuncId}{caps:List AV}(ho:o.op = .binOp .neq t x (.const .nilFunc) t')(hx:Q0i x=true)(ht:funcT P t=true)(h1:σ.ev x = .fn f caps)(hK:K (σ.put o.dst (vb true))):OpA P o σ K:=
 Q1h _ hK fun E ι a w h=>by
  have hxv:=h.ev x hx
  rw[h1] at hxv
  generalize he:a.eval x=v at hxv
  cases hxv with
  |fn f us cs hl hr=>
   refine⟨_,?_,Q1z _ rfl⟩
   have e2:a.eval (.const .nilFunc) = .nilFunc:=rfl
   have hg:(eqGuard .neq t x (.const .nilFunc) (.func (.func f) #[] us.toArray) .nilFunc).run P w = .ok () w:=Q2t rfl (by simp) t _ _ w
   have g2':binOp .neq t (.func (.func f) #[] us.toArray) .nilFunc=(do pure (.bool (!(←Op.equal t (.func (.func f) #[] us.toArray) .nilFunc)))):=rfl
   simp only[execOp,ho,he,e2,Sem.run_bind,hg,Result.andThen_ok,g2',(Z0d ht _ _ _ w).1,Sem.run_pure,Bool.not_false]
theorem opA_fnni{t t':TypeId}{x:Operand}(ho:o.op = .binOp .neq t x (.const .nilFunc) t')(hx:Q0i x=true)(ht:funcT P t=true)(h1:σ.ev x = .c (.v .nilFunc))(hK:K (σ.put o.dst (vb false))):OpA P o σ K:=
 Q1h _ hK fun E ι a w h=>by
  have hxv:=h.ev x hx
  rw[h1] at hxv
  obtain⟨he,_⟩:=hxv.v_inv
  refine⟨_,?_,Q1z _ rfl⟩
  have e2:a.eval (.const .nilFunc) = .nilFunc:=rfl
  have hg:(eqGuard .neq t x (.const .nilFunc) .nilFunc .nilFunc).run P w = .ok () w:=Q2t rfl (by simp) t _ _ w
  have g2':binOp .neq t .nilFunc .nilFunc=(do pure (.bool (!(←Op.equal t .nilFunc .nilFunc)))):=rfl
  simp only[execOp,ho,he,e2,Sem.run_bind,hg,Result.andThen_ok,g2',(Z0d ht (.func 0) #[] #[] w).2,Sem.run_pure,Bool.not_true]
end
abbrev evP(e:Ev):List PV:=[.v (.int .i64 e.kind),.v (.int .i64 e.dep),.v (.int .u64 e.self),.v (.int .u64 e.to),.v (.int .u8 (e.op:Int)),.v (.int .u64 (l0 e.key)),.v (.int .u64 (l1 e.key)),.v (.int .u64 (l2 e.key)),.v (.int .u64 (l3 e.key)),.v (.int .u64 (l0 e.val)),.v (.int .u64 (l1 e.val)),.v (.int .u64 (l2 e.val)),.v (.int .u64 (l3 e.val)),.sl false 1 e.data.length (e.data.flatMap bpv)]
abbrev phP(p:Ph):List PV:=[.v (.int .i64 p.role),.v (.int .u64 p.who),.v (.bool p.stk),.sl false 14 p.tr.length (p.tr.flatMap Ev.pv)]
def ruleN(q1 q2 q3 q4 q5 q6 q7:Bool):Int:=if q1 then 1 else if q2 then 2 else if q3 then 3 else if q4 then 4 else if q5 then 5 else if q6 then 6 else if q7 then 7 else 0
theorem rule_fnE(ks:List PV)(p:Ph)(at_:Nat)(e:Ev)(hlt:at_<p.tr.length)(k2:((p.tr.flatMap Ev.pv).drop (at_*14)).take 14=evP e)(q1 q2 q3 q4 q5 q6 q7:Bool)
 (b1:Fn Tryz.prog 102 [epE e,epP p,.ptr 1001 0] [(1001,[clF e])] (vb q1) [(1001,[clF e])])
 (b2:Fn Tryz.prog 103 [epE e,.ptr 1001 0] [(1001,[clF e])] (vb q2) [(1001,[clF e])])
 (b3:Fn Tryz.prog 104 [epE e,.ptr 1001 0] [(1001,[clF e])] (vb q3) [(1001,[clF e])])
 (b4:Fn Tryz.prog 105 [epE e,.ptr 1001 0,.ptr 1002 0,epP p,.ep [.v (.int .i64 at_)]] [(1001,[clF e]),(1002,[.ep ks])] (vb q4) [(1001,[clF e]),(1002,[.ep ks])])
 (b5:Fn Tryz.prog 107 [epE e,.ptr 1001 0] [(1001,[clF e])] (vb q5) [(1001,[clF e])])
 (b6:Fn Tryz.prog 108 [epE e,.ptr 1001 0,.ptr 1002 0] [(1001,[clF e]),(1002,[.ep ks])] (vb q6) [(1001,[clF e]),(1002,[.ep ks])])
 (b7:Fn Tryz.prog 110 [epE e,.ptr 1002 0,epP p] [(1002,[.ep ks])] (vb q7) [(1002,[.ep ks])]) :
 Fn Tryz.prog 68 [.ep ks,phA p,vi .i64 at_] [] (vi .i64 (ruleN q1 q2 q3 q4 q5 q6 q7)) []:=by
 (refine Q0z Tryz.func68 rfl (by rfl) ?_;simp only[Tryz.ntmps68,List.length_cons,List.length_nil,Nat.reduceAdd,Nat.reduceSub,List.replicate,List.cons_append,List.nil_append])
 (repeat(any_goals(first|((with_reducible refine Q0b ?_ ?_);rfl;intro K hK;simp(disch:=omega) only[go_sem,k2];((repeat(refine ndI (by first|assumption|omega|rfl) ?_));refine hK _ ?_;clear hK K))|(with_reducible first|(refine Q0c ?_;refine hR _ ?_;clear hR R)|((first|refine Q0d ?_|refine Q0f ?_);intro J hJ hJ')|(refine Q0a ?_;intro R hR)|(refine hJ _ ?_;clear hJ hJ' J)))))
 refine Q5g 9 ?_
 refine Q6j ?_
 intro J hJ hJ'
 refine Q0d ?_
 intro J hJ hJ'
 refine Q0a ?_
 intro R hR
 refine Z0c rfl (St.to.trans (St.to.frz 7 (pcs:=evP e) rfl) (St.to.trans (St.to.frz 4 (pcs:=phP p) rfl) (St.to.frz 5 (pcs:=[.v (.int .i64 at_)]) rfl))) ?_
 simp only[St.frz,AV.frzL,AV.frz,frzH,if_true,eq_self,↓reduceIte,Nat.reduceEqDiff,List.length_cons,List.length_nil,List.drop_zero,Nat.reduceAdd,Nat.reduceLT,if_false]
 have w1:IntKind.i64.wrap (0+1)=1:=rfl
 have w2:IntKind.i64.wrap (1+1)=2:=rfl
 have w3:IntKind.i64.wrap (2+1)=3:=rfl
 have w4:IntKind.i64.wrap (3+1)=4:=rfl
 have w5:IntKind.i64.wrap (4+1)=5:=rfl
 have w6:IntKind.i64.wrap (5+1)=6:=rfl
 have w7:IntKind.i64.wrap (6+1)=7:=rfl
 have w8:IntKind.i64.wrap (7+1)=8:=rfl
 (have W:=ndI w1 (ndI w2 (ndI w3 (ndI w4 (ndI w5 (ndI w6 (ndI w7 w8))))));(repeat(any_goals(first|((with_reducible refine Q3p ?_ ?_);rfl;intro K hK;(first|(apply opA_fnne;rfl;rfl;kernel_rfl;rfl)|(apply opA_fnni;rfl;rfl;kernel_rfl;rfl));(simp only[go_sem,W];refine hK _ ?_;clear hK K))|((with_reducible refine Q0b ?_ ?_);rfl;intro K hK;simp only[go_sem,W];((repeat(refine ndI (by first|assumption|omega) ?_));refine hK _ ?_;clear hK K))|(with_reducible first|(refine Q0c ?_;refine hR _ ?_;clear hR R)|((first|refine Q0d ?_|refine Q0f ?_);intro J hJ hJ')|(refine Q0a ?_;intro R hR)|(refine hJ _ ?_;clear hJ hJ' J)|refine Q0g ?_|refine Q0j ?_|refine Q0o ?_)|((with_reducible refine hJ' _ _ ?_ ?_);(focus(simp;done));clear hJ hJ' J)|((with_reducible apply Q0y);rfl;rfl;rfl;all_goals(intro hb;first|(cases hb;done)|((try simp only[Bool.not_true,Bool.not_false] at hb);(first|((with_reducible intro K hK);(first|(apply Q1i (b1) (fun r=>if r=1001 then 8 else if r=1002 then 3 else r);rfl;rfl;rfl;rfl;exact Tryz.func102;kernel_rfl;rfl;rfl;(intro r hr q hq h;simp only[List.map_cons,List.map_nil,List.cons_append,List.nil_append,List.mem_cons,List.not_mem_nil,or_false] at hr hq;(try dsimp only at h);first|omega);(simp only[Q1f,Q2g,AV.ren,AV.renL,Q0s,List.mem_cons,List.not_mem_nil,forall_eq_or_imp,forall_eq,Q2b,List.contains_cons,List.contains_nil,AV.refsL,AV.refs,Q0l,AV.inN,AV.inNL,inH,Q1b,go_sem,W]);(simp only[Q0w,Q1y,renH,AV.ren,AV.renL,Q0s]))|(apply Q1i (b2) (fun r=>if r=1001 then 8 else if r=1002 then 3 else r);rfl;rfl;rfl;rfl;exact Tryz.func103;kernel_rfl;rfl;rfl;(intro r hr q hq h;simp only[List.map_cons,List.map_nil,List.cons_append,List.nil_append,List.mem_cons,List.not_mem_nil,or_false] at hr hq;(try dsimp only at h);first|omega);(simp only[Q1f,Q2g,AV.ren,AV.renL,Q0s,List.mem_cons,List.not_mem_nil,forall_eq_or_imp,forall_eq,Q2b,List.contains_cons,List.contains_nil,AV.refsL,AV.refs,Q0l,AV.inN,AV.inNL,inH,Q1b,go_sem,W]);(simp only[Q0w,Q1y,renH,AV.ren,AV.renL,Q0s]))|(apply Q1i (b3) (fun r=>if r=1001 then 8 else if r=1002 then 3 else r);rfl;rfl;rfl;rfl;exact Tryz.func104;kernel_rfl;rfl;rfl;(intro r hr q hq h;simp only[List.map_cons,List.map_nil,List.cons_append,List.nil_append,List.mem_cons,List.not_mem_nil,or_false] at hr hq;(try dsimp only at h);first|omega);(simp only[Q1f,Q2g,AV.ren,AV.renL,Q0s,List.mem_cons,List.not_mem_nil,forall_eq_or_imp,forall_eq,Q2b,List.contains_cons,List.contains_nil,AV.refsL,AV.refs,Q0l,AV.inN,AV.inNL,inH,Q1b,go_sem,W]);(simp only[Q0w,Q1y,renH,AV.ren,AV.renL,Q0s]))|(apply Q1i (b4) (fun r=>if r=1001 then 8 else if r=1002 then 3 else r);rfl;rfl;rfl;rfl;exact Tryz.func105;kernel_rfl;rfl;rfl;(intro r hr q hq h;simp only[List.map_cons,List.map_nil,List.cons_append,List.nil_append,List.mem_cons,List.not_mem_nil,or_false] at hr hq;(try dsimp only at h);first|((repeat' split at h)<;>omega));(simp only[Q1f,Q2g,AV.ren,AV.renL,Q0s,List.mem_cons,List.not_mem_nil,forall_eq_or_imp,forall_eq,Q2b,List.contains_cons,List.contains_nil,AV.refsL,AV.refs,Q0l,AV.inN,AV.inNL,inH,Q1b,go_sem,W]);(simp only[Q0w,Q1y,renH,AV.ren,AV.renL,Q0s]))|(apply Q1i (b5) (fun r=>if r=1001 then 8 else if r=1002 then 3 else r);rfl;rfl;rfl;rfl;exact Tryz.func107;kernel_rfl;rfl;rfl;(intro r hr q hq h;simp only[List.map_cons,List.map_nil,List.cons_append,List.nil_append,List.mem_cons,List.not_mem_nil,or_false] at hr hq;(try dsimp only at h);first|omega);(simp only[Q1f,Q2g,AV.ren,AV.renL,Q0s,List.mem_cons,List.not_mem_nil,forall_eq_or_imp,forall_eq,Q2b,List.contains_cons,List.contains_nil,AV.refsL,AV.refs,Q0l,AV.inN,AV.inNL,inH,Q1b,go_sem,W]);(simp only[Q0w,Q1y,renH,AV.ren,AV.renL,Q0s]))|(apply Q1i (b6) (fun r=>if r=1001 then 8 else if r=1002 then 3 else r);rfl;rfl;rfl;rfl;exact Tryz.func108;kernel_rfl;rfl;rfl;(intro r hr q hq h;simp only[List.map_cons,List.map_nil,List.cons_append,List.nil_append,List.mem_cons,List.not_mem_nil,or_false] at hr hq;(try dsimp only at h);first|((repeat' split at h)<;>omega));(simp only[Q1f,Q2g,AV.ren,AV.renL,Q0s,List.mem_cons,List.not_mem_nil,forall_eq_or_imp,forall_eq,Q2b,List.contains_cons,List.contains_nil,AV.refsL,AV.refs,Q0l,AV.inN,AV.inNL,inH,Q1b,go_sem,W]);(simp only[Q0w,Q1y,renH,AV.ren,AV.renL,Q0s]))|(apply Q1i (b7) (fun r=>if r=1001 then 8 else if r=1002 then 3 else r);rfl;rfl;rfl;rfl;exact Tryz.func110;kernel_rfl;rfl;rfl;(intro r hr q hq h;simp only[List.map_cons,List.map_nil,List.cons_append,List.nil_append,List.mem_cons,List.not_mem_nil,or_false] at hr hq;(try dsimp only at h);first|omega);(simp only[Q1f,Q2g,AV.ren,AV.renL,Q0s,List.mem_cons,List.not_mem_nil,forall_eq_or_imp,forall_eq,Q2b,List.contains_cons,List.contains_nil,AV.refsL,AV.refs,Q0l,AV.inN,AV.inNL,inH,Q1b,go_sem,W]);(simp only[Q0w,Q1y,renH,AV.ren,AV.renL,Q0s]))|skip);simp only[go_sem,W];((repeat(refine ndI (by first|assumption) ?_));refine hK _ ?_;clear hK K))|((fail_if_success (with_reducible intro _));simp only[go_sem,W])))))|((with_reducible apply Q0e);rfl;rfl;all_goals(intro hc;first|(cases hc;done)|(try simp only at hc)))|((with_reducible refine Q6j ?_);intro J hJ hJ')))))
 all_goals(refine⟨by simp,⟨_,?_,AV.le_refl _⟩,Q0h (by simp[leH,hget])⟩;simp only[Tryz.results68,resL,ldA,Q0q,go_sem])
 all_goals clear b1 b2 b3 b4 b5 b6 b7
 all_goals(cases q1<;>cases q2<;>cases q3<;>cases q4<;>cases q5<;>cases q6<;>cases q7<;>first|rfl|contradiction)
def X7f(c:Cs)(p:Ph)(at_:Nat)(e:Ev):Int:=ruleN ((e.kind==5) && !(p.stk&&decide (e.op∈[49,71]))) ((e.kind==6) && !decide (e.op∈[241,244,250]))
 (((e.kind==4)&&(e.to==1))&&(!decide (e.op∈[241])||decide ((e.data.length:Int)>0))) (((e.kind==4)&&decide (e.op∈[245])) && !makesB c p at_ e)
 ((((e.kind==4)&&decide (e.op∈[241]))&&(e.to != 1)) && !decide (e.val=0)) ((((e.kind==4) && !decide (e.op∈[245]))&&(e.to != 1)) && !codedB c (ofM c) e.to) (((e.kind==2)||(e.kind==3)) && !X1n c (ofF c) p e)
end
section
open Go.RowKit
open Nat (reduceBEq)
attribute [-go_sem] IntKind.bits
set_option maxRecDepth 20000
set_option maxHeartbeats 4000000
end
section
open Go.RowKit
open Nat (reduceBEq)
attribute [-go_sem] IntKind.bits
set_option maxRecDepth 20000
set_option maxHeartbeats 2000000
theorem for1_fn(c:Cs)(hc:c.ok)(m f:Bool)(s:Sp)(hs:s.ok):Fn Tryz.prog 45 [spA s,.ptr 1001 0] [(1001,[ktP c m f])] (vb (Q2o c s c.snd)) [(1001,[ktP c m f])]:=by
 have g:=Q6n c hc m f s hs c.snd hc.1
 generalize Q2o c s c.snd=b at g ⊢
 clear hc hs
 (refine Q0z Tryz.func45 rfl (by rfl) ?_;simp only[Tryz.ntmps45,List.length_cons,List.length_nil,Nat.reduceAdd,Nat.reduceSub,List.replicate,List.cons_append,List.nil_append])
 (repeat(any_goals(first|((with_reducible refine Q0b ?_ ?_);rfl;intro K hK;simp only[go_sem];((repeat(refine ndI (by first|assumption) ?_));refine hK _ ?_;clear hK K))|(with_reducible first|(refine Q0c ?_;refine hR _ ?_;clear hR R)|((first|refine Q0d ?_);intro J hJ hJ')|(refine Q0a ?_;intro R hR)|(refine hJ _ ?_;clear hJ hJ' J)|refine Q0j ?_)|((with_reducible refine Q0v ?_ ?_);kernel_rfl;(with_reducible refine hR _ ?_);clear hR R)|((first|((with_reducible apply Q1j);rfl;rfl;((apply Q0u (g);rfl;rfl;rfl;rfl;exact Tryz.func46);kernel_rfl;rfl;(focus((simp only[go_sem]);(try rfl);done));(first|rfl)))|((with_reducible apply Q0t);rfl;rfl;(simp only[rdE,rdOf,go_sem];rfl);(intro τ hA hQ hN;((try simp only[Q1e,Op.operands,Call.operands,go_sem,List.mem_cons,List.not_mem_nil,forall_eq_or_imp,forall_eq,List.append_toArray,Option.toArray] at hA);(try simp only[go_sem,List.mem_cons,List.not_mem_nil,forall_eq_or_imp,forall_eq] at hQ hN);(first|(revert hA;intro hA));(first|(revert hQ;intro hQ));(first|(revert hN;intro hN));simp only[go_sem,hA,hQ,hN];(repeat(refine ndI (by first|assumption) ?_));(first|apply Q1a)))));(simp only[St.eff,setO,Q0w,go_sem]))|((with_reducible refine Q0r ?_ ?_ ?_ ?_);kernel_rfl;kernel_rfl;(first|kernel_rfl);intro R hR))))
 all_goals(refine⟨by simp,⟨_,?_,AV.le_refl _⟩,Q0h (by simp[leH,hget])⟩;simp only[Tryz.results45,resL,ldA,Q0q,go_sem])
end
section
open Go.RowKit
open Nat (reduceBEq)
attribute [-go_sem] IntKind.bits
set_option maxRecDepth 20000
set_option maxHeartbeats 2000000
structure Bk where
 i:Int
 j:Int
 r:Int
deriving DecidableEq
def Bk.pv(b:Bk):List PV:=[.v (.int .i64 b.i),.v (.int .i64 b.j),.v (.int .i64 b.r)]
abbrev bkA(b:Bk):AV:=.agg [vi .i64 b.i,vi .i64 b.j,vi .i64 b.r]
def brkP(R:Nat→Ev→Int)(i:Nat):List Ev→Nat→List Bk
 |[],_=>[]
 |e::l,j=>if R j e>0 then⟨i,j,R j e⟩::brkP R i l (j+1) else brkP R i l (j+1)
def brkG(R:Ph→Nat→Ev→Int):List Ph→Nat→List Bk
 |[],_=>[]
 |p::l,i=>brkP (R p) i p.tr 0++brkG R l (i+1)
def brkC(c:Cs):List Bk:=brkG (X7f c) c.ph 0
theorem Z0p(R:Nat→Ev→Int)(i:Nat):∀(l m:List Ev) (k:Nat),brkP R i (l++m) k=brkP R i l k++brkP R i m (k+l.length)
 |[],m,k=>rfl
 |e::l,m,k=>by
  simp only[List.cons_append,brkP,List.length_cons]
  rw[Z0p R i l m (k+1),show k+1+l.length=k+(l.length+1) by omega]
  split<;>rfl
theorem Z0q(R:Ph→Nat→Ev→Int):∀(l m:List Ph) (k:Nat),brkG R (l++m) k=brkG R l k++brkG R m (k+l.length)
 |[],m,k=>rfl
 |p::l,m,k=>by
  simp only[List.cons_append,brkG,List.length_cons]
  rw[Z0q R l m (k+1),show k+1+l.length=k+(l.length+1) by omega,List.append_assoc]
theorem breaks_fn(ks:List PV):Fn Tryz.prog 61 [.ep ks] [] (.fn 94 [.ptr 1 0]) [(1,[.ep ks])]:=by
 (refine Q0z Tryz.func61 rfl (by rfl) ?_;simp only[Tryz.ntmps61,List.length_cons,List.length_nil,Nat.reduceAdd,Nat.reduceSub,List.replicate,List.cons_append,List.nil_append])
 (repeat(any_goals(first|((with_reducible refine Q0b ?_ ?_);rfl;intro K hK;simp only[go_sem];((repeat(refine ndI (by first|assumption) ?_));refine hK _ ?_;clear hK K))|(with_reducible first|(refine Q0c ?_;refine hR _ ?_;clear hR R)|((first|refine Q0d ?_);intro J hJ hJ')|(refine Q0a ?_;intro R hR)|(refine hJ _ ?_;clear hJ hJ' J)|refine Q0j ?_))))
 all_goals exact⟨by simp,⟨_,rfl,AV.le_of (by simp[Q0q])⟩,Q0h (by simp[leH,hget])⟩
end
section
open Go.RowKit
open Nat (reduceBEq)
attribute [-go_sem] IntKind.bits
set_option maxRecDepth 20000
set_option maxHeartbeats 2000000
theorem brkP_mem(R:Nat→Ev→Int)(i:Nat){l:List Ev}{j:Nat}{e:Ev}(h:l[j]? = some e)(k:Nat)(hz:R (k+j) e>0):⟨i,((k+j:Nat):Int),R (k+j) e⟩∈brkP R i l k:=by
 have hlt:=(List.getElem?_eq_some_iff.1 h).1
 have e1:l=l.take j++e::l.drop (j+1):=by
  rw[List.getElem?_eq_getElem hlt] at h
  rw[←Option.some.inj h,←List.drop_eq_getElem_cons hlt,List.take_append_drop]
 have e2:(l.take j).length=j:=by rw[List.length_take];omega
 rw[e1,Z0p,e2]
 refine List.mem_append_right _ ?_
 unfold brkP
 rw[if_pos hz]
 exact List.mem_cons_self
theorem brk_mem(R:Ph→Nat→Ev→Int){ph:List Ph}{i:Nat}{p:Ph}(hp:ph[i]? = some p){j:Nat}{e:Ev}(he:p.tr[j]? = some e)(hz:R p j e>0):⟨i,j,R p j e⟩∈brkG R ph 0:=by
 have hlt:=(List.getElem?_eq_some_iff.1 hp).1
 have e1:ph=ph.take i++p::ph.drop (i+1):=by
  have h:=hp
  rw[List.getElem?_eq_getElem hlt] at h
  rw[←Option.some.inj h,←List.drop_eq_getElem_cons hlt,List.take_append_drop]
 have e2:(ph.take i).length=i:=by rw[List.length_take];omega
 rw[e1,Z0q,e2,Nat.zero_add]
 refine List.mem_append_right _ ?_
 unfold brkG
 refine List.mem_append_left _ ?_
 have h:=brkP_mem (R p) i he 0
 rw[Nat.zero_add] at h
 exact h hz
abbrev ktL(c:Cs):List PV:=[.v (.int .u64 c.snd),.sl false 4 c.ph.length (c.ph.flatMap Ph.pv),.sl false 1 c.cd.length (c.cd.flatMap apv),.v (.bool (ofM c)),.v (.bool (ofF c))]
def X4l(c:Cs):List Bk:=if Q4b c=true then brkC c else[]
end
section
open Go.RowKit
theorem X5p{w:World}{l:Nat}{o o':Obj}:(w.putObj l o).putObj l o'=w.putObj l o':=by
 show({w with heap:=_}:World)=_
 simp[World.putObj]
abbrev recD(ps:Array Tmp)(assign body:Code)(f:FuncId)(t:Array Value)(D:Nat):Loop:={Q1v ps assign body f t D with state:=.done,pending:=some .ret}
def Stop(t:Tmp)(assign body:Code)(l:Nat)(E E2:Env):Prop:=
 ∃f ts D,E.w.heap[l]? = some (.loop (Q1v #[t] assign body f ts D))∧∃hG,E2={E with w:=E.w.putObj l (.loop (recD #[t] assign body f ts D)),hG:=hG}
def YZ(P:Program)(t:Tmp)(assign body:Code)(T0:List AV)(l:Nat)(x:AV)(H0 H1:List (Nat×List AV)):Prop:=
 ∀(E:Env) (v:Value) (f:FuncId) (ts:Array Value) (D:Nat),E.D=H0.map (·.1)→(∀r cs b,hget H0 r=some cs→(E.ι r).2.1≠0→E.S b→(E.ι r).1≠b)→ConcH E.S E.ι H0 E.w→RV E.S E.ι E.w v x →
  E.w.heap[l]? = some (.loop (Q1v #[t] assign body f ts D))→ts.size=T0.length→(∀i,RV E.S E.ι E.w (ts.getD i undef) (T0.getD i .any)) →
  RoundIn Fence.wide 0 P l f (ts.setIfInBounds t v) assign body E.w fun e w'=>∃E2 v ι',Stop t assign body l E E2∧e = .returned v∧RV (Sx E2 ι' H1) ι' w' v (.c (.v (.bool false)))∧ConcH (Sx E2 ι' H1) ι' H1 w'∧Keep E2 ι' H1 w'
theorem yz_of{P:Program}{t:Tmp}{assign body:Code}{T0:List AV}{l:Nat}{x:AV}{H0 H1:List (Nat×List AV)}(hA:Q4r assign=true)(hB:Q4r body=true)
 (h:evC P assign ⟨T0.set t x,H0⟩ fun ex σ1=>ex = .normal∧evC P body σ1 fun ex σ2=>ex = .ret∧∀r cs,hget H1 r=some cs→hget σ2.H r=some cs):YZ P t assign body T0 l x H0 H1:=by
 intro E v f ts D hED hS hH hv hl hsz hts
 have hlt:=(Array.getElem?_eq_some_iff.1 hl).1
 have hne:∀r∈E.D,(E.ι r).2.1≠0→(E.ι r).1≠l:=by rw[hED];exact Q6r hH hl rfl
 have hv':RV (Sx E E.ι H0) E.ι E.w v x:=hv.mono (fun b hb _=>⟨⟨.inl hb,fun r cs hr hz=>hS r cs b hr hz hb⟩,rfl⟩) fun _ _=>rfl
 have hc0:=(Conc.begin E hED hS hH hsz hts).put (some t) hv'
 refine roundIn_of_wpIn trivial ?_
 refine wpIn_mono (Q8x (ro:=some l) assign hA _ _ h E E.ι _ E.w hc0) ?_
 rintro ex a1 w1 ⟨ι1,σ1,hc1,rfl,h2⟩
 have hl1:w1.heap[l]? = some (.loop (Q1v #[t] assign body f ts D)):=(hc1.keep.block l hlt hne).trans hl
 refine⟨_,run_beginRound hl1 rfl,?_⟩
 have hc2:=hc1.rebase (.loop {Q1v #[t] assign body f ts D with state:=.busy}) hl hl1 rfl
 refine wpIn_mono (Q8x (ro:=some l) body hB _ _ h2 _ ι1 _ _ hc2) ?_
 rintro ex a2 w3 ⟨ι2,σ2,hc3,rfl,h3⟩
 have hlb:(E.w.putObj l (.loop {Q1v #[t] assign body f ts D with state:=.busy})).heap[l]? = some (.loop {Q1v #[t] assign body f ts D with state:=.busy}):=World.putObj_heap_same hlt
 have hl3:w3.heap[l]? = some (.loop {Q1v #[t] assign body f ts D with state:=.busy}):=(hc3.keep.block l (by simpa using hlt) hne).trans hlb
 refine⟨_,_,run_endRound (some .ret) hl3,?_⟩
 have hc4:=hc3.rebase (.loop (recD #[t] assign body f ts D)) hlb hl3 rfl
 have key:∀(w':World) (hG':GlobOK w' E.S E.ι E.D),w'=E.w.putObj l (.loop (recD #[t] assign body f ts D))→Conc {E with w:=w',hG:=hG'} ι2 σ2 a2 (w3.putObj l (.loop (recD #[t] assign body f ts D)))→∃hG,Conc {E with w:=E.w.putObj l (.loop (recD #[t] assign body f ts D)),hG:=hG} ι2 σ2 a2 (w3.putObj l (.loop (recD #[t] assign body f ts D))):=by
  rintro _ hG rfl h;exact⟨hG,h⟩
 obtain⟨hG,hc5⟩:=key _ _ X5p hc4
 have hc6:=hc5.leH h3
 exact⟨_,_,ι2,⟨f,ts,D,hl,hG,rfl⟩,rfl,.c _ _ (.v _ rfl),hc6.heap,hc6.keep⟩
def AWZ(p:Env→Prop)(Z:Env→Env→Prop)(P:Program)(c:Code)(σ : St)(Φ Φ2:Exit→St→Prop):Prop:=
 ∀(E:Env) (ι : Nat→Nat×Nat×Nat) (a:Act) (w:World),p E→Conc E ι σ a w→c.wp P (fun ex a' w'=>(∃ι' σ',Conc E ι' σ' a' w'∧Φ ex σ')∨∃E2 ι' σ',Z E E2∧Conc E2 ι' σ' a' w'∧Φ2 ex σ') a w
section
variable {p:Env→Prop} {Z:Env→Env→Prop} {P:Program} {σ : St} {Φ Φ2:Exit→St→Prop}
theorem AWZ.of{c:Code}(h:AWE p P c σ Φ):AWZ p Z P c σ Φ Φ2:=fun E ι a w hp hc=>wp_mono (h E ι a w hp hc) fun _ _ _ h=>.inl h
theorem AWZ.to{c:Code}{τ : St}(ht:σ.to τ)(h:AWZ p Z P c τ Φ Φ2):AWZ p Z P c σ Φ Φ2:=fun E ι a w hp hc=>by
 obtain⟨ι',hc'⟩:=ht E ι a w hc
 exact h E ι' a w hp hc'
theorem AWZ.seq{x y:Code}(h:AWZ p Z P x σ (fun ex σ'=>match ex with | .normal=>AWZ p Z P y σ' Φ Φ2|ex=>Φ ex σ') (fun ex σ'=>match ex with | .normal=>evC P y σ' Φ2|ex=>Φ2 ex σ')):AWZ p Z P (.seq x y) σ Φ Φ2:=fun E ι a w hp hc=>by
 refine wp_seq (wp_mono (h E ι a w hp hc) fun ex a' w'=>?_)
 rintro (⟨ι',σ',hc',hΦ⟩|⟨E2,ι',σ',hz,hc',hΦ⟩)
 · cases ex with
   |normal=>exact hΦ E ι' a' w' hp hc'
   |_=>exact .inl ⟨ι',σ',hc',hΦ⟩
 · cases ex with
   |normal=>exact wp_mono (Q3a y σ' Φ2 hΦ E2 ι' a' w' hc') fun ex a2 w2 ⟨ι2,σ2,h2,h3⟩=>.inr ⟨E2,ι2,σ2,hz,h2,h3⟩
   |_=>exact .inr ⟨E2,ι',σ',hz,hc',hΦ⟩
theorem AWZ.seq1{x y:Code}(h:AWE p P x σ (fun ex σ'=>match ex with | .normal=>AWZ p Z P y σ' Φ Φ2|ex=>Φ ex σ')):AWZ p Z P (.seq x y) σ Φ Φ2:=.seq (.of h)
theorem AWZ.block{id:Nat}{c:Code}(h:AWZ p Z P c σ (fun ex σ'=>match ex with | .exit j=>if j=id then Φ .normal σ' else Φ (.exit j) σ'|ex=>Φ ex σ') (fun ex σ'=>match ex with | .exit j=>if j=id then Φ2 .normal σ' else Φ2 (.exit j) σ'|ex=>Φ2 ex σ')):AWZ p Z P (.block id c) σ Φ Φ2:=fun E ι a w hp hc=>by
 refine wp_block (wp_mono (h E ι a w hp hc) fun ex a' w'=>?_)
 rintro (⟨ι',σ',hc',hΦ⟩|⟨E2,ι',σ',hz,hc',hΦ⟩)
 · cases ex with
   |exit j=>
    unfold Exit.inBlock
    simp only at hΦ ⊢
    split at hΦ
    · rename_i e;rw[if_pos e];exact .inl ⟨ι',σ',hc',hΦ⟩
    · rename_i e;rw[if_neg e];exact .inl ⟨ι',σ',hc',hΦ⟩
   |_=>exact .inl ⟨ι',σ',hc',hΦ⟩
 · cases ex with
   |exit j=>
    unfold Exit.inBlock
    simp only at hΦ ⊢
    split at hΦ
    · rename_i e;rw[if_pos e];exact .inr ⟨E2,ι',σ',hz,hc',hΦ⟩
    · rename_i e;rw[if_neg e];exact .inr ⟨E2,ι',σ',hz,hc',hΦ⟩
   |_=>exact .inr ⟨E2,ι',σ',hz,hc',hΦ⟩
theorem AWZ.loop{c:Code}{α : Type}(I:α→St)(μ : α→Nat)(x0:α)(h0:σ.to (I x0))
 (round:∀x,AWZ p Z P c (I x) (fun ex σ'=>match ex with | .normal=>∃y,μ y < μ x∧σ'.to (I y)|ex=>Φ ex σ') (fun ex σ'=>match ex with | .normal=>False|ex=>Φ2 ex σ')):AWZ p Z P (.loop c) σ Φ Φ2:=by
 intro E ι a w hp hc b k cs
 have key:∀n x ι a w,μ x=n→Conc E ι (I x) a w→∃e a' w',((∃ι' σ',Conc E ι' σ' a' w'∧Φ e σ')∨∃E2 ι' σ',Z E E2∧Conc E2 ι' σ' a' w'∧Φ2 e σ')∧Arrives P (lone (b.at a (.code c :: .inLoop c::k)) cs w) b k cs e a' w':=by
  intro n
  induction n using Nat.strongRecOn with
  |_ n ih=>
   intro x ι a w hn hI
   obtain⟨e,a₁,w₁,hor,harr⟩:=round x E ι a w hp hI b (.inLoop c::k) cs
   cases e with
   |normal=>
    rcases hor with⟨ι₁,σ₁,hc₁,y,hlt,hle⟩|⟨_,_,_,_,_,h⟩
    · obtain⟨ι2,hc2⟩:=hle E ι₁ a₁ w₁ hc₁
      obtain⟨e₂,a₂,w₂,hq₂,harr₂⟩:=ih (μ y) (hn▸hlt) y ι2 a₁ w₁ rfl hc2
      exact⟨e₂,a₂,w₂,hq₂,.of_steps (Steps.trans harr (.one step_inLoop)) harr₂⟩
    · exact h.elim
   |exit id=>exact⟨_,a₁,w₁,hor,.pass (x:=.inLoop c) rfl (fun _ _=>.inl (by simp)) harr⟩
   |goto l=>exact⟨_,a₁,w₁,hor,.pass (x:=.inLoop c) rfl (fun _ _=>.inl (by simp)) harr⟩
   |ret=>exact⟨_,a₁,w₁,hor,.pass (x:=.inLoop c) rfl (fun _ _=>.inl (by simp)) harr⟩
   |panic ch=>exact⟨_,a₁,w₁,hor,.pass (x:=.inLoop c) rfl (fun _ _=>.inl (by simp)) harr⟩
   |outgrown=>exact⟨_,a₁,w₁,hor,.pass (x:=.inLoop c) rfl (fun _ _=>.inl (by simp)) harr⟩
 obtain⟨ι0,hc0⟩:=h0 E ι a w hc
 obtain⟨e,a',w',hq,harr⟩:=key _ x0 ι0 a w rfl hc0
 exact⟨e,a',w',hq,.of_steps (.one step_loop) harr⟩
end
def OpZ(p:Env→Prop)(Z:Env→Env→Prop)(P:Program)(o:Oper)(σ : St)(K:St→Prop):Prop:=
 ∀(E:Env) (ι : Nat→Nat×Nat×Nat) (a:Act) (w:World),p E→Conc E ι σ a w→∀(K':Act→World→Prop) (Q:Exit→Act→World→Prop),(∀E2 ι' σ' a' w',Z E E2→K σ'→Conc E2 ι' σ' a' w'→K' a' w')→o.wpIn Fence.wide 0 P a w K' Q
theorem AWZ.region{p:Env→Prop}{Z:Env→Env→Prop}{P:Program}{σ : St}{Φ Φ2:Exit→St→Prop}{id:Nat}{ops:Array Oper}(l1:List Oper)(o:Oper)(l2:List Oper)(hops:ops.toList=l1++o::l2)(n1:l1.all opNd=true)(n2:l2.all opNd=true)
 (h:evL P ops l1 σ fun σ1=>(o.guard=none∨∃j want d,o.guard=some (j,want)∧(ops[j]?).bind (·.dst)=some d∧σ1.T.getD d .any = .c (.v (.bool want)))∧OpZ p Z P o σ1 fun σ2=>evL P ops l2 σ2 (Φ2 .normal)):AWZ p Z P (.region id ops false) σ Φ Φ2:=by
 intro E ι a w hp hc
 refine(wpIn_wide (n:=0)).1 (wpIn_region_list ?_)
 rw[hops]
 refine X3v (ro:=none) l1 n1 σ h E ι a w hc fun ι1 σ1 a1 w1=>?_
 rintro ⟨hg,hop⟩ hc1
 refine wpListIn_step fun K hK=>?_
 have hw:Region.wanted o (yielded ops a1.tmps)=true:=by
  rcases hg with hg|⟨j,want,d,hg,hd,hb⟩
  · simp only[Region.wanted,hg]
  · have hv:=hc1.tmp d
    rw[hb] at hv
    obtain⟨e,_⟩:=hv.v_inv
    have hlt:d<a1.tmps.size:=by
     rw[hc1.size]
     rcases Nat.lt_or_ge d σ1.T.length with h|h
     · exact h
     · rw[List.getD_eq_getElem?_getD,List.getElem?_eq_none h] at hb;cases hb
    have hy:yielded ops a1.tmps j=some want:=by
     unfold yielded
     rw[hd]
     simp only[Option.bind_some]
     have:a1.tmps[d]? = some (.bool want):=by
      rw[Array.getElem?_eq_getElem hlt]
      simp only[Array.getD,hlt,dif_pos] at e
      simpa using e
     rw[this]
    unfold Region.wanted
    rw[hg]
    simp only[hy,beq_self_eq_true]
 rw[hw,if_pos rfl]
 refine hop E ι1 a1 w1 hp hc1 K _ fun E2 ι2 σ2 a2 w2 hz hk hc2=>hK _ _ ?_
 have:=X3v (ro:=none) (Q:=fun ex a' w'=>(∃ι' σ',Conc E ι' σ' a' w'∧Φ ex σ')∨∃E2 ι' σ',Z E E2∧Conc E2 ι' σ' a' w'∧Φ2 ex σ') (more:=[]) l2 n2 σ2 hk E2 ι2 a2 w2 hc2 fun ι' σ' a' w' hk hc'=>wpListIn_nil (.inr ⟨E2,ι',σ',hz,hc',hk⟩)
 rwa [List.append_nil] at this
theorem AWZ.region_at{p:Env→Prop}{Z:Env→Env→Prop}{P:Program}{σ : St}{Φ Φ2:Exit→St→Prop}{id:Nat}{ops:Array Oper}(k:Nat){o:Oper}(hk:ops.toList[k]? = some o)(n0:ops.toList.all (fun x=>opNd x)=true)
 (h:∀R:St→Prop,(∀σ1,((o.guard=none∨∃j want d,o.guard=some (j,want)∧(ops[j]?).bind (·.dst)=some d∧σ1.T.getD d .any = .c (.v (.bool want)))∧OpZ p Z P o σ1 fun σ2=>∀R2:St→Prop,(∀σ',Φ2 .normal σ'→R2 σ')→evL P ops (ops.toList.drop (k+1)) σ2 R2)→R σ1)→evL P ops (ops.toList.take k) σ R):AWZ p Z P (.region id ops false) σ Φ Φ2:=by
 obtain⟨hlt,rfl⟩:=List.getElem?_eq_some_iff.1 hk
 have n0':=List.all_eq_true.1 n0
 refine AWZ.region (ops.toList.take k) ops.toList[k] (ops.toList.drop (k+1)) (by rw[←List.drop_eq_getElem_cons hlt,List.take_append_drop]) (List.all_eq_true.2 fun x hx=>n0' x (List.mem_of_mem_take hx)) (List.all_eq_true.2 fun x hx=>n0' x (List.mem_of_mem_drop hx)) ?_
 refine h _ fun σ1 ⟨h1,h2⟩=>⟨h1,fun E ι a w hp hc K' Q hK'=>h2 E ι a w hp hc K' Q fun E2 ι' σ' a' w' hz hk hc'=>hK' E2 ι' σ' a' w' hz (hk _ fun _ h=>h) hc'⟩
theorem opZ_yield{P:Program}{o:Oper}{σ : St}{K:St→Prop}{t:Tmp}{assign body:Code}{T0:List AV}{DD:List Nat}{l:Nat}{x:AV}{H0 H1:List (Nat×List AV)}(hY:YZ P t assign body T0 l x H0 H1)(ρ : Nat→Nat)
 {fo ao:Operand} {ts:Array TypeId} (ho:o.op = .call {callee:=.value fo,args:=#[ao],argTypes:=ts}) (hfo:Q0i fo=true) (hao:Q0i ao=true) (hf:σ.ev fo = .c (.v (.func (.yield l) #[] #[]))) (hx:Q2g ρ x (σ.ev ao))
 (hD0:H0.all (fun x=>decide (1000≤x.1))=true) (hH0:∀r∈H0.map (·.1),hget σ.H (ρ r)=(hget H0 r).map (AV.renL ρ)) (hinj:∀r∈H0.map (·.1)++H1.map (·.1),∀q∈H0.map (·.1)++H1.map (·.1),ρ r = ρ q→r=q)
 (hnew:Q2b σ ρ H0 H1) (hinH:inH (H1.map (·.1)) H1=true) (NT:List Nat) (hT0:AV.inNL NT T0=true) (hNT:∀r∈NT,r∈DD∧ρ r=r∧(hget σ.H r).isSome=true)
 (hK:K ((St.mk σ.T (Q0w (Q1y σ.H (renH ρ H0)) (renH ρ H1))).put o.dst (.c (.v (.bool false))))):OpZ (LoopAt t assign body T0 DD l) (Stop t assign body l) P o σ K:=by
 intro E ι a w hp hc K' Q hK'
 obtain⟨⟨f,tt,D,hl,hsz,htt⟩,hfree,hdis,hnames⟩:=hp
 have hlt:=(Array.getElem?_eq_some_iff.1 hl).1
 have hlw:w.heap[l]? = some (.loop (Q1v #[t] assign body f tt D)):=(hc.keep.block l hlt hfree).trans hl
 have hfv:=hc.ev fo hfo
 rw[hf] at hfv
 obtain⟨hfe,_⟩:=hfv.v_inv
 have hav:=hc.ev ao hao
 have hD0':∀r∈H0.map (·.1),1000≤r:=fun r hr=>by
  obtain⟨y,hy,rfl⟩:=List.mem_map.1 hr
  have:=List.all_eq_true.1 hD0 y hy
  simpa using this
 have hH0':∀r cs,hget H0 r=some cs→hget σ.H (ρ r)=some (AV.renL ρ cs):=fun r cs hr=>by rw[hH0 r (Q2x hr),hr];rfl
 obtain⟨E',hE'⟩:∃E':Env,E'={w:=w,S:=Sx E ι σ.H,ι:=fun r=>ι (ρ r),D:=H0.map (·.1),hD:=hD0',hG:=hc.glob hH0'}:=⟨_,rfl⟩
 have hconcH:ConcH E'.S E'.ι H0 E'.w:=by
  subst hE'
  exact hc.enter ρ hH0' fun r hr q hq=>hinj r (List.mem_append_left _ hr) q (List.mem_append_left _ hq)
 have hSE:∀b,E.S b→b<E.w.heap.size→Sx E ι σ.H b∧w.heap[b]? = E.w.heap[b]?:=fun b hb hlt=>by
  refine⟨⟨.inl hb,fun r cs hr hz=>?_⟩,hc.keep.block b hlt fun r hr hz=>hdis r hr hz b hb⟩
  obtain⟨m1,m2⟩:=hc.keep.mine r cs hr
  by_cases hm:r∈E.D
  · rw[m1 hm] at hz ⊢;exact hdis r hm hz b hb
  · rcases m2 hm hz with h1|⟨q,hq,hqz,h1⟩
    · omega
    · rw[←h1];exact hdis q hq hqz b hb
 have hround:=hY E' (a.eval ao) f tt D (by rw[hE']) (fun r cs b hr hz hS=>by
  subst hE'
  exact hS.2 (ρ r) _ (hH0' r cs hr) hz) hconcH (by
   subst hE'
   rcases hx with rfl|e
   · exact .any _
   · exact hav.unren x e) (by rw[hE'];exact hlw) hsz (fun i=>by
     subst hE'
     refine(htt i).mono hSE fun r hr=>?_
     have hin:AV.inN NT (T0.getD i .any)=true:=X3n hT0 i
     obtain⟨g1,g2,g3⟩:=hNT r (Q9d _ hin hr)
     obtain⟨cs,hcs⟩:=Option.isSome_iff_exists.1 g3
     show ι (ρ r)=E.ι r
     rw[g2]
     exact(hc.keep.mine r cs hcs).1 (by rw[hnames];exact g1))
 have hwE:E'.w=w:=by rw[hE']
 rw[hwE] at hround
 have hrun:(execOp a.eval o).run P w = .ok (.round l f (tt.setIfInBounds t (a.eval ao)) assign body) w:=by
  have hy:=run_yield (P:=P) (args:=#[a.eval ao]) hlw rfl
  simp only[execOp,ho,resolve,hfe,Deferred.ofValue,List.map_toArray,List.map_cons,List.map_nil,Sem.run_bind,Sem.run_pure,Result.andThen_ok,invoke,callFunc,Array.empty_append,List.append_toArray,List.nil_append,List.append_nil]
  simpa using hy
 refine⟨fun _ _=>trivial,?_⟩
 rw[Oper.semAt_eq _ _ _ (fun c e=>by rw[ho] at e;cases e),hrun,Oper.uponIn_round]
 refine⟨fun e=>(by cases e),RoundIn.mono hround fun e w'=>?_⟩
 rintro ⟨E2',v,ι',⟨f',ts',D',hl',hG',rfl⟩,rfl,hres,hcH,hk⟩
 simp only
 have hrec:Q1v #[t] assign body f' ts' D'=Q1v #[t] assign body f tt D:=by
  rw[hwE,hlw] at hl'
  have h:=Option.some.inj hl'
  injection h with h
  exact h.symm
 have hrd:recD #[t] assign body f' ts' D'=recD #[t] assign body f tt D:=by
  show({Q1v #[t] assign body f' ts' D' with state:=.done,pending:=some .ret}:Loop)=_
  rw[hrec]
 revert hG' hres hcH hk
 rw[hrd]
 intro hG' hres hcH hk
 have hcz:=hc.rebase (.loop (recD #[t] assign body f tt D)) hl hlw rfl
 obtain⟨Ez,hEz⟩:∃Ez:Env,Ez={E with w:=E.w.putObj l (.loop (recD #[t] assign body f tt D)),hG:=E.hG.putObj hl rfl}:=⟨_,rfl⟩
 rw[←hEz] at hcz
 have hSxe:Sx Ez ι σ.H=Sx E ι σ.H:=by
  funext b
  subst hEz
  unfold Sx Mine
  simp only[World.putObj_size]
 have hE2:∀(hG1:GlobOK (E'.w.putObj l (.loop (recD #[t] assign body f tt D))) E'.S E'.ι E'.D),({E' with w:=E'.w.putObj l (.loop (recD #[t] assign body f tt D)),hG:=hG1}:Env)={w:=w.putObj l (.loop (recD #[t] assign body f tt D)),S:=Sx Ez ι σ.H,ι:=fun r=>ι (ρ r),D:=H0.map (·.1),hD:=hD0',hG:=hcz.glob hH0'}:=by
  intro hG1
  subst hE'
  simp only[hSxe]
 obtain⟨ι2,hcn,hrv⟩:=hcz.back ρ hD0' hH0' hinj hnew rfl hinH (hE2 _) hres hcH hk
 exact hK' Ez ι2 _ _ _ ⟨f,tt,D,hl,_,hEz⟩ hK (hcn.put o.dst hrv)
def FnZ(p:Env→Prop)(Z:Env→Env→Prop)(P:Program)(f:FuncId)(args:List AV)(H0:List (Nat×List AV))(res:AV)(H1:List (Nat×List AV)):Prop:=
 ∀(E:Env) (vs:List Value),p E→E.D=H0.map (·.1)→(∀r cs b,hget H0 r=some cs→(E.ι r).2.1≠0→E.S b→(E.ι r).1≠b)→ConcH E.S E.ι H0 E.w→vs.length=args.length→(∀(j:Nat) (v:Value) (x:AV),vs[j]? = some v→args[j]? = some x→RV E.S E.ι E.w v x) →
  Calls P f vs.toArray E.w fun e w'=>∃E2 v ι',Z E E2∧e = .returned v∧RV (Sx E2 ι' H1) ι' w' v res∧ConcH (Sx E2 ι' H1) ι' H1 w'∧Keep E2 ι' H1 w'
theorem fnZ_of{p:Env→Prop}{Z:Env→Env→Prop}{P:Program}{f:FuncId}{fn:Func}{c:Code}{args:List AV}{H0 H1:List (Nat×List AV)}{res:AV}(hf:P.funcs[f]? = some fn)(hb:fn.body=some c)(hD:H0.all (fun x=>decide (1000≤x.1))=true)
 (h:AWZ p Z P c ⟨args++List.replicate (fn.ntmps-args.length) AV.any,H0⟩ (fun _ _=>False) (FnEnd P fn.results.toList res H1)):FnZ p Z P f args H0 res H1:=by
 intro E vs hpE hED hS hH hlen hargs
 refine(callsIn_wide (n:=0)).1 (callsIn_of_wp_marks hf hb trivial (wpIn_wide.2 ?_))
 have hc0:Conc E E.ι ⟨args++List.replicate (fn.ntmps-args.length) AV.any,H0⟩ {tmps:=vs.toArray++Array.replicate (fn.ntmps-vs.toArray.size) undef,defers:=[]} E.w:=by
  refine Conc.begin E hED hS hH (by simp[hlen]) fun i=>?_
  by_cases hi:i<args.length
  · have e1:(vs.toArray++Array.replicate (fn.ntmps-vs.toArray.size) undef).getD i undef=vs[i]'(by omega):=by
     rw[Array.getD_eq_getD_getElem?,Array.getElem?_append_left (by simp;omega)]
     simp[show i<vs.length by omega]
    have e2:(args++List.replicate (fn.ntmps-args.length) AV.any).getD i .any=args[i]:=by
     rw[List.getD_eq_getElem?_getD,List.getElem?_append_left hi];simp[hi]
    rw[e1,e2]
    exact hargs i _ _ (List.getElem?_eq_getElem (by omega)) (List.getElem?_eq_getElem hi)
  · have e2:(args++List.replicate (fn.ntmps-args.length) AV.any).getD i .any = .any:=by
     rw[List.getD_eq_getElem?_getD,List.getElem?_append_right (by omega),List.getElem?_replicate]
     split<;>rfl
    rw[e2];exact .any _
 refine wp_mono (h E E.ι _ E.w hpE hc0) fun ex a' w'=>?_
 rintro (⟨_,_,_,h⟩|⟨E2,ι',σ',hz,hc',hex,⟨r,hres,hler⟩,hH1⟩)
 · exact h.elim
 have key:LeavesInM Fence.wide 0 P fn a'.tmps (fun e w'=>∃E2 v ι',Z E E2∧e=Ending.returned v∧RV (Sx E2 ι' H1) ι' w' v res∧ConcH (Sx E2 ι' H1) ι' H1 w'∧Keep E2 ι' H1 w') a'.defers .returning w':=by
  obtain⟨Ds,hnd,hds,hDs⟩:=hc'.defers
  rw[hds]
  refine Q6d (E:=E2) (ι:=ι') (σ:=σ') (fun w' hc'=>?_) Ds w' hnd (fun D hD=>⟨(hDs D hD).1,(hDs D hD).2.2⟩) hc'.bare
  rw[Option.map_eq_some_iff] at hres
  obtain⟨ys,hys,rfl⟩:=hres
  obtain⟨us,hrun,hul,hrv⟩:=Q9b hc' fn.results.toList ys hys
  have hle:=hc'.leH hH1
  have hSx:∀b,Sx E2 ι' σ'.H b→b<w'.heap.size→Sx E2 ι' H1 b∧w'.heap[b]? = w'.heap[b]?:=fun b ⟨h1,h2⟩ _=>⟨⟨h1,fun r cs hr=>h2 r cs (hH1 r cs hr)⟩,rfl⟩
  have hR:∀{v:Value} {x:AV},RV (Sx E2 ι' σ'.H) ι' w' v x→RV (Sx E2 ι' H1) ι' w' v x:=fun hv=>hv.mono hSx fun _ _=>rfl
  have hres':(results fn a'.tmps).run P w' = .ok (if h:us.toArray.size=1 then us.toArray[0] else .tuple us.toArray) w':=by
   have e0:results fn a'.tmps=(fn.results.mapM (X5i {tmps:=a'.tmps,defers:=[]}) >>= fun vs=>pure (if h:vs.size=1 then vs[0] else .tuple vs)):=by
    unfold results
    congr 2
   have e:fn.results=fn.results.toList.toArray:=by simp
   rw[e0,Sem.run_bind,e,List.mapM_toArray,Sem.run_map,hrun]
   simp only[Result.andThen_ok,Sem.run_pure]
  refine⟨_,hres',E2,_,ι',hz,rfl,hler _ _ _ _ ?_,hle.heap,hle.keep⟩
  rcases ys with _|⟨y1,_|⟨y2,ys⟩⟩
  · obtain rfl:=List.eq_nil_of_length_eq_zero hul
    exact .tup [] [] rfl fun j u x hu=>by cases hu
  · rcases us with _|⟨u1,_|⟨u2,us⟩⟩
    · simp at hul
    · simpa [Q0q] using hR (hrv 0 u1 y1 rfl rfl)
    · simp at hul
  · rcases us with _|⟨u1,_|⟨u2,us⟩⟩
    · simp at hul
    · simp at hul
    · have:¬(u1::u2::us).toArray.size=1:=by simp
      rw[dif_neg this]
      exact .tup _ _ hul fun j u x hu hx=>hR (hrv j u x hu hx)
 rcases hex with rfl|rfl
 · exact key
 · exact key
theorem AW.rangeRet{P:Program}{σ : St}{Φ : Exit→St→Prop}{g:Operand}{t:Tmp}{assign body:Code}{gf:FuncId}{fn:Func}{caps:List AV}{cargs:List AV}{H0 H1:List (Nat×List AV)}{res:AV}{T0:List AV}(ρ : Nat→Nat)
 (hF:∀l,FnZ (LoopAt t assign body T0 (H0.map (·.1)) l) (Stop t assign body l) P gf (yv l::cargs) H0 res H1) (hg0:Q0i g=true) (hg:σ.ev g = .fn gf caps) (hfn:P.funcs[gf]? = some fn) (hname:(fn.name == "runtime.NumGoroutine")=false) (hbody:fn.body.isNone=false)
 (hD0:H0.all (fun x=>decide (1000≤x.1))=true) (hargs:Q1f ρ cargs caps) (hT0:Q1f ρ T0 σ.T) (hH0:∀r∈H0.map (·.1),hget σ.H (ρ r)=(hget H0 r).map (AV.renL ρ)) (hinj:∀r∈H0.map (·.1)++H1.map (·.1),∀q∈H0.map (·.1)++H1.map (·.1),ρ r = ρ q→r=q)
 (hnew:Q2b σ ρ H0 H1) (hin:AV.inN (H1.map (·.1)) res=true) (hinH:inH (H1.map (·.1)) H1=true)
 (hK:Φ .ret ⟨σ.T,Q0w (Q1y σ.H (renH ρ H0)) (renH ρ H1)⟩):AW P (.rangeFunc g #[t] assign body) σ Φ:=by
 intro E ι a w hc
 have hfv:=hc.ev g hg0
 rw[hg] at hfv
 generalize hge:a.eval g=fv at hfv
 cases hfv with
 |fn _ us _ hul hus=>
  refine(wpIn_wide (n:=0)).1 (wpIn_rangeFunc fun f _=>?_)
  obtain⟨w1,hw1⟩:∃w1,(w.alloc (.deferred (some []))).alloc (.loop (Q1v #[t] assign body f a.tmps w.heap.size))=w1:=⟨_,rfl⟩
  have hc1:Conc E ι σ a w1:=hw1▸(hc.alloc _).alloc _
  have hL:w1.heap[w.heap.size+1]? = some (.loop (Q1v #[t] assign body f a.tmps w.heap.size)):=by
   rw[←hw1]
   have:=World.alloc_heap_new (w.alloc (.deferred (some []))) (.loop (Q1v #[t] assign body f a.tmps w.heap.size))
   rwa [World.size_alloc] at this
  have hB:w1.heap[w.heap.size]? = some (.deferred (some [])):=by
   rw[←hw1,Below.heap_alloc _ _ _ (by rw[World.size_alloc];omega)]
   exact World.alloc_heap_new _ _
  have hD0':∀r∈H0.map (·.1),1000≤r:=fun r hr=>by
   obtain⟨y,hy,rfl⟩:=List.mem_map.1 hr
   have:=List.all_eq_true.1 hD0 y hy
   simpa using this
  have hH0':∀r cs,hget H0 r=some cs→hget σ.H (ρ r)=some (AV.renL ρ cs):=fun r cs hr=>by rw[hH0 r (Q2x hr),hr];rfl
  obtain⟨E',hE'⟩:∃E':Env,E'={w:=w1,S:=Sx E ι σ.H,ι:=fun r=>ι (ρ r),D:=H0.map (·.1),hD:=hD0',hG:=hc1.glob hH0'}:=⟨_,rfl⟩
  have hwE:E'.w=w1:=by rw[hE']
  have hED:E'.D=H0.map (·.1):=by rw[hE']
  have hconcH:ConcH E'.S E'.ι H0 E'.w:=by
   subst hE'
   exact hc1.enter ρ hH0' fun r hr q hq=>hinj r (List.mem_append_left _ hr) q (List.mem_append_left _ hq)
  have hdis:∀r cs b,hget H0 r=some cs→(E'.ι r).2.1≠0→E'.S b→(E'.ι r).1≠b:=fun r cs b hr hz hS=>by
   subst hE'
   exact hS.2 (ρ r) _ (hH0' r cs hr) hz
  have hneL:∀r∈E'.D,(E'.ι r).2.1≠0→(E'.ι r).1≠w.heap.size+1:=by
   rw[hED];exact Q6r hconcH (by rw[hwE];exact hL) rfl
  have hneB:∀r∈E'.D,(E'.ι r).2.1≠0→(E'.ι r).1≠w.heap.size:=by
   rw[hED];exact Q6r hconcH (by rw[hwE];exact hB) rfl
  obtain⟨hTl,hTg⟩:=Q3i hT0
  obtain⟨hal,hag⟩:=Q3i hargs
  have hat:LoopAt t assign body T0 (H0.map (·.1)) (w.heap.size+1) E':=by
   refine⟨⟨f,a.tmps,w.heap.size,by rw[hwE];exact hL,hc1.size.trans hTl.symm,fun i=>?_⟩,hneL,fun r hr hz b hb=>?_,hED⟩
   · subst hE'
     have hv:=hc1.tmp i
     rw[List.getD_eq_getElem?_getD] at hv ⊢
     cases hi:T0[i]? with
     |none=>exact .any _
     |some x=>
      have hlt:=(List.getElem?_eq_some_iff.1 hi).1
      rw[List.getElem?_eq_getElem (by omega)] at hv
      rcases hTg i x _ hi (List.getElem?_eq_getElem (by omega)) with rfl|e
      · exact .any _
      · exact hv.unren x e
   · obtain⟨cs,hcs⟩:=Q1d (hED▸hr)
     exact hdis r cs b hcs hz hb
  have hcall:=hF (w.heap.size+1) E' (.func (.yield (w.heap.size+1)) #[] #[]::us) hat hED hdis hconcH (by simp[hul,hal]) (fun j v x hv hx=>by
   cases j with
   |zero=>cases hv;cases hx;exact .c _ _ (.v _ rfl)
   |succ j=>
    simp only[List.getElem?_cons_succ] at hv hx
    have hlt:=(List.getElem?_eq_some_iff.1 hx).1
    subst hE'
    rcases hag j x _ hx (List.getElem?_eq_getElem (by omega)) with rfl|e
    · exact .any _
    · have:=hus j v _ hv (List.getElem?_eq_getElem (by omega))
      exact(this.mono (S':=Sx E ι σ.H) (w':=w1) (fun b hb hlt=>⟨hb,by rw[←hw1,Below.heap_alloc _ _ _ (by rw[World.size_alloc];omega),Below.heap_alloc _ _ _ hlt]⟩) fun _ _=>rfl).unren x e)
  rw[hwE] at hcall
  refine⟨w.heap.size+1,[{target:=.collected w.heap.size,args:=#[]}],w1,{target:=.fn (.func gf) us.toArray,args:=#[.func (.yield (w.heap.size+1)) #[] #[]]},w1,gf,(.func (.yield (w.heap.size+1)) #[] #[]::us:List Value).toArray,w1,?_,?_,fun _ _=>trivial,?_,fun e=>(by cases e),(callsIn_wide (n:=0-1)).2 (hcall.mono fun e w'=>?_)⟩
  · rw[←hw1];exact run_enterLoop_outer f a.tmps #[t] assign body
  · simp only[resolve,hge,Deferred.ofValue,List.map_toArray,List.map_cons,List.map_nil,Sem.run_bind,Sem.run_pure,Result.andThen_ok,Array.empty_append]
    rfl
  · have hen:=Q5z hfn hname hbody (.func (.yield (w.heap.size+1)) #[] #[]::us:List Value).toArray w1
    simpa only[invoke,List.append_toArray,List.cons_append,List.nil_append] using hen
  · rintro ⟨E2',v,ι',⟨f',ts',D',hl',hG',rfl⟩,rfl,hres,hcH,hk⟩
    have hrec:Q1v #[t] assign body f' ts' D'=Q1v #[t] assign body f a.tmps w.heap.size:=by
     rw[hwE,hL] at hl'
     have h:=Option.some.inj hl'
     injection h with h
     exact h.symm
    have hrd:recD #[t] assign body f' ts' D'=recD #[t] assign body f a.tmps w.heap.size:=by
     show({Q1v #[t] assign body f' ts' D' with state:=.done,pending:=some .ret}:Loop)=_
     rw[hrec]
    revert hG' hres hcH hk
    rw[hrd]
    intro hG' hres hcH hk
    have hE0:=hc.keep.size
    have hcz:=hc1.turn (.loop (recD #[t] assign body f a.tmps w.heap.size)) hL rfl (by omega) (ds:=a.defers) (by
     obtain⟨Ds0,k1,k2,k3⟩:=hc1.defers
     refine⟨Ds0,k1,k2,fun D hD=>?_⟩
     obtain⟨m1,m2,m3⟩:=k3 D hD
     refine⟨m1,m2,(World.putObj_heap_other fun e=>?_).trans m3⟩
     rw[e,hL] at m3;cases m3)
    change Conc E ι σ a _ at hcz
    have hE2:∀(hG1:GlobOK (E'.w.putObj (w.heap.size+1) (.loop (recD #[t] assign body f a.tmps w.heap.size))) E'.S E'.ι E'.D),({E' with w:=E'.w.putObj (w.heap.size+1) (.loop (recD #[t] assign body f a.tmps w.heap.size)),hG:=hG1}:Env)={w:=w1.putObj (w.heap.size+1) (.loop (recD #[t] assign body f a.tmps w.heap.size)),S:=Sx E ι σ.H,ι:=fun r=>ι (ρ r),D:=H0.map (·.1),hD:=hD0',hG:=hcz.glob hH0'}:=by
     intro hG1
     subst hE'
     rfl
    obtain⟨ι2,hcn,-⟩:=hcz.back ρ hD0' hH0' hinj hnew hin hinH (hE2 _) hres hcH hk
    have hlt1:w.heap.size+1<w1.heap.size:=(Array.getElem?_eq_some_iff.1 hL).1
    have hL':w'.heap[w.heap.size+1]? = some (.loop (recD #[t] assign body f a.tmps w.heap.size)):=by
     have hb1:w'.heap[w.heap.size+1]? = (E'.w.putObj (w.heap.size+1) (.loop (recD #[t] assign body f a.tmps w.heap.size))).heap[w.heap.size+1]?:=hk.block _ (show _<(E'.w.putObj _ _).heap.size by rw[World.putObj_size,hwE];exact hlt1) hneL
     rw[hb1,hwE];exact World.putObj_heap_same hlt1
    have hB':w'.heap[w.heap.size]? = some (.deferred (some [])):=by
     have hb1:w'.heap[w.heap.size]? = (E'.w.putObj (w.heap.size+1) (.loop (recD #[t] assign body f a.tmps w.heap.size))).heap[w.heap.size]?:=hk.block _ (show _<(E'.w.putObj _ _).heap.size by rw[World.putObj_size,hwE];omega) hneB
     rw[hb1,hwE,World.putObj_heap_other (by omega)];exact hB
    refine⟨some .ret,_,run_endLoop hL' (by simp),?_⟩
    have hMk:Marks E (Sx E ι2 (Q0w (Q1y σ.H (renH ρ H0)) (renH ρ H1))) (w'.putObj (w.heap.size+1) (.loop {recD #[t] assign body f a.tmps w.heap.size with state:=.exhausted})) ({target:=.collected w.heap.size,args:=#[]}::a.defers):=by
     obtain⟨Ds,g1,g2,g3⟩:=hcn.defers
     obtain⟨Ds0,k1,k2,k3⟩:=hc.defers
     have hinjm:Ds=Ds0:=by
      have:=g2.symm.trans k2
      exact(List.map_inj_right (fun x y e=>by simpa using e)).1 this
     subst hinjm
     refine⟨w.heap.size::Ds,List.nodup_cons.2 ⟨fun hm=>?_,g1⟩,by rw[List.map_cons,←g2],fun D hD=>?_⟩
     · have:=(Array.getElem?_eq_some_iff.1 (k3 _ hm).2.2).1;omega
     · rcases List.mem_cons.1 hD with rfl|hD
       · refine⟨hE0,⟨.inr (.inl hE0),fun r cs hr hz e=>?_⟩,(World.putObj_heap_other (by omega)).trans hB'⟩
         rcases hcn.heap.blk r cs hr with⟨h0,_⟩|⟨cur,hh,_⟩
         · exact hz h0
         · rw[e,hB'] at hh;cases hh
       · obtain⟨m1,m2,m3⟩:=g3 D hD
         have:=(Array.getElem?_eq_some_iff.1 (k3 D hD).2.2).1
         exact⟨m1,m2,(World.putObj_heap_other (by omega)).trans m3⟩
    exact wpIn_wide.2 (wp_ret ⟨ι2,_,hcn.turn _ hL' rfl (by omega) hMk,hK⟩)
end
section
open Go.RowKit
open Nat (reduceBEq)
attribute [-go_sem] IntKind.bits
set_option maxRecDepth 20000
set_option maxHeartbeats 2000000
abbrev stZ(ks:List PV)(ph:List Ph)(lp:Nat)(c2 c3:List AV)(i:Nat):St:=⟨[yv lp,.ptr 1101 0,.any,.any,.any,.any,.any,.any,.any,.any,.any,phs false ph,vi .i64 ph.length,vi .i64 i,.any,.any,.any,.any,.any,.any,.any,.any,.any,.any,.any,.any,.any,.any,.any,.any,.any,.any,.any,.any,.any,.any,.any,.any,.any,.any,.any],[(1002,c2),(1003,c3),(1101,[.ep ks])]⟩
abbrev stY(ks:List PV)(ph:List Ph)(p:Ph)(lp:Nat)(c2 c3:List AV)(i j:Nat):St:=⟨[yv lp,.ptr 1101 0,.any,vi .i64 i,.ptr 4 0,.any,.any,.any,.any,.any,.any,phs false ph,vi .i64 ph.length,vi .i64 i,.any,.any,.any,.any,.any,.any,vi .i64 p.tr.length,vi .i64 j,.any,.any,.any,.any,.any,.any,.any,.any,.any,.any,.any,.any,.any,.any,.any,.any,.any,.any,.any],[(1002,c2),(1003,c3),(1101,[.ep ks]),(4,[vi .i64 p.role,vi .u64 p.who,vb p.stk,evs false p.tr])]⟩
theorem brkZ_fn(snd:Int)(ph:List Ph)(cs:List PV)(R:Ph→Nat→Ev→Int)(hl:ph.length≤1000)(hp:∀p∈ph,p.tr.length≤1000)
 (hRu:∀p∈ph,∀(j:Nat) (e:Ev),p.tr[j]? = some e→Fn Tryz.prog 68 [.ep (.v (.int .u64 snd) :: .sl false 4 ph.length (ph.flatMap Ph.pv)::cs),phA p,vi .i64 j] [] (vi .i64 (R p j e)) [])
 {t:Tmp} {asg bod:Code} {T0:List AV} (hT0:AV.inNL [1002,1003] T0=true) (lp:Nat) (b:Bk) (rest:List Bk) (hf:brkG R ph 0=b::rest) (c2 c3 d2 d3:List AV)
 (hren:∀r,AV.refsL r c2=false∧AV.refsL r c3=false) (hc2:AV.renL (fun r=>r) c2=c2) (hc3:AV.renL (fun r=>r) c3=c3) (hd2:AV.renL (fun r=>r) d2=d2) (hd3:AV.renL (fun r=>r) d3=d3) (hin:inH [1002,1003] [(1002,d2),(1003,d3)]=true)
 (hY:YZ Tryz.prog t asg bod T0 lp (bkA b) [(1002,c2),(1003,c3)] [(1002,d2),(1003,d3)]) :
 FnZ (LoopAt t asg bod T0 [1002,1003,1101] lp) (Stop t asg bod lp) Tryz.prog 94 [yv lp,.ptr 1101 0] [(1002,c2),(1003,c3),(1101,[.ep (.v (.int .u64 snd) :: .sl false 4 ph.length (ph.flatMap Ph.pv)::cs)])] (.tup []) [(1002,d2),(1003,d3)]:=by
 obtain⟨ks,hks⟩:∃ks,(.v (.int .u64 snd) :: .sl false 4 ph.length (ph.flatMap Ph.pv)::cs)=ks:=⟨_,rfl⟩
 rw[hks] at hRu
 obtain⟨k1000,k1001⟩:AV.renL (fun r=>r) c2=c2∧AV.renL (fun r=>r) c3=c3:=⟨hc2,hc3⟩
 have r2:=fun r=>(hren r).1
 have r3:=fun r=>(hren r).2
 (refine fnZ_of Tryz.func94 rfl (by rfl) ?_;simp only[Tryz.ntmps94,List.length_cons,List.length_nil,Nat.reduceAdd,Nat.reduceSub,List.replicate,List.cons_append,List.nil_append])
 refine AWZ.seq1 (AWE.of ?_)
 (repeat(any_goals(first|((with_reducible refine Q0b ?_ ?_);rfl;intro K hK;simp only[go_sem,r2,r3];((repeat(refine ndI (by first|assumption|omega) ?_));refine hK _ ?_;clear hK K))|(with_reducible first|(refine Q0c ?_;refine hR _ ?_;clear hR R)|(refine Q0a ?_;intro R hR)))))
 rw[hks]
 show AWZ _ _ _ _ _ _ _
 refine AWZ.block ?_
 refine AWZ.loop (α:={i:Nat // i≤ph.length∧brkG R (ph.drop i) i=b::rest}) (fun q=>stZ ks ph lp c2 c3 q.1) (fun q=>ph.length-q.1) ⟨0,Nat.zero_le _,hf⟩ ?_ ?_
 · exact St.to.of_le (St.le_of (by simp[leT]) (by simp[leH,hget,hput]))
 rintro ⟨i,hi,hd⟩
 dsimp only[stZ]
 rcases Nat.lt_or_ge i ph.length with hlt|hge
 · obtain⟨y,hy⟩:∃y,ph[i]? = some y:=⟨ph[i],List.getElem?_eq_getElem hlt⟩
   have k1:(decide ((i:Int)<(ph.length:Int)))=true:=by simpa using hlt
   have k2:=X1e hy
   have k7:(i:Int)+1=((i+1:Nat):Int):=by omega
   have hm:=List.mem_of_getElem? hy
   have hRy:=hRu y hm
   have hyl:=hp y hm
   have hdr:ph.drop i=y::ph.drop (i+1):=by
    rw[List.drop_eq_getElem_cons hlt]
    rw[List.getElem?_eq_getElem hlt] at hy
    rw[Option.some.inj hy]
   rw[hdr] at hd
   unfold brkG at hd
   have fin:∀τ : St,brkG R (ph.drop (i+1)) (i+1)=b::rest→τ.to (stZ ks ph lp c2 c3 (i+1))→∃q:{i:Nat // i≤ph.length∧brkG R (ph.drop i) i=b::rest},ph.length-q.1<ph.length-i∧τ.to (stZ ks ph lp c2 c3 q.1):=fun τ hh h=>⟨⟨i+1,hlt,hh⟩,by simp only;omega,h⟩
   refine AWZ.seq1 (AWE.of ?_)
   (repeat(any_goals(first|((with_reducible refine Q0b ?_ ?_);rfl;intro K hK;simp only[go_sem,k1,r2,r3];((repeat(refine ndI (by first|assumption) ?_));refine hK _ ?_;clear hK K))|(with_reducible first|(refine Q0c ?_;refine hR _ ?_;clear hR R)|(refine Q0a ?_;intro R hR)))))
   refine AWZ.seq1 (AWE.of ?_)
   (repeat(any_goals(first|(with_reducible first|refine Q0g ?_)|((with_reducible apply Q0e);rfl;rfl;all_goals(intro hc;first|(cases hc;done)|(try simp only at hc))))))
   refine AWZ.seq (AWZ.block (AWZ.seq1 (AWE.of ?_)))
   (repeat(any_goals(first|((with_reducible refine Q0b ?_ ?_);rfl;intro K hK;simp(disch:=omega) only[go_sem,k1,k2,k7,wrI,r2,r3];((repeat(refine ndI (by first|assumption|omega|rfl) ?_));refine hK _ ?_;clear hK K))|(with_reducible first|(refine Q0c ?_;refine hR _ ?_;clear hR R)|(refine Q0a ?_;intro R hR)))))
   refine AWZ.seq1 (AWE.of ?_)
   (repeat(any_goals(first|((with_reducible refine Q0b ?_ ?_);rfl;intro K hK;simp(disch:=omega) only[go_sem,k1,k2,k7,wrI,r2,r3];((repeat(refine ndI (by first|assumption|rfl) ?_));refine hK _ ?_;clear hK K))|(with_reducible first|(refine Q0c ?_;refine hR _ ?_;clear hR R)|(refine Q0a ?_;intro R hR)))))
   refine AWZ.block ?_
   refine AWZ.loop (α:={j:Nat // j≤y.tr.length∧brkP (R y) i (y.tr.drop j) j++brkG R (ph.drop (i+1)) (i+1)=b::rest}) (fun q=>stY ks ph y lp c2 c3 i q.1) (fun q=>y.tr.length-q.1) ⟨0,Nat.zero_le _,hd⟩ ?_ ?_
   · exact St.to.of_le (St.le_of (by simp[leT]) (by simp[leH,hget,hput]))
   clear hd
   rintro ⟨j,hj,hd⟩
   dsimp only[stY]
   rcases Nat.lt_or_ge j y.tr.length with hjt|hje
   · obtain⟨e,he⟩:∃e,y.tr[j]? = some e:=⟨y.tr[j],List.getElem?_eq_getElem hjt⟩
     have c1:(decide ((j:Int)<(y.tr.length:Int)))=true:=by simpa using hjt
     have c7:(j:Int)+1=((j+1:Nat):Int):=by omega
     have rl:=hRy j e he
     have hdj:y.tr.drop j=e::y.tr.drop (j+1):=by
      rw[List.drop_eq_getElem_cons hjt]
      rw[List.getElem?_eq_getElem hjt] at he
      rw[Option.some.inj he]
     rw[hdj] at hd
     unfold brkP at hd
     have fin2:∀τ : St,brkP (R y) i (y.tr.drop (j+1)) (j+1)++brkG R (ph.drop (i+1)) (i+1)=b::rest→τ.to (stY ks ph y lp c2 c3 i (j+1))→∃q:{j:Nat // j≤y.tr.length∧brkP (R y) i (y.tr.drop j) j++brkG R (ph.drop (i+1)) (i+1)=b::rest},y.tr.length-q.1<y.tr.length-j∧τ.to (stY ks ph y lp c2 c3 i q.1):=fun τ hh h=>⟨⟨j+1,hjt,hh⟩,by simp only;omega,h⟩
     clear fin
     generalize brkP (R y) i (y.tr.drop (j+1)) (j+1)=u1 at fin2 hd
     generalize brkG R (ph.drop (i+1)) (i+1)=u2 at fin2 hd
     generalize R y j e=z at rl hd
     obtain⟨bz,hb⟩:∃b,decide (z>0)=b:=⟨_,rfl⟩
     refine AWZ.seq1 (AWE.of ?_)
     (repeat(any_goals(first|((with_reducible refine Q0b ?_ ?_);rfl;intro K hK;simp only[go_sem,c1,r2,r3];((repeat(refine ndI (by first|assumption) ?_));refine hK _ ?_;clear hK K))|(with_reducible first|(refine Q0c ?_;refine hR _ ?_;clear hR R)|(refine Q0a ?_;intro R hR)))))
     refine AWZ.seq1 (AWE.of ?_)
     (repeat(any_goals(first|(with_reducible first|refine Q0g ?_)|((with_reducible apply Q0e);rfl;rfl;all_goals(intro hc;first|(cases hc;done)|(try simp only at hc))))))
     refine AWZ.seq (AWZ.block (AWZ.seq1 (AWE.of ?_)))
     (repeat(any_goals(first|((with_reducible refine Q0b ?_ ?_);rfl;intro K hK;simp(disch:=omega) only[go_sem,c1,c7,r2,r3,wrI];((repeat(refine ndI (by first|assumption|rfl) ?_));refine hK _ ?_;clear hK K))|(with_reducible first|(refine Q0c ?_;refine hR _ ?_;clear hR R)|(refine Q0a ?_;intro R hR)))))
     refine AWZ.seq1 (AWE.of ?_)
     (repeat(any_goals(first|((with_reducible refine Q0n ?_ ?_ ?_);rfl;rfl;intro K hK;((apply Q0k (rl);rfl;rfl;rfl;rfl;exact Tryz.func68);kernel_rfl;rfl;(focus((simp(disch:=omega) only[go_sem,c1,c7,r2,r3,wrI]);(try rfl);done));(first|rfl));(simp(disch:=omega) only[go_sem,c1,c7,r2,r3,wrI];refine hK _ ?_;clear hK K))|((with_reducible refine Q0b ?_ ?_);rfl;intro K hK;simp(disch:=omega) only[go_sem,c1,c7,r2,r3,wrI];((repeat(refine ndI (by first|assumption|rfl) ?_));refine hK _ ?_;clear hK K))|(with_reducible first|(refine Q0c ?_;refine hR _ ?_;clear hR R)|(refine Q0a ?_;intro R hR)))))
     cases bz with
     |false=>
      have hz:¬z>0:=of_decide_eq_false hb
      rw[if_neg hz] at hd
      refine AWZ.seq1 (AWE.of ?_)
      (repeat(any_goals(first|((with_reducible refine Q0b ?_ ?_);rfl;intro K hK;simp(disch:=omega) only[go_sem,c7,r2,r3,hb,wrI];((repeat(refine ndI (by first|assumption|rfl) ?_));refine hK _ ?_;clear hK K))|(with_reducible first|(refine Q0c ?_;refine hR _ ?_;clear hR R)|(refine Q0a ?_;intro R hR))|((with_reducible apply Q0y);rfl;rfl;rfl;all_goals(intro hb;first|(cases hb;done)|((try simp only[Bool.not_true,Bool.not_false] at hb);(first|((fail_if_success (with_reducible intro _));simp(disch:=omega) only[go_sem,c7,r2,r3,hb,wrI]))))))))
      show AWZ _ _ _ _ _ _ _
      refine AWZ.of (AWE.of ?_)
      (repeat(any_goals(first|(with_reducible first|refine Q0g ?_)|((with_reducible apply Q0e);rfl;rfl;all_goals(intro hc;first|(cases hc;done)|(try simp only at hc))))))
      show AWZ _ _ _ _ _ _ _
      refine AWZ.of (AWE.of ?_)
      (repeat(any_goals(first|((with_reducible refine Q0b ?_ ?_);rfl;intro K hK;simp(disch:=omega) only[go_sem,c7,wrI];((repeat(refine ndI (by first|assumption|rfl) ?_));refine hK _ ?_;clear hK K))|(with_reducible first|(refine Q0c ?_;refine hR _ ?_;clear hR R)|(refine Q0a ?_;intro R hR)))))
      exact fin2 _ hd (St.to.of_le (St.le_of (by simp[leT]) (by simp[leH,hget])))
     |true=>
      have hz:z>0:=of_decide_eq_true hb
      rw[if_pos hz] at hd
      obtain rfl:(⟨i,j,z⟩:Bk)=b:=(List.cons.inj hd).1
      refine AWZ.seq (AWZ.region_at 8 rfl rfl ?_)
      intro R hR
      simp only[List.take,List.drop]
      (repeat(any_goals(first|((with_reducible refine Q0b ?_ ?_);rfl;intro K hK;simp(disch:=omega) only[go_sem,c7,r2,r3,hb,wrI];((repeat(refine ndI (by first|assumption|rfl) ?_));refine hK _ ?_;clear hK K))|(with_reducible first|(refine Q0c ?_;refine hR _ ?_;clear hR R))|((with_reducible apply Q0y);rfl;rfl;rfl;all_goals(intro hb;first|(cases hb;done)|((try simp only[Bool.not_true,Bool.not_false] at hb);(first|((with_reducible intro K hK);simp(disch:=omega) only[go_sem,c7,r2,r3,hb,wrI];((repeat(refine ndI (by first|assumption|rfl) ?_));refine hK _ ?_;clear hK K)))))))))
      refine⟨.inr ⟨2,true,30,rfl,rfl,rfl⟩,opZ_yield hY (fun r=>r) rfl rfl rfl rfl (.inr ?_) (by rfl) ?_ ?_ ?_ ?_ [1002,1003] hT0 ?_ ?_⟩
      · simp[AV.ren,AV.renL,St.ev]
      · simp[hget,hc2,hc3]
      · intro r hr q hq h
        exact h
      · simp[Q2b,St.free,Q1w,AV.refs,AV.refsL,r2,r3]
      · exact hin
      · simp[hget]
      intro R hR
      simp only[List.drop,Q0w,Q1y,renH,AV.ren,hd2,hd3,hc2,hc3,hput,hdel,hget,St.put,List.set]
      (repeat(any_goals(first|((with_reducible refine Q0b ?_ ?_);rfl;intro K hK;simp(disch:=omega) only[go_sem,c7,r2,r3,hb,wrI];((repeat(refine ndI (by first|assumption|rfl) ?_));refine hK _ ?_;clear hK K))|(with_reducible first|(refine Q0c ?_;refine hR _ ?_;clear hR R)|refine Q0j ?_)|((with_reducible apply Q0y);rfl;rfl;rfl;all_goals(intro hb;first|(cases hb;done)|((try simp only[Bool.not_true,Bool.not_false] at hb);(first|((with_reducible intro K hK);simp(disch:=omega) only[go_sem,c7,r2,r3,hb,wrI];((repeat(refine ndI (by first|assumption|rfl) ?_));refine hK _ ?_;clear hK K))))))|((with_reducible apply Q0e);rfl;rfl;all_goals(intro hc;first|(cases hc;done)|(try simp only at hc))))))
      exact⟨by simp,⟨_,rfl,AV.le_of (by simp[Q0q])⟩,Q0h (by simp[leH,hget])⟩
   · have c1:(decide ((j:Int)<(y.tr.length:Int)))=false:=by simpa using hje
     rw[List.drop_eq_nil_of_le hje] at hd
     have hd:brkG R (ph.drop (i+1)) (i+1)=b::rest:=hd
     refine AWZ.seq1 (AWE.of ?_)
     (repeat(any_goals(first|((with_reducible refine Q0b ?_ ?_);rfl;intro K hK;simp only[go_sem,c1,r2,r3];((repeat(refine ndI (by first|assumption) ?_));refine hK _ ?_;clear hK K))|(with_reducible first|(refine Q0c ?_;refine hR _ ?_;clear hR R)|(refine Q0a ?_;intro R hR)))))
     refine AWZ.of (AWE.seq (AWE.of ?_))
     (repeat(any_goals(first|(with_reducible first|refine Q0o ?_)|((with_reducible apply Q0e);rfl;rfl;all_goals(intro hc;first|(cases hc;done)|(try simp only at hc))))))
     show AWZ _ _ _ _ _ _ _
     refine AWZ.of (AWE.of ?_)
     (repeat(any_goals(first|((with_reducible refine Q0b ?_ ?_);rfl;intro K hK;simp(disch:=omega) only[go_sem,k7,wrI];((repeat(refine ndI (by first|assumption|rfl) ?_));refine hK _ ?_;clear hK K))|(with_reducible first|(refine Q0c ?_;refine hR _ ?_;clear hR R)|(refine Q0a ?_;intro R hR)))))
     exact fin _ hd (St.to.of_le (St.le_of (by simp[leT]) (by simp[leH,hget])))
 · rw[List.drop_eq_nil_of_le hge] at hd
   cases hd
def Q7t(c:Cs):Bk:=match X4l c with|b::_=>b|[]=>⟨0,0,0⟩
def Q7s(c:Cs):Int:=if Q4b c=true then(match brkC c with|_::_=>321|[]=>0) else 320
abbrev bkE(b:Bk)(e:Int):AV:=.tup [bkA b,vi .i64 e]
theorem Z1u(c:Cs)(ks:List PV)(m f:Bool)(h:Fn Tryz.prog 43 [.agg [vi .u64 c.snd,phs false c.ph,asl false c.cd]] [] (.ep ks) [])(br:Fn Tryz.prog 61 [.ep ks] [] (.fn 94 [.ptr 1 0]) [(1,[.ep ks])])(b:Bk)
 (F:∀{t:Tmp} {asg bod:Code} {T0:List AV} (hT0:AV.inNL [1002,1003] T0=true) (lp:Nat) (c2 c3 d2 d3:List AV)
 (hren:∀r,AV.refsL r c2=false∧AV.refsL r c3=false) (hc2:AV.renL (fun r=>r) c2=c2) (hc3:AV.renL (fun r=>r) c3=c3) (hd2:AV.renL (fun r=>r) d2=d2) (hd3:AV.renL (fun r=>r) d3=d3) (hin:inH [1002,1003] [(1002,d2),(1003,d3)]=true)
 (hY:YZ Tryz.prog t asg bod T0 lp (bkA b) [(1002,c2),(1003,c3)] [(1002,d2),(1003,d3)]),
 FnZ (LoopAt t asg bod T0 [1002,1003,1101] lp) (Stop t asg bod lp) Tryz.prog 94 [yv lp,.ptr 1101 0] [(1002,c2),(1003,c3),(1101,[.ep ks])] (.tup []) [(1002,d2),(1003,d3)]) :
 Fn Tryz.prog 27 [csA c] [] (bkE b 321) []:=by
 (refine Q0z Tryz.func27 rfl (by rfl) ?_;simp only[Tryz.ntmps27,List.length_cons,List.length_nil,Nat.reduceAdd,Nat.reduceSub,List.replicate,List.cons_append,List.nil_append])
 (repeat(any_goals(first|((with_reducible refine Q3p ?_ ?_);rfl;intro K hK;(first|(apply Q7p;rfl;rfl;kernel_rfl;rfl));(simp only[go_sem];refine hK _ ?_;clear hK K))|((with_reducible refine Q0n ?_ ?_ ?_);rfl;rfl;intro K hK;(first|((apply Q0k (h);rfl;rfl;rfl;rfl;exact Tryz.func43);kernel_rfl;rfl;(focus((simp only[go_sem]);(try rfl);done));(first|rfl))|(apply Q1i (br) (fun r=>r+99);rfl;rfl;rfl;rfl;exact Tryz.func61;kernel_rfl;rfl;rfl;(intro r hr q hq h;simp only[List.map_cons,List.map_nil,List.cons_append,List.nil_append,List.mem_cons,List.not_mem_nil,or_false] at hr hq;(try dsimp only at h);first|omega);(simp only[Q1f,Q2g,AV.ren,AV.renL,Q0s,List.mem_cons,List.not_mem_nil,forall_eq_or_imp,forall_eq,Q2b,List.contains_cons,List.contains_nil,AV.refsL,AV.refs,Q0l,AV.inN,AV.inNL,inH,Q1b,go_sem])));(simp only[Q0w,Q1y,renH,AV.ren,AV.renL,Q0s,go_sem];refine hK _ ?_;clear hK K))|((with_reducible refine Q0b ?_ ?_);rfl;intro K hK;simp only[go_sem];((repeat(refine ndI (by first|assumption) ?_));refine hK _ ?_;clear hK K))|(with_reducible first|(refine Q0c ?_;refine hR _ ?_;clear hR R)|((first|refine Q0d ?_|refine Q0f ?_);intro J hJ hJ')|(refine Q0a ?_;intro R hR)|(refine hJ _ ?_;clear hJ hJ' J)|refine Q0g ?_)|((with_reducible apply Q0e);rfl;rfl;all_goals(intro hc;first|(cases hc;done)|(try simp only at hc))))))
 show AW _ _ _ _
 refine AW.rangeRet (T0:=[.any,.any,.ptr 1002 0,.ptr 1003 0,.any,.any,.any,.any,.any,.any,.any,.any,.any,.any,.any,.any]) (cargs:=[.ptr 1101 0]) (H0:=[(1002,[vi .i64 0,vi .i64 0,vi .i64 0]),(1003,[vi .i64 0]),(1101,[.ep ks])]) (H1:=[(1002,[vi .i64 b.i,vi .i64 b.j,vi .i64 b.r]),(1003,[vi .i64 321])]) (res:=.tup []) (fun r=>if r=1101 then 100 else if 1000≤r then r-1000 else r) (fun lp=>F rfl lp _ _ _ _ (fun _=>⟨rfl,rfl⟩) rfl rfl rfl rfl rfl (yz_of rfl rfl ?_)) rfl rfl Tryz.func94 (by kernel_rfl) rfl rfl ?_ ?_ ?_ ?_ ?_ rfl ?_ ?_
 · simp only[List.set]
   (repeat(any_goals(first|((with_reducible refine Q0b ?_ ?_);rfl;intro K hK;simp only[go_sem];((repeat(refine ndI (by first|assumption) ?_));refine hK _ ?_;clear hK K))|(with_reducible first|(refine Q0c ?_;refine hR _ ?_;clear hR R)|(refine Q0a ?_;intro R hR)))))
   refine⟨rfl,?_⟩
   (repeat(any_goals(first|((with_reducible refine Q0b ?_ ?_);rfl;intro K hK;simp only[go_sem];((repeat(refine ndI (by first|assumption) ?_));refine hK _ ?_;clear hK K))|(with_reducible first|(refine Q0c ?_;refine hR _ ?_;clear hR R)|((first|refine Q0d ?_|refine Q0f ?_);intro J hJ hJ')|(refine Q0a ?_;intro R hR)|(refine hJ _ ?_;clear hJ hJ' J)|refine Q0j ?_)|((with_reducible refine hJ' _ _ ?_ ?_);(focus(simp;done));clear hJ hJ' J))))
   exact⟨rfl,Q0h (by simp[leH,hget])⟩
 · simp[Q1f,Q2g,AV.ren]
 · simp[Q1f,Q2g,AV.ren]
 · simp[hget,AV.renL,AV.ren]
 · intro r hr q hq h
   simp only[List.map_cons,List.map_nil,List.cons_append,List.nil_append,List.mem_cons,List.not_mem_nil,or_false] at hr hq
   rcases hr with rfl|rfl|rfl|rfl|rfl<;>rcases hq with rfl|rfl|rfl|rfl|rfl<;>simp at h ⊢
 · simp[Q2b,St.free,Q1w,AV.refs,AV.refsL]
 · simp[inH,AV.inNL,AV.inN]
 · simp only[Q0w,Q1y,renH,AV.ren,AV.renL,Q0s,hput,hdel,hget,Nat.reduceLeDiff,Nat.reduceSub,Nat.reduceEqDiff,↓reduceIte]
   (repeat(any_goals(first|((with_reducible refine hJ' _ _ ?_ ?_);(focus(simp;done));clear hJ hJ' J))))
   all_goals(refine⟨by simp,⟨_,?_,AV.le_refl _⟩,Q0h (by simp[leH,hget])⟩;simp only[Tryz.results27,resL,ldA,Q0q,go_sem])
abbrev stZn(ks:List PV)(ph:List Ph)(lp:Nat)(i:Nat):St:=⟨[yv lp,.ptr 1101 0,.any,.any,.any,.any,.any,.any,.any,.any,.any,phs false ph,vi .i64 ph.length,vi .i64 i,.any,.any,.any,.any,.any,.any,.any,.any,.any,.any,.any,.any,.any,.any,.any,.any,.any,.any,.any,.any,.any,.any,.any,.any,.any,.any,.any],[(1101,[.ep ks])]⟩
abbrev stYn(ks:List PV)(ph:List Ph)(p:Ph)(lp:Nat)(i j:Nat):St:=⟨[yv lp,.ptr 1101 0,.any,vi .i64 i,.ptr 4 0,.any,.any,.any,.any,.any,.any,phs false ph,vi .i64 ph.length,vi .i64 i,.any,.any,.any,.any,.any,.any,vi .i64 p.tr.length,vi .i64 j,.any,.any,.any,.any,.any,.any,.any,.any,.any,.any,.any,.any,.any,.any,.any,.any,.any,.any,.any],[(1101,[.ep ks]),(4,[vi .i64 p.role,vi .u64 p.who,vb p.stk,evs false p.tr])]⟩
theorem brkN_fn(q:Env→Prop)(snd:Int)(ph:List Ph)(cs:List PV)(R:Ph→Nat→Ev→Int)(hl:ph.length≤1000)(hp:∀p∈ph,p.tr.length≤1000)
 (hRu:∀p∈ph,∀(j:Nat) (e:Ev),p.tr[j]? = some e→Fn Tryz.prog 68 [.ep (.v (.int .u64 snd) :: .sl false 4 ph.length (ph.flatMap Ph.pv)::cs),phA p,vi .i64 j] [] (vi .i64 (R p j e)) [])
 (lp:Nat) (hf:brkG R ph 0=[]) :
 FnW q Tryz.prog 94 [yv lp,.ptr 1101 0] [(1101,[.ep (.v (.int .u64 snd) :: .sl false 4 ph.length (ph.flatMap Ph.pv)::cs)])] (.tup []) []:=by
 obtain⟨ks,hks⟩:∃ks,(.v (.int .u64 snd) :: .sl false 4 ph.length (ph.flatMap Ph.pv)::cs)=ks:=⟨_,rfl⟩
 rw[hks] at hRu
 have hno:∀(i:Nat) (p:Ph) (j:Nat) (e:Ev),ph[i]? = some p→p.tr[j]? = some e→decide (R p j e>0)=false:=fun i p j e h1 h2=>by
  rw[decide_eq_false_iff_not]
  intro h
  have:=brk_mem R h1 h2 h
  rw[hf] at this
  cases this
 (refine Q5e Tryz.func94 rfl (by rfl) ?_;simp only[Tryz.ntmps94,List.length_cons,List.length_nil,Nat.reduceAdd,Nat.reduceSub,List.replicate,List.cons_append,List.nil_append])
 refine AWE.seq (AWE.of ?_)
 (repeat(any_goals(first|((with_reducible refine Q0b ?_ ?_);rfl;intro K hK;simp only[go_sem];((repeat(refine ndI (by first|assumption|omega) ?_));refine hK _ ?_;clear hK K))|(with_reducible first|(refine Q0c ?_;refine hR _ ?_;clear hR R)|(refine Q0a ?_;intro R hR)))))
 rw[hks]
 show AWE _ _ _ _ _
 refine AWE.block ?_
 refine AWE.loop (α:={i:Nat // i≤ph.length}) (fun q=>stZn ks ph lp q.1) (fun q=>ph.length-q.1) ⟨0,Nat.zero_le _⟩ ?_ ?_
 · exact St.to.of_le (St.le_of (by simp[leT]) (by simp[leH,hget,hput]))
 rintro ⟨i,hi⟩
 dsimp only[stZn]
 rcases Nat.lt_or_ge i ph.length with hlt|hge
 · obtain⟨y,hy⟩:∃y,ph[i]? = some y:=⟨ph[i],List.getElem?_eq_getElem hlt⟩
   have k1:(decide ((i:Int)<(ph.length:Int)))=true:=by simpa using hlt
   have k2:=X1e hy
   have k7:(i:Int)+1=((i+1:Nat):Int):=by omega
   have hm:=List.mem_of_getElem? hy
   have hRy:=hRu y hm
   have hyl:=hp y hm
   have fin:∀τ : St,τ.to (stZn ks ph lp (i+1))→∃q:{i:Nat // i≤ph.length},ph.length-q.1<ph.length-i∧τ.to (stZn ks ph lp q.1):=fun τ h=>⟨⟨i+1,hlt⟩,by simp only;omega,h⟩
   refine AWE.seq (AWE.of ?_)
   (repeat(any_goals(first|((with_reducible refine Q0b ?_ ?_);rfl;intro K hK;simp only[go_sem,k1];((repeat(refine ndI (by first|assumption) ?_));refine hK _ ?_;clear hK K))|(with_reducible first|(refine Q0c ?_;refine hR _ ?_;clear hR R)|(refine Q0a ?_;intro R hR)))))
   refine AWE.seq (AWE.of ?_)
   (repeat(any_goals(first|(with_reducible first|refine Q0g ?_)|((with_reducible apply Q0e);rfl;rfl;all_goals(intro hc;first|(cases hc;done)|(try simp only at hc))))))
   refine AWE.seq (AWE.block (AWE.seq (AWE.of ?_)))
   (repeat(any_goals(first|((with_reducible refine Q0b ?_ ?_);rfl;intro K hK;simp(disch:=omega) only[go_sem,k1,k2,k7,wrI];((repeat(refine ndI (by first|assumption|omega|rfl) ?_));refine hK _ ?_;clear hK K))|(with_reducible first|(refine Q0c ?_;refine hR _ ?_;clear hR R)|(refine Q0a ?_;intro R hR)))))
   refine AWE.seq (AWE.of ?_)
   (repeat(any_goals(first|((with_reducible refine Q0b ?_ ?_);rfl;intro K hK;simp(disch:=omega) only[go_sem,k1,k2,k7,wrI];((repeat(refine ndI (by first|assumption|rfl) ?_));refine hK _ ?_;clear hK K))|(with_reducible first|(refine Q0c ?_;refine hR _ ?_;clear hR R)|(refine Q0a ?_;intro R hR)))))
   refine AWE.block ?_
   refine AWE.loop (α:={j:Nat // j≤y.tr.length}) (fun q=>stYn ks ph y lp i q.1) (fun q=>y.tr.length-q.1) ⟨0,Nat.zero_le _⟩ ?_ ?_
   · exact St.to.of_le (St.le_of (by simp[leT]) (by simp[leH,hget,hput]))
   rintro ⟨j,hj⟩
   dsimp only[stYn]
   rcases Nat.lt_or_ge j y.tr.length with hjt|hje
   · obtain⟨e,he⟩:∃e,y.tr[j]? = some e:=⟨y.tr[j],List.getElem?_eq_getElem hjt⟩
     have c1:(decide ((j:Int)<(y.tr.length:Int)))=true:=by simpa using hjt
     have c7:(j:Int)+1=((j+1:Nat):Int):=by omega
     have rl:=hRy j e he
     have hb:=hno i y j e hy he
     have fin2:∀τ : St,τ.to (stYn ks ph y lp i (j+1))→∃q:{j:Nat // j≤y.tr.length},y.tr.length-q.1<y.tr.length-j∧τ.to (stYn ks ph y lp i q.1):=fun τ h=>⟨⟨j+1,hjt⟩,by simp only;omega,h⟩
     clear fin
     generalize R y j e=z at rl hb
     refine AWE.seq (AWE.of ?_)
     (repeat(any_goals(first|((with_reducible refine Q0b ?_ ?_);rfl;intro K hK;simp only[go_sem,c1];((repeat(refine ndI (by first|assumption) ?_));refine hK _ ?_;clear hK K))|(with_reducible first|(refine Q0c ?_;refine hR _ ?_;clear hR R)|(refine Q0a ?_;intro R hR)))))
     refine AWE.seq (AWE.of ?_)
     (repeat(any_goals(first|(with_reducible first|refine Q0g ?_)|((with_reducible apply Q0e);rfl;rfl;all_goals(intro hc;first|(cases hc;done)|(try simp only at hc))))))
     refine AWE.seq (AWE.block (AWE.seq (AWE.of ?_)))
     (repeat(any_goals(first|((with_reducible refine Q0b ?_ ?_);rfl;intro K hK;simp(disch:=omega) only[go_sem,c1,c7,wrI];((repeat(refine ndI (by first|assumption|rfl) ?_));refine hK _ ?_;clear hK K))|(with_reducible first|(refine Q0c ?_;refine hR _ ?_;clear hR R)|(refine Q0a ?_;intro R hR)))))
     refine AWE.seq (AWE.of ?_)
     (repeat(any_goals(first|((with_reducible refine Q0n ?_ ?_ ?_);rfl;rfl;intro K hK;((apply Q0k (rl);rfl;rfl;rfl;rfl;exact Tryz.func68);kernel_rfl;rfl;(focus((simp(disch:=omega) only[go_sem,c1,c7,wrI]);(try rfl);done));(first|rfl));(simp(disch:=omega) only[go_sem,c1,c7,wrI];refine hK _ ?_;clear hK K))|((with_reducible refine Q0b ?_ ?_);rfl;intro K hK;simp(disch:=omega) only[go_sem,c1,c7,wrI];((repeat(refine ndI (by first|assumption|rfl) ?_));refine hK _ ?_;clear hK K))|(with_reducible first|(refine Q0c ?_;refine hR _ ?_;clear hR R)|(refine Q0a ?_;intro R hR)))))
     refine AWE.seq (AWE.of ?_)
     (repeat(any_goals(first|((with_reducible refine Q0b ?_ ?_);rfl;intro K hK;simp(disch:=omega) only[go_sem,c7,hb,wrI];((repeat(refine ndI (by first|assumption|rfl) ?_));refine hK _ ?_;clear hK K))|(with_reducible first|(refine Q0c ?_;refine hR _ ?_;clear hR R)|(refine Q0a ?_;intro R hR))|((with_reducible apply Q0y);rfl;rfl;rfl;all_goals(intro hb;first|(cases hb;done)|((try simp only[Bool.not_true,Bool.not_false] at hb);(first|((fail_if_success (with_reducible intro _));simp(disch:=omega) only[go_sem,c7,hb,wrI]))))))))
     show AWE _ _ _ _ _
     refine AWE.of ?_
     (repeat(any_goals(first|(with_reducible first|refine Q0g ?_)|((with_reducible apply Q0e);rfl;rfl;all_goals(intro hc;first|(cases hc;done)|(try simp only at hc))))))
     show AWE _ _ _ _ _
     refine AWE.of ?_
     (repeat(any_goals(first|((with_reducible refine Q0b ?_ ?_);rfl;intro K hK;simp(disch:=omega) only[go_sem,c7,wrI];((repeat(refine ndI (by first|assumption|rfl) ?_));refine hK _ ?_;clear hK K))|(with_reducible first|(refine Q0c ?_;refine hR _ ?_;clear hR R)|(refine Q0a ?_;intro R hR)))))
     exact fin2 _ (St.to.of_le (St.le_of (by simp[leT]) (by simp[leH,hget])))
   · have c1:(decide ((j:Int)<(y.tr.length:Int)))=false:=by simpa using hje
     refine AWE.seq (AWE.of ?_)
     (repeat(any_goals(first|((with_reducible refine Q0b ?_ ?_);rfl;intro K hK;simp only[go_sem,c1];((repeat(refine ndI (by first|assumption) ?_));refine hK _ ?_;clear hK K))|(with_reducible first|(refine Q0c ?_;refine hR _ ?_;clear hR R)|(refine Q0a ?_;intro R hR)))))
     refine AWE.seq (AWE.of ?_)
     (repeat(any_goals(first|(with_reducible first|refine Q0o ?_)|((with_reducible apply Q0e);rfl;rfl;all_goals(intro hc;first|(cases hc;done)|(try simp only at hc))))))
     show AWE _ _ _ _ _
     refine AWE.of ?_
     (repeat(any_goals(first|((with_reducible refine Q0b ?_ ?_);rfl;intro K hK;simp(disch:=omega) only[go_sem,k7,wrI];((repeat(refine ndI (by first|assumption|rfl) ?_));refine hK _ ?_;clear hK K))|(with_reducible first|(refine Q0c ?_;refine hR _ ?_;clear hR R)|(refine Q0a ?_;intro R hR)))))
     exact fin _ (St.to.of_le (St.le_of (by simp[leT]) (by simp[leH,hget])))
 · have k1:(decide ((i:Int)<(ph.length:Int)))=false:=by simpa using hge
   refine AWE.seq (AWE.of ?_)
   (repeat(any_goals(first|((with_reducible refine Q0b ?_ ?_);rfl;intro K hK;simp only[go_sem,k1];((repeat(refine ndI (by first|assumption) ?_));refine hK _ ?_;clear hK K))|(with_reducible first|(refine Q0c ?_;refine hR _ ?_;clear hR R)|(refine Q0a ?_;intro R hR)))))
   refine AWE.seq (AWE.of ?_)
   (repeat(any_goals(first|(with_reducible first|refine Q0o ?_)|((with_reducible apply Q0e);rfl;rfl;all_goals(intro hc;first|(cases hc;done)|(try simp only at hc))))))
   exact⟨by simp,⟨_,rfl,AV.le_of (by simp[Q0q])⟩,Q0h (by simp[leH,hget])⟩
theorem Z1v(c:Cs)(ks:List PV)(h:Fn Tryz.prog 43 [.agg [vi .u64 c.snd,phs false c.ph,asl false c.cd]] [] (.ep ks) [])(br:Fn Tryz.prog 61 [.ep ks] [] (.fn 94 [.ptr 1 0]) [(1,[.ep ks])])
 (F:∀(q:Env→Prop) (lp:Nat),FnW q Tryz.prog 94 [yv lp,.ptr 1101 0] [(1101,[.ep ks])] (.tup []) []) :
 Fn Tryz.prog 27 [csA c] [] (bkE ⟨0,0,0⟩ 0) []:=by
 (refine Q0z Tryz.func27 rfl (by rfl) ?_;simp only[Tryz.ntmps27,List.length_cons,List.length_nil,Nat.reduceAdd,Nat.reduceSub,List.replicate,List.cons_append,List.nil_append])
 (repeat(any_goals(first|((with_reducible refine Q3p ?_ ?_);rfl;intro K hK;(first|(apply Q7p;rfl;rfl;kernel_rfl;rfl));(simp only[go_sem];refine hK _ ?_;clear hK K))|((with_reducible refine Q0n ?_ ?_ ?_);rfl;rfl;intro K hK;(first|((apply Q0k (h);rfl;rfl;rfl;rfl;exact Tryz.func43);kernel_rfl;rfl;(focus((simp only[go_sem]);(try rfl);done));(first|rfl))|(apply Q1i (br) (fun r=>r+99);rfl;rfl;rfl;rfl;exact Tryz.func61;kernel_rfl;rfl;rfl;(intro r hr q hq h;simp only[List.map_cons,List.map_nil,List.cons_append,List.nil_append,List.mem_cons,List.not_mem_nil,or_false] at hr hq;(try dsimp only at h);first|omega);(simp only[Q1f,Q2g,AV.ren,AV.renL,Q0s,List.mem_cons,List.not_mem_nil,forall_eq_or_imp,forall_eq,Q2b,List.contains_cons,List.contains_nil,AV.refsL,AV.refs,Q0l,AV.inN,AV.inNL,inH,Q1b,go_sem])));(simp only[Q0w,Q1y,renH,AV.ren,AV.renL,Q0s,go_sem];refine hK _ ?_;clear hK K))|((with_reducible refine Q0b ?_ ?_);rfl;intro K hK;simp only[go_sem];((repeat(refine ndI (by first|assumption) ?_));refine hK _ ?_;clear hK K))|(with_reducible first|(refine Q0c ?_;refine hR _ ?_;clear hR R)|((first|refine Q0d ?_|refine Q0f ?_);intro J hJ hJ')|(refine Q0a ?_;intro R hR)|(refine hJ _ ?_;clear hJ hJ' J)|refine Q0g ?_)|((with_reducible apply Q0e);rfl;rfl;all_goals(intro hc;first|(cases hc;done)|(try simp only at hc))))))
 show AW _ _ _ _
 refine AW.range (T0:=[.any,.any,.any,.any,.any,.any,.any,.any,.any,.any,.any,.any,.any,.any,.any,.any]) (cargs:=[.ptr 1101 0]) (H0:=[(1101,[.ep ks])]) (H1:=[]) (res:=.tup []) (fun r=>if r=1101 then 100 else r) (fun lp=>F _ lp) rfl rfl Tryz.func94 (by kernel_rfl) rfl rfl ?_ ?_ ?_ ?_ ?_ rfl ?_ ?_
 · simp[Q1f,Q2g,AV.ren]
 · simp[Q1f,Q2g,AV.ren]
 · simp[hget,AV.renL,AV.ren]
 · intro r hr q hq h
   simp only[List.map_cons,List.map_nil,List.cons_append,List.nil_append,List.mem_cons,List.not_mem_nil,or_false] at hr hq
   rw[hr,hq]
 · simp[Q2b,St.free,Q1w,AV.refs,AV.refsL]
 · simp[inH,AV.inNL,AV.inN]
 · simp only[Q0w,Q1y,renH,AV.ren,AV.renL,Q0s,hput,hdel,hget,Nat.reduceLeDiff,Nat.reduceSub,Nat.reduceEqDiff,↓reduceIte]
   (repeat(any_goals(first|((with_reducible refine Q0b ?_ ?_);rfl;intro K hK;simp only[go_sem];((repeat(refine ndI (by first|assumption) ?_));refine hK _ ?_;clear hK K))|(with_reducible first|(refine Q0c ?_;refine hR _ ?_;clear hR R)|((first|refine Q0d ?_);intro J hJ hJ')|(refine Q0a ?_;intro R hR)|(refine hJ _ ?_;clear hJ hJ' J)|refine Q0j ?_)|((with_reducible refine hJ' _ _ ?_ ?_);(focus(simp;done));clear hJ hJ' J))))
   all_goals(refine⟨by simp,⟨_,?_,AV.le_refl _⟩,Q0h (by simp[leH,hget])⟩;simp only[Tryz.results27,resL,ldA,Q0q,go_sem])
theorem holds_fnR(c:Cs)(hc:c.ok)(hRu:Q4b c=true→∀p∈c.ph,∀(j:Nat) (e:Ev),p.tr[j]? = some e→Fn Tryz.prog 68 [ktP c (ofM c) (ofF c),phA p,vi .i64 j] [] (vi .i64 (X7f c p j e)) []):Fn Tryz.prog 27 [csA c] [] (bkE (Q7t c) (Q7s c)) []:=by
 unfold Q7t Q7s X4l
 cases hr:Q4b c with
 |false=>
  have h:=X4e c hc hr
  change Fn _ _ [.agg [vi .u64 c.snd,phs false c.ph,asl false c.cd]] _ _ _ at h
  simp only[Bool.false_eq_true,if_false]
  clear hr hc hRu
  (refine Q0z Tryz.func27 rfl (by rfl) ?_;simp only[Tryz.ntmps27,List.length_cons,List.length_nil,Nat.reduceAdd,Nat.reduceSub,List.replicate,List.cons_append,List.nil_append])
  (repeat(any_goals(first|((with_reducible refine Q3p ?_ ?_);rfl;intro K hK;(first|(apply X9p;rfl;rfl;kernel_rfl;rfl));(simp only[go_sem];refine hK _ ?_;clear hK K))|((with_reducible refine Q0n ?_ ?_ ?_);rfl;rfl;intro K hK;((apply Q0k (h);rfl;rfl;rfl;rfl;exact Tryz.func43);kernel_rfl;rfl;(focus((simp only[go_sem]);(try rfl);done));(first|rfl));(simp only[go_sem];refine hK _ ?_;clear hK K))|((with_reducible refine Q0b ?_ ?_);rfl;intro K hK;simp only[go_sem];((repeat(refine ndI (by first|assumption) ?_));refine hK _ ?_;clear hK K))|(with_reducible first|(refine Q0c ?_;refine hR _ ?_;clear hR R)|((first|refine Q0d ?_);intro J hJ hJ')|(refine Q0a ?_;intro R hR)|(refine hJ _ ?_;clear hJ hJ' J)|refine Q0j ?_)|((with_reducible refine hJ' _ _ ?_ ?_);(focus(simp;done));clear hJ hJ' J)|((with_reducible apply Q0e);rfl;rfl;all_goals(intro hc;first|(cases hc;done)|(try simp only at hc))))))
  all_goals(refine⟨by simp,⟨_,?_,AV.le_refl _⟩,Q0h (by simp[leH,hget])⟩;simp only[Tryz.results27,resL,ldA,Q0q,go_sem])
 |true=>
  simp only[if_true]
  have h:=Q9l c hc hr
  change Fn _ _ [.agg [vi .u64 c.snd,phs false c.ph,asl false c.cd]] _ (.ep (ktL c)) _ at h
  have br:=breaks_fn (ktL c)
  have hRu:=hRu hr
  cases hb:brkC c with
  |nil=>exact Z1v c (ktL c) h br fun q lp=>brkN_fn q c.snd c.ph [.sl false 1 c.cd.length (c.cd.flatMap apv),.v (.bool (ofM c)),.v (.bool (ofF c))] (X7f c) hc.2.1.1 (fun p hp=>(hc.2.1.2 p hp).2.1) hRu lp hb
  |cons b rest=>exact Z1u c (ktL c) false false h br b fun hT0 lp c2 c3 d2 d3 hren hc2 hc3 hd2 hd3 hin hY=>brkZ_fn c.snd c.ph [.sl false 1 c.cd.length (c.cd.flatMap apv),.v (.bool (ofM c)),.v (.bool (ofF c))] (X7f c) hc.2.1.1 (fun p hp=>(hc.2.1.2 p hp).2.1) hRu hT0 lp b rest hb c2 c3 d2 d3 hren hc2 hc3 hd2 hd3 hin hY
end
section
open Go.RowKit
theorem RV.cut_inv{S:Nat→Prop}{ι : Nat→Nat×Nat×Nat}{w:World}{v:Value}{r e sz n c:Nat}{ex:Bool}(h:RV S ι w v (.cut r e sz 0 n c ex)):(v = .slice (some ⟨(ι r).1,0,none⟩) n c∧(ι r).2.1≠0)∨∃A,v = .slice A 0 0∧n=0:=by
 cases h with
 |cut _ _ _ _ _ _ _ h1 h2 h3 hx h4 h0=>rw[Nat.zero_mul];exact .inl ⟨rfl,h0⟩
 |cnil A _ _ _ _ _ h=>exact .inr ⟨A,rfl,rfl⟩
theorem Fn.sortingC{P:Program}{f g:FuncId}{e:TypeId}{k n c:Nat}{ex:Bool}(L L':List Value)(hL:L.length=n*k)(hlen:L'.length=L.length)(h1:∀v∈L,v.oneCell'=true)(h1':∀v∈L',v.oneCell'=true)
 (hS:∀(E:Env) (cap:Nat),1000∈E.D→(E.ι 1000).2.1≠0→(E.ι 1000).1<E.w.heap.size→Sort.Holds id E.w (E.ι 1000).1 0 L.toArray→Calls P f #[.slice (some ⟨(E.ι 1000).1,0,none⟩) n cap,.func (.func g) #[] #[]] E.w fun e w'=>e = .returned (.tuple #[])∧∃m os,w'=sortWorld id E.w (E.ι 1000).1 0 m L'.toArray os)
 (h0:∀p cap w,Calls P f #[.slice p 0 cap,.func (.func g) #[] #[]] w fun e w'=>e = .returned (.tuple #[])∧w'=w) :
 Fn P f [.cut 1000 e k 0 n c ex,.fn g []] [(1000,L.map fun x=>.c (.v x))] (.tup []) [(1000,L'.map fun x=>.c (.v x))]:=by
 intro E vs hD hsep hH hvl hv
 obtain⟨v0,v1,rfl⟩:∃v0 v1,vs=[v0,v1]:=by
  match vs,hvl with
  |[v0,v1],_=>exact⟨v0,v1,rfl⟩
 have r0:=hv 0 v0 _ rfl rfl
 have r1:=hv 1 v1 _ rfl rfl
 have hmine:(∀(q:Nat) cs,hget [(1000,L'.map fun x=>AV.c (.v x))] q=some cs→(q∈E.D→E.ι q=E.ι q)∧(q∉E.D→(E.ι q).2.1≠0→Mine E (E.ι q).1)):=fun q cs hq=>
  ⟨fun _=>rfl,fun hn _=>by
    rw[hD] at hn
    simp only[hget] at hq
    split at hq
    · rename_i e;subst e;simp at hn
    · cases hq⟩
 have hblk0:=hH.blk 1000 (L.map fun x=>AV.c (.v x)) (by simp[hget])
 cases r1 with
 |fn _ us _ hul hus=>
 obtain rfl:=List.eq_nil_of_length_eq_zero hul
 have hnone:∀p c,n=0→v0 = .slice p 0 c→Calls P f [v0,.func (.func g) #[] #[]].toArray E.w fun e w'=>∃v ι',e = .returned v∧RV (Sx E ι' [(1000,L'.map fun x=>AV.c (.v x))]) ι' w' v (.tup [])∧ConcH (Sx E ι' [(1000,L'.map fun x=>AV.c (.v x))]) ι' [(1000,L'.map fun x=>AV.c (.v x))] w'∧Keep E ι' [(1000,L'.map fun x=>AV.c (.v x))] w':=by
  intro p c hn0 hv0
  subst hv0
  have hl0:L=[]:=List.eq_nil_of_length_eq_zero (by rw[hL,hn0,Nat.zero_mul])
  subst hl0
  obtain rfl:=List.eq_nil_of_length_eq_zero hlen
  refine(h0 p c E.w).mono ?_
  rintro e w' ⟨rfl,rfl⟩
  refine⟨_,E.ι,rfl,.tup [] [] rfl (fun j u x hu=>by cases hu),⟨fun q cs hq=>?_,fun q q' cs ds hq hq' hne=>?_⟩,⟨rfl,rfl,rfl,Nat.le_refl _,fun _ _ _=>rfl,hmine⟩⟩
  · simp only[hget] at hq
    split at hq
    · rename_i e;subst e;cases hq
      rcases hblk0 with hb|⟨cur,hc1,hc2,hc3,hc4,hc5⟩
      · exact .inl hb
      · exact .inr ⟨cur,hc1,hc2,hc3,fun j u x hu hx=>(by cases hx),hc5⟩
    · cases hq
  · simp only[hget] at hq hq'
    split at hq
    · split at hq'
      · omega
      · cases hq'
    · cases hq
 rcases Nat.eq_zero_or_pos n with hn0|hn0
 · rcases r0.cut_inv with⟨hv0,k0⟩|⟨A,hv0,_⟩
   · exact hnone _ _ hn0 (by rw[hv0,hn0])
   · exact hnone A 0 hn0 hv0
 · rcases r0.cut_inv with⟨hv0,k0⟩|⟨A,hv0,hz⟩
   · subst hv0
     rcases hblk0 with hb|⟨cur,hc1,hc2,hc3,hc4,hc5⟩
     · exact absurd hb.1 k0
     · rw[List.length_map] at hc3
       have hlt:(E.ι 1000).1<E.w.heap.size:=(Array.getElem?_eq_some_iff.1 hc1).1
       have hHo:Sort.Holds id E.w (E.ι 1000).1 0 L.toArray:=by
        intro j hj
        have hj':j<L.length:=by simpa using hj
        have hjc:j<cur.size:=by omega
        refine⟨?_,Q6y hc1 _⟩
        rw[Nat.zero_add,X8m hc1,Array.getElem?_eq_getElem hjc]
        obtain⟨hrv,_⟩:=hc4 j _ (.c (.v L[j])) (Array.getElem?_eq_getElem hjc) (by rw[List.getElem?_map,List.getElem?_eq_getElem hj'];rfl)
        generalize cur[j]=u at hrv ⊢
        cases hrv with
        |c _ _ hp=>
         cases hp with
         |v=>
          rw[getElem!_pos _ j hj]
          simp
       have hC:=hS E c (by rw[hD];simp) k0 hlt hHo
       refine hC.mono ?_
       rintro e w' ⟨rfl,m',os,rfl⟩
       have hnew:=Q6x (enc:=id) (m:=m') (d:=L'.toArray) (os:=os) hc1
       have hcs:(Sort.putCells id 0 L'.toArray cur).size=cur.size:=by simp[Sort.putCells]
       have hcell:∀(j:Nat) (u:Value),(Sort.putCells id 0 L'.toArray cur)[j]? = some u→∃y,cur[j]? = some y∧((∀h:j<L'.length,u=L'[j])∧(¬j<L'.length→u=y)):=by
        intro j u hu
        have hj:j<cur.size:=by rw[←hcs];exact(Array.getElem?_eq_some_iff.1 hu).1
        refine⟨_,Array.getElem?_eq_getElem hj,?_⟩
        simp only[Sort.putCells,Array.getElem?_mapIdx,Array.getElem?_eq_getElem hj,Option.map_some,Option.some.injEq] at hu
        rw[←hu]
        refine⟨fun h=>?_,fun h=>?_⟩
        · rw[if_pos (by simpa using h),Nat.sub_zero,getElem!_pos _ j (by simpa using h)]
          simp
        · rw[if_neg (by simpa using h)]
       refine⟨_,E.ι,rfl,.tup [] [] rfl (fun j u x hu=>by cases hu),⟨fun q cs hq=>?_,fun q q' cs ds hq hq' hne'=>?_⟩,⟨rfl,rfl,rfl,Q6s,fun b hb hnb=>?_,hmine⟩⟩
       · simp only[hget] at hq
         split at hq
         · rename_i e;subst e;cases hq
           refine .inr ⟨_,hnew,by rw[hcs];exact hc2,by rw[hcs,List.length_map];omega,fun j u x hu hx=>?_,fun u hu=>?_⟩
           · obtain⟨y,hy,hu1,_⟩:=hcell j u hu
             rw[List.getElem?_map,Option.map_eq_some_iff] at hx
             obtain⟨z,hz,rfl⟩:=hx
             obtain⟨hj,hz'⟩:=List.getElem?_eq_some_iff.1 hz
             have:u=z:=(hu1 hj).trans hz'
             subst this
             exact⟨.c _ _ (.v _ (h1' u (List.mem_of_getElem? hz))),h1' u (List.mem_of_getElem? hz)⟩
           · obtain⟨j,hj⟩:=List.mem_iff_getElem?.1 hu
             rw[Array.getElem?_toList] at hj
             obtain⟨y,hy,hu1,hu2⟩:=hcell j u hj
             by_cases h:j<L'.length
             · rw[hu1 h];exact h1' _ (List.getElem_mem h)
             · rw[hu2 h]
               exact hc5 y (by
                rw[←Array.getElem?_toList] at hy
                exact List.mem_of_getElem? hy)
         · cases hq
       · simp only[hget] at hq hq'
         split at hq
         · split at hq'
           · omega
           · cases hq'
         · cases hq
       · exact Q3x hb (hnb 1000 (by rw[hD];simp) k0)
   · omega
end
section
open Go.RowKit
open Nat (reduceBEq)
attribute [-go_sem] IntKind.bits
set_option maxRecDepth 20000
set_option maxHeartbeats 2000000
theorem sortSc_fn(l:List Sp)(hl:l.length≤1000000)(hu:∀a∈l,a.ok):∃s:List Sp,s.Perm l∧s.Pairwise (fun x y=>x.key≤y.key) ∧
 ∀(c:Nat) (ex:Bool),Fn Tryz.prog 47 [.cut 1000 37 5 0 l.length c ex,.fn 48 []] [(1000,raS l)] (.tup []) [(1000,raS s)]:=by
 obtain⟨L,rfl⟩:=upS hu
 have hle:∀x y:SpO,(!ltOf cfS y x)=decide (x.1.key≤y.1.key):=fun x y=>by
  rw[ltS,←decide_not]
  exact decide_eq_decide.2 (by omega)
 refine⟨(L.mergeSort fun x y=>!ltOf cfS y x).map (·.1),(List.mergeSort_perm _ _).map _,?_,?_⟩
 · have h:=List.pairwise_mergeSort (le:=fun x y:SpO=>!ltOf cfS y x) (fun x y z h1 h2=>by
    rw[hle] at *
    simp at *
    omega) (fun x y=>by
    rw[hle,hle]
    simp
    omega) L
   rw[List.pairwise_map]
   exact h.imp fun {x y} hxy=>by
    rw[hle] at hxy
    simpa using hxy
 · intro c ex
   rw[X2v,X2v,List.length_map]
   refine Fn.sortingC _ _ (Q8n L) (by rw[Q8n,Q8n,List.length_mergeSort]) (X3t _) (X3t _) (fun E cap hD hz hlt hH=>?_) fun p cap w=>?_
   · have eg:∀args w,(callFunc 48 args).run Tryz.prog w = .ok (.enter 48 args) w:=enters_of Tryz.func48 (by kernel_rfl) rfl
     have hc:=X2h (P:=Tryz.prog) (g:=48) (enc:=encS) (k:=5) (cf:=cfS) Q7z (fun x y=>X0p x.1 y.1 x.2 y.2) E hD hz L.toArray.size
     have hH':Sort.HoldsK encS 5 E.w (E.ι 1000).1 0 L.toArray:=by
      unfold Sort.HoldsK
      rw[Q6h encS 5 (fun _=>rfl)]
      exact hH
     have h:=AnyQ.slices_SortFunc_total sortS 5 Tryz.isAgg37 Tryz.sizeOf37 encS (fun _=>rfl) Q7z cfS swoS 48 #[] (E.ι 1000).1 0 cap L.toArray E.w eg hc hH' hlt (by simp at hl ⊢;omega) totS
     refine Calls.mono ?_ (R:=fun e w'=>e = .returned (.tuple #[])∧∃n os,w'=sortWorldK encS 5 E.w (E.ι 1000).1 0 n (L.toArray.toList.mergeSort fun x y=>!(ltOf cfS) y x).toArray os) ?_
     · simp only[List.size_toArray] at h
       exact h
     · rintro e w' ⟨rfl,m,os,rfl⟩
       refine⟨rfl,m,os,?_⟩
       unfold sortWorldK sortWorld Sort.putRowK
       rw[Q6h encS 5 (fun _=>rfl)]
   · exact AnyF.slices_SortFunc_none (P:=Tryz.prog) (ρ:=Q9r) sortS p cap _ w
theorem X6t(c:Nat)(ex:Bool)(s:List Sp)(hsc:s.length≤c)(hcm:c≤maxLen)(hs:s.length≤1000000)(ho:∀x∈s,x.ok):Fn Tryz.prog 49 [.cut 1000 37 5 0 s.length c ex] [(1000,rcS s)] (.cut 1000 37 5 0 (ddS s s.length).length c ex) [(1000,rcS (ddS s s.length++List.replicate (s.length-(ddS s s.length).length) ⟨0,0⟩))]:=by
 have e1:=Q4d s
 by_cases h2:s.length<2
 · have hd:ddS s s.length=s:=by
    match s,h2 with
    |[],_=>rfl
    |[a],_=>exact X8i rfl
   rw[hd,Nat.sub_self,List.replicate_zero,List.append_nil]
   have k1:(decide ((s.length:Int)<2))=true:=by simp;omega
   (refine Q0z Tryz.func49 rfl (by rfl) ?_;simp only[Tryz.ntmps49,List.length_cons,List.length_nil,Nat.reduceAdd,Nat.reduceSub,List.replicate,List.cons_append,List.nil_append])
   (repeat(any_goals(first|((with_reducible refine Q0b ?_ ?_);rfl;intro K hK;simp only[go_sem,k1];((repeat(refine ndI (by first|assumption) ?_));refine hK _ ?_;clear hK K))|(with_reducible first|(refine Q0c ?_;refine hR _ ?_;clear hR R)|((first|refine Q0d ?_);intro J hJ hJ')|(refine Q0a ?_;intro R hR)|(refine hJ _ ?_;clear hJ hJ' J)|refine Q0j ?_)|((with_reducible refine hJ' _ _ ?_ ?_);(focus(simp;done));clear hJ hJ' J)|((with_reducible apply Q0e);rfl;rfl;all_goals(intro hc;first|(cases hc;done)|(try simp only at hc))))))
   all_goals(refine⟨by simp,⟨_,?_,AV.le_refl _⟩,Q0h (by simp[leH,hget])⟩;simp only[Tryz.results49,resL,ldA,Q0q,go_sem])
 · have k1:(decide ((s.length:Int)<2))=false:=by simp;omega
   (refine Q0z Tryz.func49 rfl (by rfl) ?_;simp only[Tryz.ntmps49,List.length_cons,List.length_nil,Nat.reduceAdd,Nat.reduceSub,List.replicate,List.cons_append,List.nil_append])
   (repeat(any_goals(first|((with_reducible refine Q0b ?_ ?_);rfl;intro K hK;simp only[go_sem,k1];((repeat(refine ndI (by first|assumption) ?_));refine hK _ ?_;clear hK K))|(with_reducible first|(refine Q0c ?_;refine hR _ ?_;clear hR R)|((first|refine Q0d ?_|refine Q0f ?_);intro J hJ hJ')|(refine Q0a ?_;intro R hR)|(refine hJ _ ?_;clear hJ hJ' J)|refine Q0g ?_)|((with_reducible apply Q0e);rfl;rfl;all_goals(intro hc;first|(cases hc;done)|(try simp only at hc))))))
   refine Q1t (α:={j:Nat // j<s.length∧∀i,i<j→s[i]?≠s[i+1]?}) (fun x=>⟨[.cut 1000 37 5 0 s.length c ex,.any,.any,vi .i64 ((x.1+1:Nat):Int),.any,.any,.any,.any,.any,.any,.any,.any,.any,.any,.any,.any,.any,.any,.any,.any,.any,.any,.any,.any,.any,.any,.any,.any,.any,.any,.any,.any,.any,.any,.any,.any,.any,.any,.any,.any,.any,.any,.any,.any,.any,.any,.any,.any,.any,.any,.any,.any,.any,.any,.any,.any,.any,.any,.any,.any,.any],[(1000,rcS s)]⟩) (fun x=>s.length-x.1) ⟨0,by omega,fun i hi=>absurd hi (Nat.not_lt_zero _)⟩ (St.le_of (by simp[leT]) (by simp[leH,hget])) ?_
   rintro ⟨j,hj,hnd⟩ J hJ hJ'
   (try dsimp only at hJ ⊢)
   rcases Nat.lt_or_ge (j+1) s.length with hlt|hge
   · have k2:(decide (((j+1:Nat):Int)<(s.length:Int)))=true:=by simp;omega
     have k3:((j+1:Nat):Int)-1=(j:Int):=by omega
     have k4:((j+1:Nat):Int)+1=((j+1+1:Nat):Int):=by omega
     obtain⟨a,ha⟩:∃a,s[j]? = some a:=⟨_,List.getElem?_eq_getElem hj⟩
     obtain⟨b,hb⟩:∃b,s[j+1]? = some b:=⟨_,List.getElem?_eq_getElem hlt⟩
     have ea:=Q7h ha
     have eb:=Q7h hb
     have oa:=ho a (List.mem_of_getElem? ha)
     have ob:=ho b (List.mem_of_getElem? hb)
     by_cases hab:b=a
     · have k5:(b.a==a.a&&(l0 b.k==l0 a.k&&(l1 b.k==l1 a.k&&(l2 b.k==l2 a.k&&l3 b.k==l3 a.k))))=true:=by rw[X1c ob oa];simp[hab]
       have hd0:ddS s (j+1)=s.take (j+1):=Q8c hj hnd
       have hd1:ddS s (j+2)=s.take (j+1):=by rw[Q9k ha hb hab.symm,hd0]
       have hd2:(ddS s (j+2)).length=j+1:=by rw[hd1,List.length_take];omega
       (have W:=ndI k2 (ndI k3 (ndI k4 (ndI k5 (ndI e1 @wrI))));(repeat(any_goals(first|((with_reducible refine Q0b ?_ ?_);rfl;intro K hK;simp(disch:=omega) only[go_sem,W,ea,eb,bne,Bool.not_true,Bool.not_false];((repeat(refine ndI (by first|assumption|rfl) ?_));refine hK _ ?_;clear hK K))|((with_reducible refine Q0b ?_ ?_);rfl;intro K hK;(try simp(disch:=omega) only[go_sem,W,ea,eb,bne,Bool.not_true,Bool.not_false]);(repeat(refine ndI (by first|assumption|rfl) ?_));refine Q4g rfl rfl rfl rfl rfl ?_ rfl rfl rfl rfl ?_ ?_ ?_;(focus(simp only[go_sem];try rfl));(intro h;first|cases h);(first|omega);(simp(disch:=omega) only[go_sem,W,ea,eb,bne,Bool.not_true,Bool.not_false];refine hK _ ?_;clear hK K))|(with_reducible first|(refine Q0c ?_;refine hR _ ?_;clear hR R)|((first|refine Q0d ?_|refine Q0f ?_);intro J hJ hJ')|(refine Q0a ?_;intro R hR)|(refine hJ _ ?_;clear hJ hJ' J)|refine Q0g ?_)|((with_reducible apply Q0e);rfl;rfl;all_goals(intro hc;first|(cases hc;done)|(try simp only at hc)))|((with_reducible refine Q0v ?_ ?_);kernel_rfl;(with_reducible refine hR _ ?_);clear hR R)|((first|((with_reducible apply Q0t);rfl;rfl;(simp(disch:=omega) only[rdE,rdOf,go_sem,W,ea,eb,bne,Bool.not_true,Bool.not_false];rfl);(intro τ hA hQ hN;((try simp only[Q1e,Op.operands,Call.operands,go_sem,W,ea,eb,bne,Bool.not_true,Bool.not_false,go_sem,List.mem_cons,List.not_mem_nil,forall_eq_or_imp,forall_eq,List.append_toArray,Option.toArray] at hA);(try simp only[go_sem,W,ea,eb,bne,Bool.not_true,Bool.not_false,List.mem_cons,List.not_mem_nil,forall_eq_or_imp,forall_eq] at hQ hN);(first|(revert hA;intro hA));(first|(revert hQ;intro hQ));(first|(revert hN;intro hN));simp(disch:=omega) only[go_sem,W,ea,eb,bne,Bool.not_true,Bool.not_false,go_sem,hA,hQ,hN];(repeat(refine ndI (by first|assumption|omega|rfl) ?_));(first|apply Q1a))))|((first|((with_reducible apply Q3j);rfl));apply Q2r;rfl;rfl;rfl;rfl;rfl;(focus(simp only[go_sem];try rfl));(first|omega)));(simp(disch:=omega) only[St.eff,setO,Q0w,go_sem,W,ea,eb,bne,Bool.not_true,Bool.not_false]))|((with_reducible refine Q0r ?_ ?_ ?_ ?_);kernel_rfl;kernel_rfl;(first|kernel_rfl);intro R hR)))))
       refine Q1t (α:={p:Nat×List Sp // j+2+p.1≤s.length∧p.2.length=s.length∧(ddS s (j+2+p.1)).length≤j+1+p.1∧p.2.take (ddS s (j+2+p.1)).length=ddS s (j+2+p.1)∧p.2.drop (j+1+p.1)=s.drop (j+1+p.1)}) (fun x=>⟨[.cut 1000 37 5 0 s.length c ex,.any,.any,vi .i64 ((ddS s (j+2+x.1.1)).length:Int),.cut 1000 37 5 (j+1) (s.length-(j+1)) (c-(j+1)) ex,vi .i64 ((x.1.1+1:Nat):Int),.any,.any,.any,.any,.any,.any,.any,.any,.any,.any,.any,.any,.any,.any,.any,.any,.any,.any,.any,.any,.any,.any,.any,.any,.any,.any,.any,.any,.any,.any,.any,.any,.any,.any,.any,.any,.any,.any,.any,.any,.any,.any,.any,.any,.any,.any,.any,.any,.any,.any,.any,.any,.any,.any,.any],[(1000,rcS x.1.2)]⟩) (fun x=>s.length-x.1.1) ⟨(0,s),by dsimp only;omega,rfl,by dsimp only;rw[Nat.add_zero,hd2];omega,by dsimp only;rw[Nat.add_zero,hd2,hd1],rfl⟩ (St.le_of (by simp[leT,hd2]) (by simp[leH,hget])) ?_
       rintro ⟨⟨i,m⟩,c1,c2,c3,c4,c5⟩ J hJ hJ'
       dsimp only at c1 c2 c3 c4 c5
       (try dsimp only at hJ ⊢)
       obtain⟨d,hd⟩:∃d,(ddS s (j+2+i)).length=d:=⟨_,rfl⟩
       rcases Nat.lt_or_ge (j+2+i) s.length with hlt2|hge2
       · have n2:(decide (((i+1:Nat):Int)<((s.length-(j+1):Nat):Int)))=true:=by simp;omega
         have n3:((i+1:Nat):Int)-1=(i:Int):=by omega
         have n4:((i+1:Nat):Int)+1=((i+1+1:Nat):Int):=by omega
         have n6:((d:Nat):Int)+1=((d+1:Nat):Int):=by omega
         obtain⟨a',ha'⟩:∃a,s[j+1+i]? = some a:=⟨_,List.getElem?_eq_getElem (by omega)⟩
         obtain⟨b',hb'⟩:∃b,s[j+1+i+1]? = some b:=⟨_,List.getElem?_eq_getElem (by omega)⟩
         have hm:∀x,m[j+1+i+x]? = s[j+1+i+x]?:=fun x=>by
          rw[←List.getElem?_drop,←List.getElem?_drop,c5]
         have ea':=Q7h (l:=m) (by rw[←ha'];exact hm 0)
         have eb':=Q7h (l:=m) (by rw[←hb'];exact hm 1)
         rw[Nat.add_assoc (j+1) i 1] at eb'
         rw[Nat.add_zero] at ea'
         have c3':d≤j+1+i:=by rw[←hd];exact c3
         have oa':=ho a' (List.mem_of_getElem? ha')
         have ob':=ho b' (List.mem_of_getElem? hb')
         have hset:(rcS m).take (d*5)++[vi .u64 b'.a,vi .u64 (l0 b'.k),vi .u64 (l1 b'.k),vi .u64 (l2 b'.k),vi .u64 (l3 b'.k)]++(rcS m).drop (d*5+5)=rcS (m.set d b'):=by
          rw[List.append_assoc]
          exact X7q m d b' (by omega)
         have hdl:d<s.length:=by omega
         have hml:(rcS m).length=s.length*5:=by rw[Q4d,c2]
         rw[hd] at c3 c4
         rw[hd]
         by_cases hab':b'=a'
         · have n5:(b'.a==a'.a&&(l0 b'.k==l0 a'.k&&(l1 b'.k==l1 a'.k&&(l2 b'.k==l2 a'.k&&l3 b'.k==l3 a'.k))))=true:=by rw[X1c ob' oa'];simp[hab']
           have en:=Q9k (s:=s) ha' hb' hab'.symm
           have hJ1:=fun σ'=>hJ σ' ⟨(i+1,m),by dsimp only;omega,c2,by
            dsimp only
            rw[show j+2+(i+1)=j+1+i+2 by omega,en,show j+1+i+1=j+2+i by omega,hd]
            omega,by
            dsimp only
            rw[show j+2+(i+1)=j+1+i+2 by omega,en,show j+1+i+1=j+2+i by omega,hd]
            exact c4,by
            dsimp only
            rw[show j+1+(i+1)=j+1+i+1 by omega,←List.drop_drop,c5,List.drop_drop]⟩ (by dsimp only;omega)
           dsimp only at hJ1
           rw[show j+2+(i+1)=j+1+i+2 by omega,en,show j+1+i+1=j+2+i by omega,hd] at hJ1
           (have W:=ndI n2 (ndI n3 (ndI n4 (ndI n5 (ndI n6 @wrI))));(repeat(any_goals(first|((with_reducible refine Q0b ?_ ?_);rfl;intro K hK;simp(disch:=omega) only[go_sem,W,ea',eb',hset,hml,bne,Bool.not_true,Bool.not_false];((repeat(refine ndI (by first|assumption|rfl) ?_));refine hK _ ?_;clear hK K))|(with_reducible first|(refine Q0c ?_;refine hR _ ?_;clear hR R)|((first|refine Q0d ?_|refine Q0f ?_);intro J hJ hJ')|(refine Q0a ?_;intro R hR)|(refine hJ _ ?_;clear hJ hJ' J)|refine Q0g ?_)|((with_reducible refine hJ' _ _ ?_ ?_);(focus(simp;done));clear hJ hJ' J)|((with_reducible apply Q0e);rfl;rfl;all_goals(intro hc;first|(cases hc;done)|(try simp only at hc)))|((with_reducible refine Q0v ?_ ?_);kernel_rfl;(with_reducible refine hR _ ?_);clear hR R)|((first|((with_reducible apply Q0t);rfl;rfl;(simp(disch:=omega) only[rdE,rdOf,go_sem,W,ea',eb',hset,hml,bne,Bool.not_true,Bool.not_false];rfl);(intro τ hA hQ hN;((try simp only[Q1e,Op.operands,Call.operands,go_sem,W,ea',eb',hset,hml,bne,Bool.not_true,Bool.not_false,go_sem,List.mem_cons,List.not_mem_nil,forall_eq_or_imp,forall_eq,List.append_toArray,Option.toArray] at hA);(try simp only[go_sem,W,ea',eb',hset,hml,bne,Bool.not_true,Bool.not_false,List.mem_cons,List.not_mem_nil,forall_eq_or_imp,forall_eq] at hQ hN);(first|(revert hA;intro hA));(first|(revert hQ;intro hQ));(first|(revert hN;intro hN));simp(disch:=omega) only[go_sem,W,ea',eb',hset,hml,bne,Bool.not_true,Bool.not_false,go_sem,hA,hQ,hN];(repeat(refine ndI (by first|assumption|omega|rfl) ?_));(first|apply Q1a))))|((first|((with_reducible apply Q3j);rfl));apply Q2r;rfl;rfl;rfl;rfl;rfl;(focus(simp only[go_sem];try rfl));(first|omega)));(simp(disch:=omega) only[St.eff,setO,Q0w,go_sem,W,ea',eb',hset,hml,bne,Bool.not_true,Bool.not_false]))|((with_reducible refine Q0r ?_ ?_ ?_ ?_);kernel_rfl;kernel_rfl;(first|kernel_rfl);intro R hR)))))
           all_goals exact hJ1 _ (St.le_of (by simp[leT]) (by simp[leH,hget]))
         · have n5:(b'.a==a'.a&&(l0 b'.k==l0 a'.k&&(l1 b'.k==l1 a'.k&&(l2 b'.k==l2 a'.k&&l3 b'.k==l3 a'.k))))=false:=by rw[X1c ob' oa'];simp[hab']
           have en:=X8j (s:=s) ha' hb' (fun e=>hab' e.symm)
           have hl':(ddS s (j+1+i+2)).length=d+1:=by
            rw[en,List.length_append,show j+1+i+1=j+2+i by omega,hd];rfl
           have hJ1:=fun σ'=>hJ σ' ⟨(i+1,m.set d b'),by dsimp only;omega,by dsimp only;rw[List.length_set];exact c2,by
            dsimp only
            rw[show j+2+(i+1)=j+1+i+2 by omega,hl']
            omega,by
            dsimp only
            rw[show j+2+(i+1)=j+1+i+2 by omega,hl',en,show j+1+i+1=j+2+i by omega,List.set_eq_take_append_cons_drop,if_pos (by omega),c4,List.take_append,hd]
            rw[List.take_of_length_le (by omega),show d+1-d=1 by omega]
            rfl,by
            dsimp only
            rw[List.drop_set,if_pos (by omega),show j+1+(i+1)=j+1+i+1 by omega,←List.drop_drop,c5,List.drop_drop]⟩ (by dsimp only;omega)
           dsimp only at hJ1
           rw[show j+2+(i+1)=j+1+i+2 by omega,hl'] at hJ1
           (have W:=ndI n2 (ndI n3 (ndI n4 (ndI n5 (ndI n6 @wrI))));(repeat(any_goals(first|((with_reducible refine Q0b ?_ ?_);rfl;intro K hK;simp(disch:=omega) only[go_sem,W,ea',eb',hset,hml,bne,Bool.not_true,Bool.not_false];((repeat(refine ndI (by first|assumption|omega|rfl) ?_));refine hK _ ?_;clear hK K))|((with_reducible refine Q0b ?_ ?_);rfl;intro K hK;(try simp(disch:=omega) only[go_sem,W,ea',eb',hset,hml,bne,Bool.not_true,Bool.not_false]);(repeat(refine ndI (by first|assumption|rfl) ?_));refine Q2s rfl rfl rfl rfl rfl ?_ ?_ ?_;(focus(simp only[go_sem];try rfl));(first|omega);(simp(disch:=omega) only[go_sem,W,ea',eb',hset,hml,bne,Bool.not_true,Bool.not_false];refine hK _ ?_;clear hK K))|(with_reducible first|(refine Q0c ?_;refine hR _ ?_;clear hR R)|((first|refine Q0d ?_|refine Q0f ?_);intro J hJ hJ')|(refine Q0a ?_;intro R hR)|(refine hJ _ ?_;clear hJ hJ' J)|refine Q0g ?_)|((with_reducible refine hJ' _ _ ?_ ?_);(focus(simp;done));clear hJ hJ' J)|((with_reducible apply Q0e);rfl;rfl;all_goals(intro hc;first|(cases hc;done)|(try simp only at hc)))|((with_reducible refine Q0v ?_ ?_);kernel_rfl;(with_reducible refine hR _ ?_);clear hR R)|((first|((with_reducible apply Q0t);rfl;rfl;(simp(disch:=omega) only[rdE,rdOf,go_sem,W,ea',eb',hset,hml,bne,Bool.not_true,Bool.not_false];rfl);(intro τ hA hQ hN;((try simp only[Q1e,Op.operands,Call.operands,go_sem,W,ea',eb',hset,hml,bne,Bool.not_true,Bool.not_false,go_sem,List.mem_cons,List.not_mem_nil,forall_eq_or_imp,forall_eq,List.append_toArray,Option.toArray] at hA);(try simp only[go_sem,W,ea',eb',hset,hml,bne,Bool.not_true,Bool.not_false,List.mem_cons,List.not_mem_nil,forall_eq_or_imp,forall_eq] at hQ hN);(first|(revert hA;intro hA));(first|(revert hQ;intro hQ));(first|(revert hN;intro hN));simp(disch:=omega) only[go_sem,W,ea',eb',hset,hml,bne,Bool.not_true,Bool.not_false,go_sem,hA,hQ,hN];(repeat(refine ndI (by first|assumption|omega|rfl) ?_));(first|apply Q1a))))|((first|((with_reducible apply Q3j);rfl));apply Q2r;rfl;rfl;rfl;rfl;rfl;(focus(simp only[go_sem];try rfl));(first|omega)));(simp(disch:=omega) only[St.eff,setO,Q0w,go_sem,W,ea',eb',hset,hml,bne,Bool.not_true,Bool.not_false]))|((with_reducible refine Q0r ?_ ?_ ?_ ?_);kernel_rfl;kernel_rfl;(first|kernel_rfl);intro R hR)))))
           all_goals exact hJ1 _ (St.le_of (by simp[leT]) (by simp[leH,hget]))
       · have n2:(decide (((i+1:Nat):Int)<((s.length-(j+1):Nat):Int)))=false:=by simp;omega
         have e:j+2+i=s.length:=by omega
         rw[e] at hd c4
         rw[hd] at c4
         have hdl:d≤s.length:=by rw[←hd];exact Z0j s _
         have hml:=Q4d m
         have hfin:rcS (ddS s s.length++List.replicate (s.length-d) ⟨0,0⟩)=spl (rcS m) (d*5) (Q4s [.int .u64 0,.int .u64 0,.int .u64 0,.int .u64 0,.int .u64 0] (s.length-d)):=by
          unfold spl
          rw[Q9n,Q4d,List.length_replicate,Q6b,Q9e,c4,List.drop_of_length_le (by rw[hml,c2];omega)]
          show _=_++[]
          rw[List.append_nil]
         rw[e,hd]
         have hr:(AV.cut 1000 37 5 0 (ddS s s.length).length c ex) = .cut 1000 37 5 0 d c ex:=by rw[hd]
         have hcc:ddS s s.length++List.replicate (s.length-(ddS s s.length).length) ⟨0,0⟩=ddS s s.length++List.replicate (s.length-d) ⟨0,0⟩:=by rw[hd]
         (repeat(any_goals(first|((with_reducible refine Q0b ?_ ?_);rfl;intro K hK;simp(disch:=omega) only[go_sem,n2,wrI,bne,Bool.not_true,Bool.not_false];((repeat(refine ndI (by first|assumption|rfl) ?_));refine hK _ ?_;clear hK K))|((with_reducible refine Q0b ?_ ?_);rfl;intro K hK;(try simp(disch:=omega) only[go_sem,n2,wrI,bne,Bool.not_true,Bool.not_false]);(repeat(refine ndI (by first|assumption|rfl) ?_));refine Q4g rfl rfl rfl rfl rfl ?_ rfl rfl rfl rfl ?_ ?_ ?_;(focus(simp only[go_sem];try rfl));(intro h;first|rfl|cases h);(first|omega);(simp(disch:=omega) only[go_sem,n2,wrI,bne,Bool.not_true,Bool.not_false];refine hK _ ?_;clear hK K))|((with_reducible refine Q0b ?_ ?_);rfl;intro K hK;(try simp(disch:=omega) only[go_sem,n2,wrI,bne,Bool.not_true,Bool.not_false]);(repeat(refine ndI (by first|assumption) ?_));apply Q7q;rfl;rfl;(focus(simp only[go_sem];try rfl));(first|omega);(simp(disch:=omega) only[go_sem,Option.bind_some];rfl);rfl;rfl;rfl;rfl;(first|omega);(simp(disch:=omega) only[go_sem,n2,wrI,bne,Bool.not_true,Bool.not_false];refine hK _ ?_;clear hK K))|(with_reducible first|(refine Q0c ?_;refine hR _ ?_;clear hR R)|((first|refine Q0d ?_);intro J hJ hJ')|(refine Q0a ?_;intro R hR)|(refine hJ _ ?_;clear hJ hJ' J)|refine Q0j ?_|refine Q0o ?_)|((with_reducible refine hJ' _ _ ?_ ?_);(focus(simp;done));clear hJ hJ' J)|((with_reducible apply Q0e);rfl;rfl;all_goals(intro hc;first|(cases hc;done)|(try simp only at hc))))))
         all_goals rw[hr,hcc,hfin]
         all_goals refine⟨by simp,⟨_,rfl,AV.le_refl _⟩,Q0h ⟨?_,trivial⟩⟩
         all_goals simp[Q2h,spl,List.append_assoc]
     · have k5:(b.a==a.a&&(l0 b.k==l0 a.k&&(l1 b.k==l1 a.k&&(l2 b.k==l2 a.k&&l3 b.k==l3 a.k))))=false:=by rw[X1c ob oa];simp[hab]
       have hJ1:=fun σ'=>hJ σ' ⟨j+1,hlt,fun i hi=>by
        rcases Nat.lt_or_ge i j with h|h
        · exact hnd i h
        · obtain rfl:i=j:=by omega
          rw[ha,hb]
          exact fun e=>hab (Option.some.inj e).symm⟩ (by dsimp only;omega)
       dsimp only at hJ1
       (have W:=ndI k2 (ndI k3 (ndI k4 (ndI k5 (ndI e1 @wrI))));(repeat(any_goals(first|((with_reducible refine Q0b ?_ ?_);rfl;intro K hK;simp(disch:=omega) only[go_sem,W,ea,eb,bne,Bool.not_true,Bool.not_false];((repeat(refine ndI (by first|assumption|rfl) ?_));refine hK _ ?_;clear hK K))|(with_reducible first|(refine Q0c ?_;refine hR _ ?_;clear hR R)|((first|refine Q0d ?_|refine Q0f ?_);intro J hJ hJ')|(refine Q0a ?_;intro R hR)|(refine hJ _ ?_;clear hJ hJ' J)|refine Q0g ?_)|((with_reducible refine hJ' _ _ ?_ ?_);(focus(simp;done));clear hJ hJ' J)|((with_reducible apply Q0e);rfl;rfl;all_goals(intro hc;first|(cases hc;done)|(try simp only at hc)))|((with_reducible refine Q0v ?_ ?_);kernel_rfl;(with_reducible refine hR _ ?_);clear hR R)|((first|((with_reducible apply Q0t);rfl;rfl;(simp(disch:=omega) only[rdE,rdOf,go_sem,W,ea,eb,bne,Bool.not_true,Bool.not_false];rfl);(intro τ hA hQ hN;((try simp only[Q1e,Op.operands,Call.operands,go_sem,W,ea,eb,bne,Bool.not_true,Bool.not_false,go_sem,List.mem_cons,List.not_mem_nil,forall_eq_or_imp,forall_eq,List.append_toArray,Option.toArray] at hA);(try simp only[go_sem,W,ea,eb,bne,Bool.not_true,Bool.not_false,List.mem_cons,List.not_mem_nil,forall_eq_or_imp,forall_eq] at hQ hN);(first|(revert hA;intro hA));(first|(revert hQ;intro hQ));(first|(revert hN;intro hN));simp(disch:=omega) only[go_sem,W,ea,eb,bne,Bool.not_true,Bool.not_false,go_sem,hA,hQ,hN];(repeat(refine ndI (by first|assumption|omega|rfl) ?_));(first|apply Q1a))))|((first|((with_reducible apply Q3j);rfl));apply Q2r;rfl;rfl;rfl;rfl;rfl;(focus(simp only[go_sem];try rfl));(first|omega)));(simp(disch:=omega) only[St.eff,setO,Q0w,go_sem,W,ea,eb,bne,Bool.not_true,Bool.not_false]))|((with_reducible refine Q0r ?_ ?_ ?_ ?_);kernel_rfl;kernel_rfl;(first|kernel_rfl);intro R hR)))))
       all_goals exact hJ1 _ (St.le_of (by simp[leT]) (by simp[leH,hget]))
   · have k2:(decide (((j+1:Nat):Int)<(s.length:Int)))=false:=by simp;omega
     have hd:ddS s s.length=s:=by
      have e:s.length=j+1:=by omega
      rw[e,Q8c hj hnd,←e,List.take_length]
     have hr:(AV.cut 1000 37 5 0 (ddS s s.length).length c ex) = .cut 1000 37 5 0 s.length c ex:=by rw[hd]
     have hcc:ddS s s.length++List.replicate (s.length-(ddS s s.length).length) ⟨0,0⟩=s:=by rw[hd,Nat.sub_self,List.replicate_zero,List.append_nil]
     (repeat(any_goals(first|((with_reducible refine Q0b ?_ ?_);rfl;intro K hK;simp only[go_sem,k2];((repeat(refine ndI (by first|assumption) ?_));refine hK _ ?_;clear hK K))|(with_reducible first|(refine Q0c ?_;refine hR _ ?_;clear hR R)|((first|refine Q0d ?_);intro J hJ hJ')|(refine Q0a ?_;intro R hR)|(refine hJ _ ?_;clear hJ hJ' J)|refine Q0j ?_|refine Q0o ?_)|((with_reducible refine hJ' _ _ ?_ ?_);(focus(simp;done));clear hJ hJ' J)|((with_reducible apply Q0e);rfl;rfl;all_goals(intro hc;first|(cases hc;done)|(try simp only at hc))))))
     all_goals rw[hr,hcc]
     all_goals(refine⟨by simp,⟨_,?_,AV.le_refl _⟩,Q0h (by simp[leH,hget])⟩;simp only[Tryz.results49,resL,ldA,Q0q,go_sem])
end
section
open Go.RowKit
open Nat (reduceBEq)
attribute [-go_sem] IntKind.bits
set_option maxRecDepth 20000
set_option maxHeartbeats 2000000
theorem X6g{α : Type}(p:α→Bool):∀(l:List α) (k:Nat),(idxF p l k = -1∧∀x∈l,p x=false)∨∃n,n<l.length∧idxF p l k=((k+n:Nat):Int)∧(∀x∈l.take n,p x=false)∧∃y,l[n]? = some y∧p y=true
 |[],k=>.inl ⟨rfl,fun x h=>by cases h⟩
 |y::l,k=>by
  unfold idxF
  by_cases hy:p y=true
  · rw[if_pos hy]
    exact .inr ⟨0,Nat.zero_lt_succ _,rfl,(fun x h=>by cases h),y,rfl,hy⟩
  · rw[if_neg hy]
    rcases X6g p l (k+1) with⟨h1,h2⟩|⟨n,h1,h2,h3,z,h4,h5⟩
    · refine .inl ⟨h1,fun x hx=>?_⟩
      rcases List.mem_cons.1 hx with rfl|hx
      · simpa using hy
      · exact h2 x hx
    · refine .inr ⟨n+1,Nat.succ_lt_succ h1,by rw[h2];congr 1;omega,fun x hx=>?_,z,h4,h5⟩
      rw[List.take_succ_cons] at hx
      rcases List.mem_cons.1 hx with rfl|hx
      · simpa using hy
      · exact h3 x hx
theorem raS_at{l:List Sp}{i:Nat}{y:Sp}(h:l[i]? = some y):((raS l).drop (i*5)).take 5=[vi .u64 y.a,vi .u64 (l0 y.k),vi .u64 (l1 y.k),vi .u64 (l2 y.k),vi .u64 (l3 y.k)]:=Q7h h
theorem raS_take(l:List Sp)(k:Nat):(raS l).take (k*5)=raS (l.take k):=Q9e l k
theorem raS_app(l r:List Sp):raS (l++r)=raS l++raS r:=Q6b l r
theorem raS_set(l:List Sp)(k:Nat)(x:Sp)(h:k<l.length):(raS l).take (k*5)++([vi .u64 x.a,vi .u64 (l0 x.k),vi .u64 (l1 x.k),vi .u64 (l2 x.k),vi .u64 (l3 x.k)]++(raS l).drop (k*5+5))=raS (l.set k x):=X7q l k x h
theorem zerosS_ra(k:Nat):Q4s [.int .u64 0,.int .u64 0,.int .u64 0,.int .u64 0,.int .u64 0] k=raS (List.replicate k ⟨0,0⟩):=Q9n k
theorem idxSc_fn (c:Nat) (ex:Bool) (l:List Sp) (hlc:l.length≤c) (hcm:c≤maxLen) (p:Sp→Bool) (cs:List PV) {g:FuncId} {fn:Func} (hl:l.length≤1000000) (hgf:Tryz.prog.funcs[g]? = some fn) (hgn:(fn.name == "runtime.NumGoroutine")=false) (hgb:fn.body.isNone=false)
 (hp:∀x∈l,Fn Tryz.prog g [spA x,.ptr 1001 0] [(1001,[.ep cs])] (vb (p x)) [(1001,[.ep cs])]) :
 Fn Tryz.prog 72 [.cut 1000 37 5 0 l.length c ex,.fn g [.ptr 1001 0]] [(1000,raS l),(1001,[.ep cs])] (vi .i64 (idxF p l 0)) [(1000,raS l),(1001,[.ep cs])]:=by
 obtain⟨r,hr⟩:∃r,idxF p l 0=r:=⟨_,rfl⟩
 rw[hr]
 (refine Q0z Tryz.func72 rfl (by rfl) ?_;simp only[Tryz.ntmps72,List.length_cons,List.length_nil,Nat.reduceAdd,Nat.reduceSub,List.replicate,List.cons_append,List.nil_append])
 (repeat(any_goals(first|((with_reducible refine Q0b ?_ ?_);rfl;intro K hK;simp only[go_sem];((repeat(refine ndI (by first|assumption) ?_));refine hK _ ?_;clear hK K))|(with_reducible first|(refine Q0c ?_;refine hR _ ?_;clear hR R)|((first|refine Q0d ?_|refine Q0f ?_);intro J hJ hJ')|(refine Q0a ?_;intro R hR)|(refine hJ _ ?_;clear hJ hJ' J)))))
 refine Q1t (α:={i:Nat // i≤l.length∧idxF p (l.drop i) i=r}) (fun q=>⟨[.cut 1000 37 5 0 l.length c ex,.fn g [.ptr 1001 0],.any,.any,.any,.any,.any,vi .i64 l.length,vi .i64 (q.1:Int),.any,.any,.any,.any,.any,.any,.any,.any,.any,.any],[(1000,raS l),(1001,[.ep cs])]⟩) (fun q=>l.length-q.1) ⟨0,Nat.zero_le _,hr⟩ (St.le_of (by simp[leT]) (by simp[leH,hget])) ?_
 rintro ⟨i,hi,hd⟩ J hJ hJ'
 (try dsimp only at hJ ⊢)
 rcases Nat.lt_or_ge i l.length with hlt|hge
 · obtain⟨y,hy⟩:∃y,l[i]? = some y:=⟨_,List.getElem?_eq_getElem hlt⟩
   have k1:(decide ((i:Int)<(l.length:Int)))=true:=by simp;omega
   have k2:=raS_at hy
   have k3:=Q6u l
   have k7:(i:Int)+1=((i+1:Nat):Int):=by omega
   have hdr:l.drop i=y::l.drop (i+1):=by
    rw[List.drop_eq_getElem_cons hlt]
    rw[List.getElem?_eq_getElem hlt] at hy
    rw[Option.some.inj hy]
   have hp1:=hp y (List.mem_of_getElem? hy)
   rw[hdr] at hd
   unfold idxF at hd
   have r9:∀r,AV.refsL r (raS l)=false:=fun r=>Q0l r _
   cases hxy:p y
   · rw[hxy] at hp1 hd
     rw[if_neg (by simp)] at hd
     have hJ1:=fun σ'=>hJ σ' ⟨i+1,hlt,hd⟩ (by dsimp only;omega)
     dsimp only at hJ1
     (have W:=ndI k1 (ndI k2 (ndI k3 (ndI k7 (ndI r9 @wrI))));(repeat(any_goals(first|((with_reducible refine Q0n ?_ ?_ ?_);rfl;rfl;intro K hK;(apply Q1i (hp1) (fun r=>r);rfl;rfl;rfl;rfl;exact hgf;exact hgn;exact hgb;rfl;(intro r hr q hq h;simp(disch:=omega) only[List.map_cons,List.map_nil,List.cons_append,List.nil_append,List.mem_cons,List.not_mem_nil,or_false] at hr hq;(try dsimp only at h);first|omega);(simp(disch:=omega) only[Q1f,Q2g,AV.ren,AV.renL,Q0s,List.mem_cons,List.not_mem_nil,forall_eq_or_imp,forall_eq,Q2b,List.contains_cons,List.contains_nil,AV.refsL,AV.refs,Q0l,AV.inN,AV.inNL,inH,Q1b,go_sem,W]));(simp(disch:=omega) only[Q0w,Q1y,renH,AV.ren,AV.renL,Q0s,go_sem,W];refine hK _ ?_;clear hK K))|((with_reducible refine Q0b ?_ ?_);rfl;intro K hK;simp(disch:=omega) only[go_sem,W];((repeat(refine ndI (by first|assumption|omega|rfl) ?_));refine hK _ ?_;clear hK K))|((with_reducible refine Q0b ?_ ?_);rfl;intro K hK;(try simp(disch:=omega) only[go_sem,W]);(repeat(refine ndI (by first|assumption|rfl) ?_));refine Q2s rfl rfl rfl rfl rfl ?_ ?_ ?_;(focus(simp only[go_sem];try rfl));(first|omega);(simp(disch:=omega) only[go_sem,W];refine hK _ ?_;clear hK K))|(with_reducible first|(refine Q0c ?_;refine hR _ ?_;clear hR R)|((first|refine Q0d ?_|refine Q0f ?_);intro J hJ hJ')|(refine Q0a ?_;intro R hR)|(refine hJ _ ?_;clear hJ hJ' J)|refine Q0g ?_)|((with_reducible refine hJ' _ _ ?_ ?_);(focus(simp;done));clear hJ hJ' J)|((with_reducible apply Q0e);rfl;rfl;all_goals(intro hc;first|(cases hc;done)|(try simp only at hc)))))))
     all_goals exact hJ1 _ (St.le_of (by simp[leT]) (by simp[leH,hget]))
   · rw[hxy] at hp1 hd
     rw[if_pos rfl] at hd
     (have W:=ndI k1 (ndI k2 (ndI k3 (ndI k7 (ndI r9 @wrI))));(repeat(any_goals(first|((with_reducible refine Q0n ?_ ?_ ?_);rfl;rfl;intro K hK;(apply Q1i (hp1) (fun r=>r);rfl;rfl;rfl;rfl;exact hgf;exact hgn;exact hgb;rfl;(intro r hr q hq h;simp(disch:=omega) only[List.map_cons,List.map_nil,List.cons_append,List.nil_append,List.mem_cons,List.not_mem_nil,or_false] at hr hq;(try dsimp only at h);first|omega);(simp(disch:=omega) only[Q1f,Q2g,AV.ren,AV.renL,Q0s,List.mem_cons,List.not_mem_nil,forall_eq_or_imp,forall_eq,Q2b,List.contains_cons,List.contains_nil,AV.refsL,AV.refs,Q0l,AV.inN,AV.inNL,inH,Q1b,go_sem,W]));(simp(disch:=omega) only[Q0w,Q1y,renH,AV.ren,AV.renL,Q0s,go_sem,W];refine hK _ ?_;clear hK K))|((with_reducible refine Q0b ?_ ?_);rfl;intro K hK;simp(disch:=omega) only[go_sem,W];((repeat(refine ndI (by first|assumption|omega|rfl) ?_));refine hK _ ?_;clear hK K))|((with_reducible refine Q0b ?_ ?_);rfl;intro K hK;(try simp(disch:=omega) only[go_sem,W]);(repeat(refine ndI (by first|assumption|rfl) ?_));refine Q2s rfl rfl rfl rfl rfl ?_ ?_ ?_;(focus(simp only[go_sem];try rfl));(first|omega);(simp(disch:=omega) only[go_sem,W];refine hK _ ?_;clear hK K))|(with_reducible first|(refine Q0c ?_;refine hR _ ?_;clear hR R)|((first|refine Q0d ?_|refine Q0f ?_);intro J hJ hJ')|(refine Q0a ?_;intro R hR)|(refine hJ _ ?_;clear hJ hJ' J)|refine Q0g ?_|refine Q0j ?_)|((with_reducible refine hJ' _ _ ?_ ?_);(focus(simp;done));clear hJ hJ' J)|((with_reducible apply Q0e);rfl;rfl;all_goals(intro hc;first|(cases hc;done)|(try simp only at hc)))))))
     all_goals rw[←hd]
     all_goals(refine⟨by simp,⟨_,?_,AV.le_refl _⟩,Q0h (by simp[leH,hget])⟩;simp only[Tryz.results72,resL,ldA,Q0q,go_sem])
 · have k1:(decide ((i:Int)<(l.length:Int)))=false:=by simp;omega
   rw[List.drop_eq_nil_of_le hge] at hd
   have hd:r = -1:=hd.symm
   (repeat(any_goals(first|((with_reducible refine Q0b ?_ ?_);rfl;intro K hK;simp only[go_sem,k1];((repeat(refine ndI (by first|assumption) ?_));refine hK _ ?_;clear hK K))|(with_reducible first|(refine Q0c ?_;refine hR _ ?_;clear hR R)|((first|refine Q0d ?_);intro J hJ hJ')|(refine Q0a ?_;intro R hR)|(refine hJ _ ?_;clear hJ hJ' J)|refine Q0j ?_|refine Q0o ?_)|((with_reducible refine hJ' _ _ ?_ ?_);(focus(simp;done));clear hJ hJ' J)|((with_reducible apply Q0e);rfl;rfl;all_goals(intro hc;first|(cases hc;done)|(try simp only at hc))))))
   all_goals rw[hd]
   all_goals(refine⟨by simp,⟨_,?_,AV.le_refl _⟩,Q0h (by simp[leH,hget])⟩;simp only[Tryz.results72,resL,ldA,Q0q,go_sem])
def Q3r{α : Type}(p:α→Bool)(l:List α):List α:=l.filter fun x=>!p x
theorem X6c{α : Type}{p:α→Bool}{l:List α}(h:∀x∈l,p x=false):Q3r p l=l:=List.filter_eq_self.2 fun x hx=>by simp[h x hx]
theorem X2a{α : Type}(p:α→Bool){l:List α}{j:Nat}{y:α}(h:l[j]? = some y):Q3r p (l.take (j+1))=if p y=true then Q3r p (l.take j) else Q3r p (l.take j)++[y]:=by
 unfold Q3r
 rw[List.take_add_one,h,List.filter_append]
 cases hp:p y<;>simp[hp]
theorem X6b{α : Type}(p:α→Bool)(l:List α):(Q3r p l).length≤l.length:=List.length_filter_le _ _
theorem delSc_fnE (c:Nat) (ex:Bool) (l:List Sp) (hlc:l.length≤c) (hcm:c≤maxLen) (p:Sp→Bool) (cs:List PV) {g:FuncId} {fn:Func} (hl:l.length≤1000000) (hgf:Tryz.prog.funcs[g]? = some fn) (hgn:(fn.name == "runtime.NumGoroutine")=false) (hgb:fn.body.isNone=false)
 (hp:∀x∈l,Fn Tryz.prog g [spA x,.ptr 1001 0] [(1001,[.ep cs])] (vb (p x)) [(1001,[.ep cs])]) :
 Fn Tryz.prog 44 [.cut 1000 37 5 0 l.length c ex,.fn g [.ptr 1001 0]] [(1000,raS l),(1001,[.ep cs])] (.cut 1000 37 5 0 (Q3r p l).length c ex) [(1000,raS (Q3r p l++List.replicate (l.length-(Q3r p l).length) ⟨0,0⟩)),(1001,[.ep cs])]:=by
 have ix:=idxSc_fn c ex l hlc hcm p cs hl hgf hgn hgb hp
 have e1:=Q6u l
 rcases X6g p l 0 with⟨hi,hno⟩|⟨n,hn,hi,hno,z,hz,hpz⟩
 · rw[hi] at ix
   rw[X6c hno,Nat.sub_self,List.replicate_zero,List.append_nil]
   have k1:((-1:Int) == -1)=true:=rfl
   (refine Q0z Tryz.func44 rfl (by rfl) ?_;simp only[Tryz.ntmps44,List.length_cons,List.length_nil,Nat.reduceAdd,Nat.reduceSub,List.replicate,List.cons_append,List.nil_append])
   (repeat(any_goals(first|((with_reducible refine Q0n ?_ ?_ ?_);rfl;rfl;intro K hK;(apply Q1i (ix) (fun r=>r);rfl;rfl;rfl;rfl;exact Tryz.func72;kernel_rfl;rfl;rfl;(intro r hr q hq h;simp(disch:=omega) only[List.map_cons,List.map_nil,List.cons_append,List.nil_append,List.mem_cons,List.not_mem_nil,or_false] at hr hq;(try dsimp only at h);first|omega);(simp(disch:=omega) only[Q1f,Q2g,AV.ren,AV.renL,Q0s,List.mem_cons,List.not_mem_nil,forall_eq_or_imp,forall_eq,Q2b,List.contains_cons,List.contains_nil,AV.refsL,AV.refs,Q0l,AV.inN,AV.inNL,inH,Q1b,go_sem,k1]));(simp(disch:=omega) only[Q0w,Q1y,renH,AV.ren,AV.renL,Q0s,go_sem,k1];refine hK _ ?_;clear hK K))|((with_reducible refine Q0b ?_ ?_);rfl;intro K hK;simp(disch:=omega) only[go_sem,k1];((repeat(refine ndI (by first|assumption) ?_));refine hK _ ?_;clear hK K))|(with_reducible first|(refine Q0c ?_;refine hR _ ?_;clear hR R)|((first|refine Q0d ?_);intro J hJ hJ')|(refine Q0a ?_;intro R hR)|(refine hJ _ ?_;clear hJ hJ' J)|refine Q0j ?_)|((with_reducible refine hJ' _ _ ?_ ?_);(focus(simp;done));clear hJ hJ' J)|((with_reducible apply Q0e);rfl;rfl;all_goals(intro hc;first|(cases hc;done)|(try simp only at hc))))))
   all_goals(refine⟨by simp,⟨_,?_,AV.le_refl _⟩,Q0h (by simp[leH,hget])⟩;simp only[Tryz.results44,resL,ldA,Q0q,go_sem])
 · rw[Nat.zero_add] at hi
   rw[hi] at ix
   have k1:((n:Int) == -1)=false:=by simp
   have k6:(n:Int)+1=((n+1:Nat):Int):=by omega
   obtain⟨r,hr⟩:∃r,Q3r p l=r:=⟨_,rfl⟩
   have hrl:r.length≤l.length:=by rw[←hr];exact X6b p l
   rw[hr]
   have hk0:Q3r p (l.take (n+1))=l.take n:=by
    rw[X2a p hz,if_pos hpz];exact X6c hno
   (refine Q0z Tryz.func44 rfl (by rfl) ?_;simp only[Tryz.ntmps44,List.length_cons,List.length_nil,Nat.reduceAdd,Nat.reduceSub,List.replicate,List.cons_append,List.nil_append])
   (have W:=ndI k1 (ndI k6 @wrI);(repeat(any_goals(first|((with_reducible refine Q0n ?_ ?_ ?_);rfl;rfl;intro K hK;(apply Q1i (ix) (fun r=>r);rfl;rfl;rfl;rfl;exact Tryz.func72;kernel_rfl;rfl;rfl;(intro r hr q hq h;simp(disch:=omega) only[List.map_cons,List.map_nil,List.cons_append,List.nil_append,List.mem_cons,List.not_mem_nil,or_false] at hr hq;(try dsimp only at h);first|omega);(simp(disch:=omega) only[Q1f,Q2g,AV.ren,AV.renL,Q0s,List.mem_cons,List.not_mem_nil,forall_eq_or_imp,forall_eq,Q2b,List.contains_cons,List.contains_nil,AV.refsL,AV.refs,Q0l,AV.inN,AV.inNL,inH,Q1b,go_sem,W]));(simp(disch:=omega) only[Q0w,Q1y,renH,AV.ren,AV.renL,Q0s,go_sem,W];refine hK _ ?_;clear hK K))|((with_reducible refine Q0b ?_ ?_);rfl;intro K hK;simp(disch:=omega) only[go_sem,W];((repeat(refine ndI (by first|assumption|rfl) ?_));refine hK _ ?_;clear hK K))|(with_reducible first|(refine Q0c ?_;refine hR _ ?_;clear hR R)|((first|refine Q0d ?_|refine Q0f ?_);intro J hJ hJ')|(refine Q0a ?_;intro R hR)|(refine hJ _ ?_;clear hJ hJ' J)|refine Q0g ?_)|((with_reducible apply Q0e);rfl;rfl;all_goals(intro hc;first|(cases hc;done)|(try simp only at hc)))))))
   refine Q1t (α:={q:Nat×List Sp // q.1≤l.length∧(Q3r p (l.take q.1)).length<q.1∧q.2.length=l.length∧q.2.take (Q3r p (l.take q.1)).length=Q3r p (l.take q.1)∧q.2.drop q.1=l.drop q.1}) (fun q=>⟨[.cut 1000 37 5 0 l.length c ex,.fn g [.ptr 1001 0],.any,.any,.any,vi .i64 ((Q3r p (l.take q.1.1)).length:Int),vi .i64 (q.1.1:Int),.any,.any,.any,.any,.any,.any,.any,.any,.any,.any,.any,.any,.any,.any,.any,.any,.any,.any,.any,.any,.any,.any,.any,.any,.any,.any,.any,.any,.any,.any,.any,.any,.any,.any,.any],[(1000,raS q.1.2),(1001,[.ep cs])]⟩) (fun q=>l.length-q.1.1) ⟨(n+1,l),by dsimp only;omega,by dsimp only;rw[hk0,List.length_take];omega,rfl,by dsimp only;rw[hk0,List.length_take,Nat.min_eq_left (by omega)],rfl⟩ (St.le_of (by simp[leT,hk0];try omega) (by simp[leH,hget])) ?_
   rintro ⟨⟨j,m⟩,c1,c2,c3,c4,c5⟩ J hJ hJ'
   dsimp only at c1 c2 c3 c4 c5
   (try dsimp only at hJ ⊢)
   have hml:(raS m).length=l.length*5:=by rw[Q6u,c3]
   have r9:∀r,AV.refsL r (raS m)=false:=fun r=>Q0l r _
   rcases Nat.lt_or_ge j l.length with hlt|hge
   · obtain⟨y,hy⟩:∃y,l[j]? = some y:=⟨_,List.getElem?_eq_getElem hlt⟩
     have n1:(decide ((j:Int)<(l.length:Int)))=true:=by simp;omega
     have hy':m[j]? = some y:=by
      rw[←hy,←Nat.add_zero j,←List.getElem?_drop,←List.getElem?_drop,c5]
     have n2:=raS_at hy'
     have n7:(j:Int)+1=((j+1:Nat):Int):=by omega
     have hp1:=hp y (List.mem_of_getElem? hy)
     have ks:=X2a p hy
     obtain⟨d,hd⟩:∃d,(Q3r p (l.take j)).length=d:=⟨_,rfl⟩
     rw[hd] at c2 c4
     rw[hd]
     cases hxy:p y
     · rw[hxy] at hp1 ks
       rw[if_neg (by simp)] at ks
       have hset:(raS m).take (d*5)++[vi .u64 y.a,vi .u64 (l0 y.k),vi .u64 (l1 y.k),vi .u64 (l2 y.k),vi .u64 (l3 y.k)]++(raS m).drop (d*5+5)=raS (m.set d y):=by
        rw[List.append_assoc]
        exact raS_set m d y (by omega)
       have n6:(d:Int)+1=((d+1:Nat):Int):=by omega
       have hl':(Q3r p (l.take (j+1))).length=d+1:=by rw[ks,List.length_append,hd];rfl
       have hJ1:=fun σ'=>hJ σ' ⟨(j+1,m.set d y),by dsimp only;omega,by dsimp only;omega,by dsimp only;rw[List.length_set];exact c3,by
        dsimp only
        rw[hl',ks,List.set_eq_take_append_cons_drop,if_pos (by omega),c4,List.take_append,hd]
        rw[List.take_of_length_le (by omega),show d+1-d=1 by omega]
        rfl,by
        dsimp only
        rw[List.drop_set,if_pos (by omega),←List.drop_drop,c5,List.drop_drop]⟩ (by dsimp only;omega)
       dsimp only at hJ1
       rw[hl'] at hJ1
       (have W:=ndI n1 (ndI n2 (ndI n6 (ndI n7 (ndI r9 @wrI))));(repeat(any_goals(first|((with_reducible refine Q0n ?_ ?_ ?_);rfl;rfl;intro K hK;(apply Q1i (hp1) (fun r=>r);rfl;rfl;rfl;rfl;exact hgf;exact hgn;exact hgb;rfl;(intro r hr q hq h;simp(disch:=omega) only[List.map_cons,List.map_nil,List.cons_append,List.nil_append,List.mem_cons,List.not_mem_nil,or_false] at hr hq;(try dsimp only at h);first|omega);(simp(disch:=omega) only[Q1f,Q2g,AV.ren,AV.renL,Q0s,List.mem_cons,List.not_mem_nil,forall_eq_or_imp,forall_eq,Q2b,List.contains_cons,List.contains_nil,AV.refsL,AV.refs,Q0l,AV.inN,AV.inNL,inH,Q1b,go_sem,W,hset,hml]));(simp(disch:=omega) only[Q0w,Q1y,renH,AV.ren,AV.renL,Q0s,go_sem,W,hset,hml];refine hK _ ?_;clear hK K))|((with_reducible refine Q0b ?_ ?_);rfl;intro K hK;simp(disch:=omega) only[go_sem,W,hset,hml];((repeat(refine ndI (by first|assumption|omega|rfl) ?_));refine hK _ ?_;clear hK K))|((with_reducible refine Q0b ?_ ?_);rfl;intro K hK;(try simp(disch:=omega) only[go_sem,W,hset,hml]);(repeat(refine ndI (by first|assumption|rfl) ?_));refine Q2s rfl rfl rfl rfl rfl ?_ ?_ ?_;(focus(simp only[go_sem];try rfl));(first|omega);(simp(disch:=omega) only[go_sem,W,hset,hml];refine hK _ ?_;clear hK K))|(with_reducible first|(refine Q0c ?_;refine hR _ ?_;clear hR R)|((first|refine Q0d ?_|refine Q0f ?_);intro J hJ hJ')|(refine Q0a ?_;intro R hR)|(refine hJ _ ?_;clear hJ hJ' J)|refine Q0g ?_)|((with_reducible refine hJ' _ _ ?_ ?_);(focus(simp;done));clear hJ hJ' J)|((with_reducible apply Q0e);rfl;rfl;all_goals(intro hc;first|(cases hc;done)|(try simp only at hc)))))))
       all_goals exact hJ1 _ (St.le_of (by simp[leT]) (by simp[leH,hget]))
     · rw[hxy] at hp1 ks
       rw[if_pos rfl] at ks
       have hl':(Q3r p (l.take (j+1))).length=d:=by rw[ks,hd]
       have hJ1:=fun σ'=>hJ σ' ⟨(j+1,m),by dsimp only;omega,by dsimp only;omega,c3,by
        dsimp only
        rw[hl',ks];exact c4,by
        dsimp only
        rw[←List.drop_drop,c5,List.drop_drop]⟩ (by dsimp only;omega)
       dsimp only at hJ1
       rw[hl'] at hJ1
       (have W:=ndI n1 (ndI n2 (ndI n7 (ndI r9 @wrI)));(repeat(any_goals(first|((with_reducible refine Q0n ?_ ?_ ?_);rfl;rfl;intro K hK;(apply Q1i (hp1) (fun r=>r);rfl;rfl;rfl;rfl;exact hgf;exact hgn;exact hgb;rfl;(intro r hr q hq h;simp(disch:=omega) only[List.map_cons,List.map_nil,List.cons_append,List.nil_append,List.mem_cons,List.not_mem_nil,or_false] at hr hq;(try dsimp only at h);first|omega);(simp(disch:=omega) only[Q1f,Q2g,AV.ren,AV.renL,Q0s,List.mem_cons,List.not_mem_nil,forall_eq_or_imp,forall_eq,Q2b,List.contains_cons,List.contains_nil,AV.refsL,AV.refs,Q0l,AV.inN,AV.inNL,inH,Q1b,go_sem,W,hml]));(simp(disch:=omega) only[Q0w,Q1y,renH,AV.ren,AV.renL,Q0s,go_sem,W,hml];refine hK _ ?_;clear hK K))|((with_reducible refine Q0b ?_ ?_);rfl;intro K hK;simp(disch:=omega) only[go_sem,W,hml];((repeat(refine ndI (by first|assumption|omega|rfl) ?_));refine hK _ ?_;clear hK K))|((with_reducible refine Q0b ?_ ?_);rfl;intro K hK;(try simp(disch:=omega) only[go_sem,W,hml]);(repeat(refine ndI (by first|assumption|rfl) ?_));refine Q2s rfl rfl rfl rfl rfl ?_ ?_ ?_;(focus(simp only[go_sem];try rfl));(first|omega);(simp(disch:=omega) only[go_sem,W,hml];refine hK _ ?_;clear hK K))|(with_reducible first|(refine Q0c ?_;refine hR _ ?_;clear hR R)|((first|refine Q0d ?_|refine Q0f ?_);intro J hJ hJ')|(refine Q0a ?_;intro R hR)|(refine hJ _ ?_;clear hJ hJ' J)|refine Q0g ?_)|((with_reducible refine hJ' _ _ ?_ ?_);(focus(simp;done));clear hJ hJ' J)|((with_reducible apply Q0e);rfl;rfl;all_goals(intro hc;first|(cases hc;done)|(try simp only at hc)))))))
       all_goals exact hJ1 _ (St.le_of (by simp[leT]) (by simp[leH,hget]))
   · have n1:(decide ((j:Int)<(l.length:Int)))=false:=by simp;omega
     have ej:l.take j=l:=List.take_of_length_le hge
     rw[ej,hr] at c2 c4
     rw[ej,hr]
     obtain⟨d,hd⟩:∃d,r.length=d:=⟨_,rfl⟩
     rw[hd] at hrl c2 c4
     rw[hd]
     have hfin:raS (r++List.replicate (l.length-d) ⟨0,0⟩)=spl (raS m) (d*5) (Q4s [.int .u64 0,.int .u64 0,.int .u64 0,.int .u64 0,.int .u64 0] (l.length-d)):=by
      unfold spl
      rw[zerosS_ra,Q6u,List.length_replicate,raS_app,raS_take,c4,List.drop_of_length_le (by rw[hml];omega)]
      show _=_++[]
      rw[List.append_nil]
     (have W:=ndI n1 (ndI r9 @wrI);(repeat(any_goals(first|((with_reducible refine Q0b ?_ ?_);rfl;intro K hK;simp(disch:=omega) only[go_sem,W,hml];((repeat(refine ndI (by first|assumption|rfl) ?_));refine hK _ ?_;clear hK K))|((with_reducible refine Q0b ?_ ?_);rfl;intro K hK;(try simp(disch:=omega) only[go_sem,W,hml]);(repeat(refine ndI (by first|assumption|rfl) ?_));refine Q4g rfl rfl rfl rfl rfl ?_ rfl rfl rfl rfl ?_ ?_ ?_;(focus(simp only[go_sem];try rfl));(intro h;first|rfl|cases h);(first|omega);(simp(disch:=omega) only[go_sem,W,hml];refine hK _ ?_;clear hK K))|((with_reducible refine Q0b ?_ ?_);rfl;intro K hK;(try simp(disch:=omega) only[go_sem,W,hml]);(repeat(refine ndI (by first|assumption) ?_));apply Q7q;rfl;rfl;(focus(simp only[go_sem];try rfl));(first|omega);(simp(disch:=omega) only[go_sem,Option.bind_some];rfl);rfl;rfl;rfl;rfl;(first|omega);(simp(disch:=omega) only[go_sem,W,hml];refine hK _ ?_;clear hK K))|(with_reducible first|(refine Q0c ?_;refine hR _ ?_;clear hR R)|((first|refine Q0d ?_);intro J hJ hJ')|(refine Q0a ?_;intro R hR)|(refine hJ _ ?_;clear hJ hJ' J)|refine Q0j ?_|refine Q0o ?_)|((with_reducible refine hJ' _ _ ?_ ?_);(focus(simp;done));clear hJ hJ' J)|((with_reducible apply Q0e);rfl;rfl;all_goals(intro hc;first|(cases hc;done)|(try simp only at hc)))))))
     all_goals rw[hd,hfin]
     all_goals refine⟨by simp,⟨_,rfl,AV.le_refl _⟩,Q0h ⟨?_,?_,trivial⟩⟩
     all_goals simp[Q2h,spl,List.append_assoc]
theorem delSc_fn (c:Nat) (ex:Bool) (l:List Sp) (hlc:l.length≤c) (hcm:c≤maxLen) (p:Sp→Bool) (cs:List PV) {g:FuncId} {fn:Func} (hl:l.length≤1000000) (hgf:Tryz.prog.funcs[g]? = some fn) (hgn:(fn.name == "runtime.NumGoroutine")=false) (hgb:fn.body.isNone=false)
 (hp:∀x∈l,Fn Tryz.prog g [spA x,.ptr 1001 0] [(1001,[.ep cs])] (vb (p x)) [(1001,[.ep cs])]) :
 Fn Tryz.prog 44 [.cut 1000 37 5 0 l.length c ex,.fn g [.ptr 1001 0]] [(1000,raS l),(1001,[.ep cs])] (.cut 1000 37 5 0 (Q3r p l).length c ex) [(1000,raS (Q3r p l))]:=
 (delSc_fnE c ex l hlc hcm p cs hl hgf hgn hgb hp).weaken (AV.le_refl _) (leHp (ds:=raS (List.replicate (l.length-(Q3r p l).length) ⟨0,0⟩)) (by rw[raS_app];simp[hget]))
end
section
open Go.RowKit
section
variable {P:Program} {o:Oper} {σ : St} {K:St→Prop}
theorem Q6w{s x:Operand}{t e r e0 lo sz by_ n c:Nat}{ex ex':Bool}{qs:List PV}(ho:o.op = .call {callee:=.builtin .append,args:=#[s,x],argTypes:=#[t,t]})(hs0:Q0i s=true)(hx0:Q0i x=true)(hz:slcZ P t=some (e,sz,by_))(h0:0<sz)
 (h1:σ.ev s = .cut r e0 sz lo n c ex) (h2:σ.ev x = .c (.sl ex' sz 0 qs)) (hK:K (σ.put o.dst (.cut r e0 sz lo n c ex))):OpA P o σ K:=by
 refine Q1h _ hK fun E ι a w h=>?_
 obtain⟨hu,i,z,hi,hiz,hsize,hbytes,hzs,hz1⟩:=Q4m hz
 have hsv:=h.ev s hs0
 have hxv:=h.ev x hx0
 rw[h1] at hsv
 rw[h2] at hxv
 generalize he:a.eval s=v at hsv
 generalize hex:a.eval x=y at hxv
 cases hxv with
 |c _ _ hq=>
  cases hq with
  |sl _ _ B _ c1 ws _ k1 k2 k3 kx kl kn k4 k5=>
   have hsrc:Src P i.size t (.slice B 0 c1) 0 [] w:=by
    cases B with
    |none=>
     obtain rfl:=k3 rfl
     exact Src.ofNil w hu 0
    |some a0=>exact Src.ofSlice w hu a0 0 c1 [] (by simp) (fun j u hu=>by cases hu) (fun u hu=>by cases hu)
   have hv:=hsv
   cases hsv with
   |cut _ _ _ _ _ _ _ g1 g2 g3 gx g4 g0=>
    refine⟨_,?_,hv⟩
    have hrun:=run_append_nothing w t t o.type e i hu hi (some ⟨(ι r).1,lo*sz,none⟩) n c g1 _ hsrc
    unfold execOp
    simp only[ho,resolve,invoke,builtin,Sem.run_bind,Sem.run_pure,Result.andThen_ok,List.map_toArray,List.map_cons,List.map_nil,he,hex,hrun]
   |cnil A _ _ _ _ _ g=>
    refine⟨_,?_,hv⟩
    have hrun:=run_append_nothing w t t o.type e i hu hi A 0 0 (Nat.le_refl _) _ hsrc
    unfold execOp
    simp only[ho,resolve,invoke,builtin,Sem.run_bind,Sem.run_pure,Result.andThen_ok,List.map_toArray,List.map_cons,List.map_nil,he,hex,hrun]
theorem Q6z{l0 rest:List Oper}{acc:List Ef}{s x:Operand}{t e r e0 lo sz by_ n c:Nat}{ex ex':Bool}{qs:List PV}(hg:o.guard=none)(ho:o.op = .call {callee:=.builtin .append,args:=#[s,x],argTypes:=#[t,t]})(hs0:Q0i s=true)(hx0:Q0i x=true)(hz:slcZ P t=some (e,sz,by_))(h0:0<sz)
 (h1:σ.ev s = .cut r e0 sz lo n c ex) (h2:σ.ev x = .c (.sl ex' sz 0 qs))
 (h:evD P l0 rest (σ.eff o.dst (.cut r e0 sz lo n c ex) []) (⟨.cut r e0 sz lo n c ex,[],[],[]⟩::acc) K):evD P l0 (o::rest) σ acc K:=by
 refine⟨⟨.cut r e0 sz lo n c ex,[],[],[]⟩,.inl ⟨hg,fun τ hA _ hN=>?_⟩,h⟩
 have hA':∀z,z=s∨z=x→τ.ev z = σ.ev z:=fun z hz=>hA z (by rw[ho];rcases hz with rfl|rfl<;>simp[Op.operands,Call.operands])
 refine Q6w ho hs0 hx0 hz h0 (by rw[hA' s (.inl rfl)];exact h1) (by rw[hA' x (.inr rfl)];exact h2) ?_
 cases o.dst<;>rfl
theorem St.to.noname{σ : St}(d e:Nat)(hf:σ.free d=true)(hd:d<1000):σ.to ⟨σ.T,hput σ.H d []⟩:=fun E ι a w hc'=>
 ⟨_,hc'.grow (w':=w) hf hd (World.grownBy.refl w none) none (fun b hb=>by cases hb) (0,0,e) (cs:=[]) (fun h=>absurd rfl h) rfl (.inl ⟨rfl,rfl⟩)⟩
theorem St.le_set{i:Nat}{y:AV}(h:(σ.T.getD i .any).le y):σ.le ⟨σ.T.set i y,σ.H⟩:=by
 refine⟨by simp,fun j=>?_,fun r cs h=>h⟩
 by_cases hj:j=i
 · subst hj
   rcases Nat.lt_or_ge j σ.T.length with h0|h0
   · have:(σ.T.set j y).getD j .any=y:=by simp[List.getD,List.getElem?_set,h0]
     rw[this];exact h
   · have:(σ.T.set j y).getD j .any = .any:=by rw[List.getD_eq_getElem?_getD,List.getElem?_eq_none (by simp;omega)];rfl
     rw[this]
     exact fun _ _ _ _ _=>.any _
 · have:(σ.T.set i y).getD j .any = σ.T.getD j .any:=by simp[List.getD,List.getElem?_set,Ne.symm hj]
   rw[this]
   exact AV.le_refl _
end
def St.toX(σ : St)(Q:St→Prop):Prop:=∀E ι a w,Conc E ι σ a w→∃ι' τ,Q τ∧Conc E ι' τ a w
theorem St.toX.of{σ τ : St}{Q:St→Prop}(h:σ.to τ)(hq:Q τ):σ.toX Q:=fun E ι a w hc=>by
 obtain⟨ι',hc'⟩:=h E ι a w hc
 exact⟨ι',τ,hq,hc'⟩
theorem St.toX.mono{σ : St}{Q R:St→Prop}(h:σ.toX Q)(hq:∀τ,Q τ→R τ):σ.toX R:=fun E ι a w hc=>by
 obtain⟨ι',τ,h1,h2⟩:=h E ι a w hc
 exact⟨ι',τ,hq τ h1,h2⟩
theorem St.toX.bind{σ : St}{Q R:St→Prop}(h:σ.toX Q)(hq:∀τ,Q τ→τ.toX R):σ.toX R:=fun E ι a w hc=>by
 obtain⟨ι',τ,h1,h2⟩:=h E ι a w hc
 exact hq τ h1 E ι' a w h2
theorem St.toX.cut{σ : St}{d r e sz n:Nat}(h:σ.T.getD d .any = .row r e sz n)(hd:d < σ.T.length):σ.toX fun τ=>∃k,n≤k∧k≤maxLen∧τ = ⟨σ.T.set d (.cut r e sz 0 n k true),σ.H⟩:=fun E ι a w hc=>by
 have hv:=hc.tmp d
 rw[h] at hv
 obtain⟨k,h1,h2,hcv⟩:=hv.row_cut
 refine⟨ι,_,⟨k,h1,h2,rfl⟩,hc.defers,by simpa using hc.size,fun j=>?_,hc.heap,hc.keep⟩
 show RV _ ι w _ ((σ.T.set d (.cut r e sz 0 n k true)).getD j .any)
 by_cases hj:j=d
 · subst hj
   have:(σ.T.set j (.cut r e sz 0 n k true)).getD j .any = .cut r e sz 0 n k true:=by simp[List.getD,List.getElem?_set,hd]
   rw[this];exact hcv
 · have:(σ.T.set d (.cut r e sz 0 n k true)).getD j .any = σ.T.getD j .any:=by simp[List.getD,List.getElem?_set,Ne.symm hj]
   rw[this];exact hc.tmp j
section
variable {P:Program}
theorem AW.loopX{c:Code}{σ : St}{Φ : Exit→St→Prop}{α : Type}(I:α→St)(μ : α→Nat)(x0:α)(h0:σ.to (I x0))
 (round:∀x,evC P c (I x) fun ex σ'=>match ex with | .normal=>σ'.toX (fun τ=>∃y,μ y < μ x∧τ = I y)|ex=>Φ ex σ'):AW P (.loop c) σ Φ:=by
 intro E ι a w hc b k cs
 have key:∀n x ι a w,μ x=n→Conc E ι (I x) a w→∃e a' w',(∃ι' σ',Conc E ι' σ' a' w'∧Φ e σ')∧Arrives P (lone (b.at a (.code c :: .inLoop c::k)) cs w) b k cs e a' w':=by
  intro n
  induction n using Nat.strongRecOn with
  |_ n ih=>
   intro x ι a w hn hI
   obtain⟨e,a₁,w₁,⟨ι₁,σ₁,hc₁,hq⟩,harr⟩:=Q3a c (I x) _ (round x) E ι a w hI b (.inLoop c::k) cs
   cases e with
   |normal=>
    obtain⟨ι2,τ,⟨y,hlt,rfl⟩,hc2⟩:=hq E ι₁ a₁ w₁ hc₁
    obtain⟨e₂,a₂,w₂,hq₂,harr₂⟩:=ih (μ y) (hn▸hlt) y ι2 a₁ w₁ rfl hc2
    exact⟨e₂,a₂,w₂,hq₂,.of_steps (Steps.trans harr (.one step_inLoop)) harr₂⟩
   |exit id=>exact⟨_,a₁,w₁,⟨ι₁,σ₁,hc₁,hq⟩,.pass (x:=.inLoop c) rfl (fun _ _=>.inl (by simp)) harr⟩
   |goto l=>exact⟨_,a₁,w₁,⟨ι₁,σ₁,hc₁,hq⟩,.pass (x:=.inLoop c) rfl (fun _ _=>.inl (by simp)) harr⟩
   |ret=>exact⟨_,a₁,w₁,⟨ι₁,σ₁,hc₁,hq⟩,.pass (x:=.inLoop c) rfl (fun _ _=>.inl (by simp)) harr⟩
   |panic ch=>exact⟨_,a₁,w₁,⟨ι₁,σ₁,hc₁,hq⟩,.pass (x:=.inLoop c) rfl (fun _ _=>.inl (by simp)) harr⟩
   |outgrown=>exact⟨_,a₁,w₁,⟨ι₁,σ₁,hc₁,hq⟩,.pass (x:=.inLoop c) rfl (fun _ _=>.inl (by simp)) harr⟩
 obtain⟨ι0,hc0⟩:=h0 E ι a w hc
 obtain⟨e,a',w',hq,harr⟩:=key _ x0 ι0 a w rfl hc0
 exact⟨e,a',w',hq,.of_steps (.one step_loop) harr⟩
theorem evC_loopX{c:Code}{σ : St}{Φ : Exit→St→Prop}{α : Type}(I:α→St)(μ : α→Nat)(x0:α)(h0:σ.to (I x0))
 (round:∀x,∀J:Exit→St→Prop,(∀σ',σ'.toX (fun τ=>∃y,μ y < μ x∧τ = I y)→J .normal σ')→(∀ex σ',ex≠.normal→Φ ex σ'→J ex σ')→evC P c (I x) J):evC P (.loop c) σ Φ:=by
 unfold evC
 refine AW.loopX I μ x0 h0 fun x=>round x _ (fun σ' h=>h) fun ex σ' hne h=>?_
 cases ex<;>first|exact absurd rfl hne|exact h
end
end
end Go.Proofs.YtgdjkkapgghdbaaGreatDoor
