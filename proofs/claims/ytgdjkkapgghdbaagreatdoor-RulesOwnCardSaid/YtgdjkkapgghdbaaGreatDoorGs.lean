/-
  Addresses laid in one by one: what comes rises, and has just what was there; plain.
-/
import Derived.Test.YtgdjkkapgghdbaaGreatDoorAvDn
import Derived.Test.YtgdjkkapgghdbaaGreatDoorYd
import Derived.Test.YtgdjkkapgghdbaaGreatDoorAvO
import Derived.Test.YtgdjkkapgghdbaaGreatDoorTrf
namespace Go.Proofs.YtgdjkkapgghdbaaGreatDoor
set_option linter.unusedSimpArgs false
set_option linter.unusedVariables false
section
open Go.RowKit
open Nat (reduceBEq)
attribute [-go_sem] IntKind.bits
set_option maxRecDepth 20000
set_option maxHeartbeats 2000000
theorem lastNE(T:Ph→List Sp)(ph:List Ph):∀n,n≤ph.length→∃m,m≤n∧(∀i p,m≤i→i<n→ph[i]? = some p→T p=[])∧(m=0∨∃p,ph[m-1]? = some p∧T p≠[])
 |0,_=>⟨0,Nat.le_refl _,fun i p _ h=>absurd h (Nat.not_lt_zero _),.inl rfl⟩
 |n+1,hn=>by
  obtain⟨m,h1,h2,h3⟩:=lastNE T ph n (by omega)
  have hp:ph[n]? = some ph[n]:=List.getElem?_eq_getElem (by omega)
  by_cases h:T ph[n]=[]
  · refine⟨m,by omega,fun i p hi hlt he=>?_,h3⟩
    rcases Nat.lt_or_ge i n with h'|h'
    · exact h2 i p hi h' he
    · obtain rfl:i=n:=by omega
      rw[hp] at he;cases he;exact h
  · exact⟨n+1,Nat.le_refl _,fun i p hi hlt=>by omega,.inr ⟨ph[n],hp,h⟩⟩
def outT(T:Ph→List Sp)(ph:List Ph)(i:Nat):List Sp:=(ph.take i).flatMap T
theorem outT_succ(T:Ph→List Sp){ph:List Ph}{i:Nat}{p:Ph}(h:ph[i]? = some p):outT T ph (i+1)=outT T ph i++T p:=by
 unfold outT
 rw[List.take_add_one,h,List.flatMap_append]
 simp
theorem outT_len(T:Ph→List Sp)(ph:List Ph)(hT:∀p∈ph,(T p).length≤1000)(hl:ph.length≤1000):∀i,(outT T ph i).length≤1000000:=by
 have key:∀l:List Ph,(∀p∈l,(T p).length≤1000)→(l.flatMap T).length≤l.length*1000:=by
  intro l
  induction l with
  |nil=>intro _;exact Nat.le_refl _
  |cons p l ih=>
   intro h
   have h1:=h p (by simp)
   have h2:=ih fun q hq=>h q (by simp[hq])
   simp only[List.flatMap_cons,List.length_append,List.length_cons]
   omega
 intro i
 have h:=key (ph.take i) fun p hp=>hT p (List.mem_of_mem_take hp)
 have:(ph.take i).length≤1000:=by rw[List.length_take];omega
 unfold outT
 omega
abbrev stFa(ks:List PV)(ph:List Ph)(out:List Sp)(i:Nat):St:=⟨[.any,.any,.any,.ptr 3 0,spl5 false out,.any,.any,.any,.any,.any,.any,.any,.any,.any,.any,phs false ph,vi .i64 ph.length,vi .i64 i,.any,.any,.any,.any,.any,.any,.any,.any,.any,.any,.any,.any,.any,.any,.any,.any,.any,.any,.any,.any,.any],[(3,[.ep ks])]⟩
abbrev stFr(r:Nat)(ks:List PV)(ph:List Ph)(out:List Sp)(c:Nat)(ex:Bool)(i:Nat):St:=⟨[.any,.any,.any,.ptr 3 0,.cut r 37 5 0 out.length c ex,.any,.any,.any,.any,.any,.any,.any,.any,.any,.any,phs false ph,vi .i64 ph.length,vi .i64 i,.any,.any,.any,.any,.any,.any,.any,.any,.any,.any,.any,.any,.any,.any,.any,.any,.any,.any,.any,.any,.any],[(3,[.ep ks]),(r,raS out)]⟩
abbrev stFb:=stFr 500
theorem stFr_rn(ks:List PV)(ph:List Ph)(out:List Sp)(c:Nat)(ex:Bool)(i:Nat):(stFr 30 ks ph out c ex i).to (stFr 500 ks ph out c ex i):=by
 have h:=St.to.rn (σ:=stFr 30 ks ph out c ex i) (fun r=>if r=30 then 500 else r) (fun r=>if r=500 then 30 else r) [30,3] (by simp[AV.inNL,AV.inN]) (by simp) (by simp[inH,AV.inNL,AV.inN,Q1b]) (by simp) (by simp)
 simpa [AV.renL,AV.ren,renH] using h
theorem X8d(c:Cs)(cs:List PV)(T:Ph→List Sp)(hl:c.ph.length≤1000)(hT:∀p∈c.ph,(T p).length≤1000)(hto:∀p∈c.ph,∀s∈T p,s.ok)(tf:∀p∈c.ph,Fn Tryz.prog 28 [evs false p.tr] [] (spl5 false (T p)) [])
 (h:Fn Tryz.prog 43 [.agg [vi .u64 c.snd,phs false c.ph,asl false c.cd]] [] (.ep (.v (.int .u64 c.snd) :: .sl false 4 c.ph.length (c.ph.flatMap Ph.pv)::cs)) []) (q:Sp→Bool)
 (hq:∀s:Sp,s.ok→Fn Tryz.prog 45 [spA s,.ptr 1001 0] [(1001,[.ep (.v (.int .u64 c.snd) :: .sl false 4 c.ph.length (c.ph.flatMap Ph.pv)::cs)])] (vb (q s)) [(1001,[.ep (.v (.int .u64 c.snd) :: .sl false 4 c.ph.length (c.ph.flatMap Ph.pv)::cs)])]) :
 Fn Tryz.prog 13 [csA c] [] (spl5 false (canS (Q3r q (c.ph.flatMap T)))) []:=by
 obtain⟨res,hres⟩:∃res,canS (Q3r q (c.ph.flatMap T))=res:=⟨_,rfl⟩
 rw[hres]
 (refine Q0z Tryz.func13 rfl (by rfl) ?_;simp only[Tryz.ntmps13,List.length_cons,List.length_nil,Nat.reduceAdd,Nat.reduceSub,List.replicate,List.cons_append,List.nil_append])
 (repeat(any_goals(first|((with_reducible refine Q3p ?_ ?_);rfl;intro K hK;(first|(apply Q7p;rfl;rfl;kernel_rfl;rfl));(simp only[go_sem];refine hK _ ?_;clear hK K))|((with_reducible refine Q0n ?_ ?_ ?_);rfl;rfl;intro K hK;((apply Q0k (h);rfl;rfl;rfl;rfl;exact Tryz.func43);kernel_rfl;rfl;(focus((simp only[go_sem]);(try rfl);done));(first|rfl));(simp only[go_sem];refine hK _ ?_;clear hK K))|((with_reducible refine Q0b ?_ ?_);rfl;intro K hK;simp only[go_sem];((repeat(refine ndI (by first|assumption|omega) ?_));refine hK _ ?_;clear hK K))|(with_reducible first|(refine Q0c ?_;refine hR _ ?_;clear hR R)|((first|refine Q0d ?_|refine Q0f ?_);intro J hJ hJ')|(refine Q0a ?_;intro R hR)|(refine hJ _ ?_;clear hJ hJ' J)|refine Q0g ?_)|((with_reducible apply Q0e);rfl;rfl;all_goals(intro hc;first|(cases hc;done)|(try simp only at hc))))))
 obtain⟨ks,hks⟩:∃ks,(.v (.int .u64 c.snd) :: .sl false 4 c.ph.length (c.ph.flatMap Ph.pv)::cs)=ks:=⟨_,rfl⟩
 simp only[hks] at hq ⊢
 obtain⟨m,hm1,hm2,hm3⟩:=lastNE T c.ph c.ph.length (Nat.le_refl _)
 have hol:=outT_len T c.ph hT hl
 clear h
 refine evC_loopX (α:={q:Nat×Option (Nat×Bool) // q.1≤c.ph.length∧(match q.2 with|none=>q.1<m|some (k,_)=>m≤q.1∧(outT T c.ph q.1).length≤k∧k≤maxLen)}) (fun q=>match q.1.2 with|none=>stFa ks c.ph (outT T c.ph q.1.1) q.1.1|some (k,ex)=>stFb ks c.ph (outT T c.ph q.1.1) k ex q.1.1) (fun q=>c.ph.length-q.1.1) (if h0:m=0 then⟨(0,some (0,true)),Nat.zero_le _,by dsimp only;exact⟨by omega,Nat.le_refl _,Nat.zero_le _⟩⟩ else⟨(0,none),Nat.zero_le _,by dsimp only;omega⟩) ?_ ?_
 · by_cases h0:m=0
   · rw[dif_pos h0]
     refine St.to.trans (St.to.nilcut 4 500 37 5 rfl (by simp) (by simp[St.free,Q1w,AV.refsL,AV.refs]) (by decide)) (St.to.of_le (St.le_of (by simp[leT,outT]) (by simp[leH,hget,hput,outT])))
   · rw[dif_neg h0]
     exact St.to.trans (St.to.of_le (St.le_set (i:=4) (y:=spl5 false []) (AV.le_nil false 5))) (St.to.of_le (St.le_of (by simp[leT,outT]) (by simp[leH,hget,hput])))
 rintro ⟨⟨i,o⟩,hi,ho⟩ J hJ hJ'
 (try dsimp only at hi ho hJ ⊢)
 have hn:=hol i
 rcases Nat.lt_or_ge i c.ph.length with hlt|hge
 · obtain⟨y,hy⟩:∃y,c.ph[i]? = some y:=⟨_,List.getElem?_eq_getElem hlt⟩
   have k1:(decide ((i:Int)<(c.ph.length:Int)))=true:=by simp;omega
   have k2:=X1e hy
   have k7:(i:Int)+1=((i+1:Nat):Int):=by omega
   have tf1:=tf y (List.mem_of_getElem? hy)
   have os:=outT_succ T hy
   have hTy:=hT y (List.mem_of_getElem? hy)
   cases o with
   |none=>
    dsimp only at ho ⊢
    by_cases him:i+1<m
    · have hJ1:∀σ':St,σ'.to (stFa ks c.ph (outT T c.ph (i+1)) (i+1))→J .normal σ':=fun σ' h=>hJ σ' (.of h ⟨⟨(i+1,none),hlt,him⟩,by dsimp only;omega,rfl⟩)
      rw[os] at hJ1
      generalize outT T c.ph i=out at hn hJ1 ⊢
      have k4:(out.flatMap Sp.pv).length=out.length*5:=Q0p Q4y _
      generalize T y=ty at tf1 hTy hJ1
      have k5:(ty.flatMap Sp.pv).length=ty.length*5:=Q0p Q4y _
      have k8:(out.flatMap Sp.pv).take (out.length*5)=out.flatMap Sp.pv:=List.take_of_length_le (by omega)
      clear hol hq tf hT hto os
      (have W:=ndI k1 (ndI k2 (ndI k4 (ndI k5 (ndI k7 (ndI k8 @wrI)))));(repeat(any_goals(first|((with_reducible refine Q0b ?_ ?_);rfl;intro K hK;simp(disch:=omega) only[go_sem,W];((repeat(refine ndI (by first|assumption|omega|rfl) ?_));refine hK _ ?_;clear hK K))|(with_reducible first|(refine Q0c ?_;refine hR _ ?_;clear hR R)|((first|refine Q0d ?_|refine Q0f ?_);intro J hJ hJ')|(refine Q0a ?_;intro R hR)|(refine hJ _ ?_;clear hJ hJ' J)|refine Q0g ?_)|((with_reducible refine hJ' _ _ ?_ ?_);(focus(simp;done));clear hJ hJ' J)|((with_reducible apply Q0e);rfl;rfl;all_goals(intro hc;first|(cases hc;done)|(try simp only at hc)))|((with_reducible refine Q0v ?_ ?_);kernel_rfl;(with_reducible refine hR _ ?_);clear hR R)|((first|((with_reducible apply Q1j);rfl;rfl;((apply Q0u (tf1);rfl;rfl;rfl;rfl;exact Tryz.func28);kernel_rfl;rfl;(focus((simp(disch:=omega) only[go_sem,W]);(try rfl);done));(first|rfl)))|((with_reducible apply Q0t);rfl;rfl;(simp(disch:=omega) only[rdE,rdOf,go_sem,W];rfl);(intro τ hA hQ hN;((try simp only[Q1e,Op.operands,Call.operands,go_sem,W,go_sem,List.mem_cons,List.not_mem_nil,forall_eq_or_imp,forall_eq,List.append_toArray,Option.toArray] at hA);(try simp only[go_sem,W,List.mem_cons,List.not_mem_nil,forall_eq_or_imp,forall_eq] at hQ hN);(first|(revert hA;intro hA));(first|(revert hQ;intro hQ));(first|(revert hN;intro hN));simp(disch:=omega) only[go_sem,W,go_sem,hA,hQ,hN];(repeat(refine ndI (by first|assumption|omega|rfl) ?_));(first|apply Q1a))))|((with_reducible apply Q4q);rfl;rfl;rfl;rfl;(focus(simp only[go_sem];try rfl));(first|omega);(first|omega);rfl;rfl;(focus(first|omega));(focus(first|omega));(focus(first|omega));rfl;(focus(first|omega))));(simp(disch:=omega) only[St.eff,setO,Q0w,go_sem,W]))|((with_reducible refine Q0r ?_ ?_ ?_ ?_);kernel_rfl;kernel_rfl;(first|kernel_rfl);intro R hR)))))
      all_goals exact hJ1 _ (St.to.of_le (St.le_of (by simp[leT]) (by simp[leH,hget])))
    · have hne:T y≠[]:=by
       rcases hm3 with h|⟨p,hp,h⟩
       · omega
       · have e:m-1=i:=by omega
         rw[e,hy] at hp
         cases hp
         exact h
      have hpos:0<(T y).length:=List.length_pos_iff.2 hne
      have hn1:=hol (i+1)
      have hJ1:∀σ':St,σ'.toX (fun τ=>∃k,(outT T c.ph (i+1)).length≤k∧k≤maxLen∧τ = stFb ks c.ph (outT T c.ph (i+1)) k true (i+1))→J .normal σ':=fun σ' h=>hJ σ' (h.mono fun τ ⟨k,h1,h2,h3⟩=>⟨⟨(i+1,some (k,true)),hlt,by dsimp only;omega,h1,h2⟩,by dsimp only;omega,h3⟩)
      rw[os] at hJ1 hn1
      generalize outT T c.ph i=out at hn hn1 hJ1 ⊢
      have k4:(out.flatMap Sp.pv).length=out.length*5:=Q0p Q4y _
      generalize T y=ty at tf1 hTy hJ1 hpos hn1
      have k5:(ty.flatMap Sp.pv).length=ty.length*5:=Q0p Q4y _
      have k8:(out.flatMap Sp.pv).take (out.length*5)=out.flatMap Sp.pv:=List.take_of_length_le (by omega)
      rw[List.length_append] at hn1
      clear hol hq tf hT hto os
      (have W:=ndI k1 (ndI k2 (ndI k4 (ndI k5 (ndI k7 (ndI k8 @wrI)))));(repeat(any_goals(first|((with_reducible refine Q0b ?_ ?_);rfl;intro K hK;simp(disch:=omega) only[go_sem,W];((repeat(refine ndI (by first|assumption|omega|rfl) ?_));refine hK _ ?_;clear hK K))|(with_reducible first|(refine Q0c ?_;refine hR _ ?_;clear hR R)|((first|refine Q0d ?_|refine Q0f ?_);intro J hJ hJ')|(refine Q0a ?_;intro R hR)|(refine hJ _ ?_;clear hJ hJ' J)|refine Q0g ?_)|((with_reducible refine hJ' _ _ ?_ ?_);(focus(simp;done));clear hJ hJ' J)|((with_reducible apply Q0e);rfl;rfl;all_goals(intro hc;first|(cases hc;done)|(try simp only at hc)))|((with_reducible refine Q0v ?_ ?_);kernel_rfl;(with_reducible refine hR _ ?_);clear hR R)|((first|((with_reducible apply Q1j);rfl;rfl;((apply Q0u (tf1);rfl;rfl;rfl;rfl;exact Tryz.func28);kernel_rfl;rfl;(focus((simp(disch:=omega) only[go_sem,W]);(try rfl);done));(first|rfl)))|((with_reducible apply Q0t);rfl;rfl;(simp(disch:=omega) only[rdE,rdOf,go_sem,W];rfl);(intro τ hA hQ hN;((try simp only[Q1e,Op.operands,Call.operands,go_sem,W,go_sem,List.mem_cons,List.not_mem_nil,forall_eq_or_imp,forall_eq,List.append_toArray,Option.toArray] at hA);(try simp only[go_sem,W,List.mem_cons,List.not_mem_nil,forall_eq_or_imp,forall_eq] at hQ hN);(first|(revert hA;intro hA));(first|(revert hQ;intro hQ));(first|(revert hN;intro hN));simp(disch:=omega) only[go_sem,W,go_sem,hA,hQ,hN];(repeat(refine ndI (by first|assumption|omega|rfl) ?_));(first|apply Q1a))))|((with_reducible apply X1i);rfl;rfl;rfl;rfl;(focus(simp only[go_sem];try rfl));(first|omega);(first|omega);rfl;rfl;(focus(first|omega));(focus(first|omega));(focus(first|omega));rfl;(focus(first|omega));(focus rfl)));(simp(disch:=omega) only[St.eff,setO,Q0w,go_sem,W]))|((with_reducible refine Q0r ?_ ?_ ?_ ?_);kernel_rfl;kernel_rfl;(first|kernel_rfl);intro R hR)))))
      all_goals refine hJ1 _ (St.toX.bind (St.toX.cut (d:=4) rfl (by simp)) ?_)
      rintro τ ⟨k,h1,h2,rfl⟩
      exact St.toX.of (St.to.trans (St.to.of_le (τ:=stFr 30 ks c.ph (out++ty) k true (i+1)) (St.le_of (by simp[leT]) (by simp[leH,hget,raS]))) (stFr_rn ks c.ph _ k true _)) ⟨k,by rw[List.length_append];exact h1,h2,rfl⟩
   |some kx=>
    obtain⟨k,ex⟩:=kx
    dsimp only at ho ⊢
    obtain⟨ho1,ho2,ho3⟩:=ho
    have hTn:T y=[]:=hm2 i y ho1 hlt hy
    have tf2:Fn Tryz.prog 28 [evs false y.tr] [] (.c (.sl false 5 0 [])) []:=by rw[hTn] at tf1;exact tf1
    rw[hTn,List.append_nil] at os
    have hJ1:∀σ':St,σ'.to (stFb ks c.ph (outT T c.ph (i+1)) (outT T c.ph (i+1)).length false (i+1))→J .normal σ':=fun σ' h=>hJ σ' (.of h ⟨⟨(i+1,some (_,false)),hlt,by dsimp only;omega,Nat.le_refl _,by have:=hol (i+1);unfold maxLen;omega⟩,by dsimp only;omega,rfl⟩)
    rw[os] at hJ1
    generalize outT T c.ph i=out at hn hJ1 ho2 ⊢
    have k4:(raS out).length=out.length*5:=Q6u out
    have k9:∀r,AV.refsL r (raS out)=false:=fun r=>Q0l r _
    clear hol hq tf tf1 hT hto os
    (have W:=ndI k1 (ndI k2 (ndI k4 (ndI k7 (ndI k9 @wrI))));(repeat(any_goals(first|((with_reducible refine Q0b ?_ ?_);rfl;intro K hK;simp(disch:=omega) only[go_sem,W];((repeat(refine ndI (by first|assumption|omega|rfl) ?_));refine hK _ ?_;clear hK K))|(with_reducible first|(refine Q0c ?_;refine hR _ ?_;clear hR R)|((first|refine Q0d ?_|refine Q0f ?_);intro J hJ hJ')|(refine Q0a ?_;intro R hR)|(refine hJ _ ?_;clear hJ hJ' J)|refine Q0g ?_)|((with_reducible refine hJ' _ _ ?_ ?_);(focus(simp;done));clear hJ hJ' J)|((with_reducible apply Q0e);rfl;rfl;all_goals(intro hc;first|(cases hc;done)|(try simp only at hc)))|((with_reducible refine Q0v ?_ ?_);kernel_rfl;(with_reducible refine hR _ ?_);clear hR R)|((first|((with_reducible apply Q1j);rfl;rfl;((apply Q0u (tf2);rfl;rfl;rfl;rfl;exact Tryz.func28);kernel_rfl;rfl;(focus((simp(disch:=omega) only[go_sem,W]);(try rfl);done));(first|rfl)))|((with_reducible apply Q0t);rfl;rfl;(simp(disch:=omega) only[rdE,rdOf,go_sem,W];rfl);(intro τ hA hQ hN;((try simp only[Q1e,Op.operands,Call.operands,go_sem,W,go_sem,List.mem_cons,List.not_mem_nil,forall_eq_or_imp,forall_eq,List.append_toArray,Option.toArray] at hA);(try simp only[go_sem,W,List.mem_cons,List.not_mem_nil,forall_eq_or_imp,forall_eq] at hQ hN);(first|(revert hA;intro hA));(first|(revert hQ;intro hQ));(first|(revert hN;intro hN));simp(disch:=omega) only[go_sem,W,go_sem,hA,hQ,hN];(repeat(refine ndI (by first|assumption|rfl) ?_));(first|apply Q1a))))|((first|((with_reducible apply Q3j);rfl));apply X2y;rfl;rfl;rfl;rfl;rfl;(focus(simp only[go_sem];try rfl));rfl;rfl;rfl;rfl;(intro h;first|rfl);(first|omega))|((with_reducible apply Q6z);rfl;rfl;rfl;rfl;(focus(simp only[go_sem];try rfl));(first|omega);rfl;rfl));(simp(disch:=omega) only[St.eff,setO,Q0w,go_sem,W]))|((with_reducible refine Q0r ?_ ?_ ?_ ?_);kernel_rfl;kernel_rfl;(simp[Q1m,Q4o,St.free,Q1w,AV.refsL,AV.refs,k9]);intro R hR)))))
    all_goals exact hJ1 _ (St.to.of_le (St.le_of (by simp[leT]) (by simp[leH,hget])))
 · cases o with
   |none=>
    dsimp only at ho
    omega
   |some kx=>
    obtain⟨k,ex⟩:=kx
    dsimp only at ho ⊢
    obtain⟨ho1,ho2,ho3⟩:=ho
    have k1:(decide ((i:Int)<(c.ph.length:Int)))=false:=by simpa using hge
    have eL:outT T c.ph i=c.ph.flatMap T:=by unfold outT;rw[List.take_of_length_le hge]
    rw[eL] at ho2 hn ⊢
    have oL:∀s∈c.ph.flatMap T,s.ok:=fun s hs=>by
     obtain⟨p,hp,h⟩:=List.mem_flatMap.1 hs
     exact hto p hp s h
    generalize c.ph.flatMap T=L at ho2 hn oL hres ⊢
    have oK:∀s∈Q3r q L,s.ok:=fun s hs=>oL s (List.mem_filter.1 hs).1
    have lK:(Q3r q L).length≤L.length:=X6b q L
    have de:=delSc_fn k ex L ho2 ho3 q ks hn Tryz.func45 (by kernel_rfl) rfl (fun s hs=>hq s (oL s hs))
    generalize hK:Q3r q L=K at de oK lK hres
    obtain⟨s,hp,hs,so⟩:=sortSc_fn K (by omega) oK
    have so:=so k ex
    have hlen:=hp.length_eq
    have os:∀x∈s,x.ok:=fun x hx=>oK x (hp.mem_iff.1 hx)
    have e:canS K=ddS s s.length:=(X0t oK (Z0i s hs os _ (Nat.le_refl _)) fun x=>by rw[X0o s _ (Nat.le_refl _),List.take_length];exact hp.mem_iff).symm
    have e2:ddS s s.length=res:=by rw[←e];exact hres
    have co:Fn Tryz.prog 49 [.cut 1000 37 5 0 s.length k ex] [(1000,raS s)] (.cut 1000 37 5 0 (ddS s s.length).length k ex) [(1000,raS (ddS s s.length))]:=
     (X6t k ex s (by omega) ho3 (by omega) os).weaken (AV.le_refl _) (leHp (ds:=rcS (List.replicate (s.length-(ddS s s.length).length) ⟨0,0⟩)) (by rw[Q6b];simp[hget];rfl))
    rw[e2,hlen] at co
    clear hol hq tf hT hto e hs hp os eL e2 hres
    (repeat(any_goals(first|((with_reducible refine Q0n ?_ ?_ ?_);rfl;rfl;intro K hK;(first|(apply Q1i (de) (fun r=>if r=1000 then 500 else if r=1001 then 3 else r);rfl;rfl;rfl;rfl;exact Tryz.func44;kernel_rfl;rfl;rfl;(intro r hr q hq h;simp only[List.map_cons,List.map_nil,List.cons_append,List.nil_append,List.mem_cons,List.not_mem_nil,or_false] at hr hq;(try dsimp only at h);first|(rcases hr with rfl|rfl|rfl<;>rcases hq with rfl|rfl|rfl<;>simp at h ⊢));(simp only[Q1f,Q2g,AV.ren,AV.renL,Q0s,List.mem_cons,List.not_mem_nil,forall_eq_or_imp,forall_eq,Q2b,List.contains_cons,List.contains_nil,AV.refsL,AV.refs,Q0l,AV.inN,AV.inNL,inH,Q1b,go_sem,k1]))|(apply Q1i (so) (fun r=>500);rfl;rfl;rfl;rfl;exact Tryz.func47;kernel_rfl;rfl;rfl;(intro r hr q hq h;simp only[List.map_cons,List.map_nil,List.cons_append,List.nil_append,List.mem_cons,List.not_mem_nil,or_false] at hr hq;(try dsimp only at h);first|omega);(simp only[Q1f,Q2g,AV.ren,AV.renL,Q0s,List.mem_cons,List.not_mem_nil,forall_eq_or_imp,forall_eq,Q2b,List.contains_cons,List.contains_nil,AV.refsL,AV.refs,Q0l,AV.inN,AV.inNL,inH,Q1b,go_sem,k1])));(simp only[Q0w,Q1y,renH,AV.ren,AV.renL,Q0s,go_sem,k1];refine hK _ ?_;clear hK K))|((with_reducible refine Q0b ?_ ?_);rfl;intro K hK;simp only[go_sem,k1];((repeat(refine ndI (by first|assumption) ?_));refine hK _ ?_;clear hK K))|(with_reducible first|(refine Q0c ?_;refine hR _ ?_;clear hR R)|((first|refine Q0d ?_);intro J hJ hJ')|(refine Q0a ?_;intro R hR)|(refine hJ _ ?_;clear hJ hJ' J)|refine Q0o ?_)|((with_reducible refine hJ' _ _ ?_ ?_);(focus(simp;done));clear hJ hJ' J)|((with_reducible apply Q0e);rfl;rfl;all_goals(intro hc;first|(cases hc;done)|(try simp only at hc))))))
    (first|((with_reducible refine Q0n ?_ ?_ ?_);rfl;rfl;intro K hK;(apply Q1i (co) (fun r=>500);rfl;rfl;rfl;rfl;exact Tryz.func49;kernel_rfl;rfl;rfl;(intro r hr q hq h;simp only[List.map_cons,List.map_nil,List.cons_append,List.nil_append,List.mem_cons,List.not_mem_nil,or_false] at hr hq;(try dsimp only at h);first|omega);(simp only[Q1f,Q2g,AV.ren,AV.renL,Q0s,List.mem_cons,List.not_mem_nil,forall_eq_or_imp,forall_eq,Q2b,List.contains_cons,List.contains_nil,AV.refsL,AV.refs,Q0l,AV.inN,AV.inNL,inH,Q1b,go_sem]));(simp only[Q0w,Q1y,renH,AV.ren,AV.renL,Q0s,go_sem];refine hK _ ?_;clear hK K)))
    refine Z0c rfl (St.to.frz 500 (pcs:=res.flatMap Sp.pv) rfl) ?_
    have f1:(res.flatMap Sp.pv).length=res.length*5:=Q0p Q4y _
    have f2:(res.flatMap Sp.pv).take (res.length*5)=res.flatMap Sp.pv:=List.take_of_length_le (by omega)
    simp only[St.frz,AV.frz,AV.frzL,frzH,if_true,eq_self,↓reduceIte,Nat.zero_add,Nat.zero_mul,List.drop_zero,f1,f2,Nat.le_refl,Nat.reduceEqDiff,if_false]
    (repeat(any_goals(first|((with_reducible refine Q0b ?_ ?_);rfl;intro K hK;simp only[go_sem];((repeat(refine ndI (by first|assumption) ?_));refine hK _ ?_;clear hK K))|(with_reducible first|(refine Q0c ?_;refine hR _ ?_;clear hR R)|(refine hJ _ ?_;clear hJ hJ' J)|refine Q0j ?_))))
    all_goals(refine⟨by simp,⟨_,?_,AV.le_refl _⟩,Q0h (by simp[leH,hget])⟩;simp only[Tryz.results13,resL,ldA,Q0q,go_sem])
def Q4v(c:Cs):List Sp:=if Q4b c=true then canS (Q3r (fun s=>Q2o c s c.snd) (c.ph.flatMap fun p=>canS (Q4l [2,3] p.tr))) else[]
theorem canS_len(l:List Sp):(canS l).length≤l.length:=by
 unfold canS
 exact Nat.le_trans (Z0j _ _) (Nat.le_of_eq (List.length_mergeSort l))
theorem X2f(c:Cs)(hc:c.ok):Fn Tryz.prog 13 [csA c] [] (spl5 false (Q4v c)) []:=by
 unfold Q4v
 cases hr:Q4b c with
 |false=>
  have h:=X4e c hc hr
  change Fn _ _ [.agg [vi .u64 c.snd,phs false c.ph,asl false c.cd]] _ _ _ at h
  rw[if_neg (by simp)]
  clear hr hc
  (refine Q0z Tryz.func13 rfl (by rfl) ?_;simp only[Tryz.ntmps13,List.length_cons,List.length_nil,Nat.reduceAdd,Nat.reduceSub,List.replicate,List.cons_append,List.nil_append])
  (repeat(any_goals(first|((with_reducible refine Q3p ?_ ?_);rfl;intro K hK;(first|(apply X9p;rfl;rfl;kernel_rfl;rfl));(simp only[go_sem];refine hK _ ?_;clear hK K))|((with_reducible refine Q0n ?_ ?_ ?_);rfl;rfl;intro K hK;((apply Q0k (h);rfl;rfl;rfl;rfl;exact Tryz.func43);kernel_rfl;rfl;(focus((simp only[go_sem]);(try rfl);done));(first|rfl));(simp only[go_sem];refine hK _ ?_;clear hK K))|((with_reducible refine Q0b ?_ ?_);rfl;intro K hK;simp only[go_sem];((repeat(refine ndI (by first|assumption) ?_));refine hK _ ?_;clear hK K))|(with_reducible first|(refine Q0c ?_;refine hR _ ?_;clear hR R)|((first|refine Q0d ?_);intro J hJ hJ')|(refine Q0a ?_;intro R hR)|(refine hJ _ ?_;clear hJ hJ' J)|refine Q0j ?_)|((with_reducible refine hJ' _ _ ?_ ?_);(focus(simp;done));clear hJ hJ' J)|((with_reducible apply Q0e);rfl;rfl;all_goals(intro hc;first|(cases hc;done)|(try simp only at hc))))))
  all_goals exact⟨by simp,⟨_,rfl,AV.le_nil false 5⟩,Q0h (by simp[leH,hget])⟩
 |true=>
  rw[if_pos rfl]
  exact X8d c [.sl false 1 c.cd.length (c.cd.flatMap apv),.v (.bool (ofM c)),.v (.bool (ofF c))] (fun p=>canS (Q4l [2,3] p.tr)) hc.2.1.1
   (fun p hp=>by have h1:=canS_len (Q4l [2,3] p.tr);have h2:=X4w [2,3] p.tr;have h3:=(hc.2.1.2 p hp).2.1;omega)
   (fun p hp s hs=>by
     have ho:=Q5l (hc.2.1.2 p hp).2.2 [2,3]
     exact ho s (((Q5k _ ho).2 s).1 hs))
   (fun p hp=>Z0z false p.tr (hc.2.1.2 p hp).2.1 (hc.2.1.2 p hp).2.2) (Q9l c hc hr) _ fun s hs=>for1_fn c hc (ofM c) (ofF c) s hs
end
section
open Go.RowKit
open Nat (reduceBEq)
attribute [-go_sem] IntKind.bits
set_option maxRecDepth 20000
set_option maxHeartbeats 4000000
abbrev raE(l:List Ev):List AV:=(l.flatMap Ev.pv).map .c
theorem Q9x(l:List Ev):(raE l).length=l.length*14:=by rw[List.length_map,Q0p X0i]
theorem cloneE_fn(ex:Bool)(l:List Ev)(hl:l.length≤1000000):Fn Tryz.prog 37 [evs ex l] [] (.row 7 58 14 l.length) [(7,raE l)]:=by
 have e1:=Q9x l
 (refine Q0z Tryz.func37 rfl (by rfl) ?_;simp only[Tryz.ntmps37,List.length_cons,List.length_nil,Nat.reduceAdd,Nat.reduceSub,List.replicate,List.cons_append,List.nil_append])
 (repeat(any_goals(first|((have hz0:=hb0 hc);(with_reducible refine Q3p ?_ ?_);rfl;intro K hK;refine OpA.nilrow_after 2 7 58 14 (Q3t ?_);(simp(disch:=omega) only[go_sem,e1,Q0l]);(repeat(refine And.intro (by first|assumption|rfl) ?_));refine hK _ ?_;clear hK K;clear hb0)|((with_reducible refine Q0b ?_ ?_);rfl;intro K hK;simp(disch:=omega) only[go_sem,e1,Q0l];((repeat(refine ndI (by first|assumption|omega|rfl) ?_));refine hK _ ?_;clear hK K))|((with_reducible refine Q0b ?_ ?_);rfl;intro K hK;refine X0j rfl rfl (by first|exact .inl rfl) ?_ rfl ?_;(focus(simp(disch:=omega) only[go_sem];try rfl));(intro b hb0;simp(disch:=omega) only[eq_self,go_sem,e1,Q0l];(with_reducible refine hK _ ?_);clear hK K))|(with_reducible first|(refine Q0c ?_;refine hR _ ?_;clear hR R)|((first|refine Q0d ?_);intro J hJ hJ')|(refine Q0a ?_;intro R hR)|(refine hJ _ ?_;clear hJ hJ' J)|refine Q0g ?_|refine Q0j ?_)|((with_reducible refine hJ' _ _ ?_ ?_);(focus(simp;done));clear hJ hJ' J)|((with_reducible apply Q0e);rfl;rfl;all_goals(intro hc;first|(try simp only at hc))))))
 all_goals(try(obtain rfl:=List.eq_nil_of_length_eq_zero hz0))
 all_goals exact⟨by simp,⟨_,rfl,AV.le_refl _⟩,Q0h (by simp[leH,hget])⟩
theorem Z2f(ex:Bool)(l:List Nat)(hl:l.length≤1000000):Fn Tryz.prog 38 [bsl ex l] [] (.row 7 5 1 l.length) [(7,(l.flatMap bpv).map .c)]:=by
 have e1:((l.flatMap bpv).map AV.c).length=l.length*1:=by rw[List.length_map,Q0p Q3c]
 (refine Q0z Tryz.func38 rfl (by rfl) ?_;simp only[Tryz.ntmps38,List.length_cons,List.length_nil,Nat.reduceAdd,Nat.reduceSub,List.replicate,List.cons_append,List.nil_append])
 (repeat(any_goals(first|((have hz0:=hb0 hc);(with_reducible refine Q3p ?_ ?_);rfl;intro K hK;refine OpA.nilrow_after 2 7 5 1 (Q3t ?_);(simp(disch:=omega) only[go_sem,e1,Q0l]);(repeat(refine And.intro (by first|assumption|rfl) ?_));refine hK _ ?_;clear hK K;clear hb0)|((with_reducible refine Q0b ?_ ?_);rfl;intro K hK;simp(disch:=omega) only[go_sem,e1,Q0l];((repeat(refine ndI (by first|assumption|omega|rfl) ?_));refine hK _ ?_;clear hK K))|((with_reducible refine Q0b ?_ ?_);rfl;intro K hK;refine X0j rfl rfl (by first|exact .inl rfl) ?_ rfl ?_;(focus(simp(disch:=omega) only[go_sem];try rfl));(intro b hb0;simp(disch:=omega) only[eq_self,go_sem,e1,Q0l];(with_reducible refine hK _ ?_);clear hK K))|(with_reducible first|(refine Q0c ?_;refine hR _ ?_;clear hR R)|((first|refine Q0d ?_);intro J hJ hJ')|(refine Q0a ?_;intro R hR)|(refine hJ _ ?_;clear hJ hJ' J)|refine Q0g ?_|refine Q0j ?_)|((with_reducible refine hJ' _ _ ?_ ?_);(focus(simp;done));clear hJ hJ' J)|((with_reducible apply Q0e);rfl;rfl;all_goals(intro hc;first|(try simp only at hc))))))
 all_goals(try(obtain rfl:=List.eq_nil_of_length_eq_zero hz0))
 all_goals exact⟨by simp,⟨_,rfl,AV.le_refl _⟩,Q0h (by simp[leH,hget])⟩
theorem Z2e(ex:Bool)(l:List Nat)(hl:l.length≤1000000):Fn Tryz.prog 38 [bsl ex l] [] (bsl false l) []:=(Z2f ex l hl).frz (by rw[Q0p Q3c])
theorem X7r(A B:List Ev)(y:Ev):raE (A++y::B)=raE A++(c14 y.kind y.dep y.self y.to (y.op:Int) (l0 y.key) (l1 y.key) (l2 y.key) (l3 y.key) (l0 y.val) (l1 y.val) (l2 y.val) (l3 y.val) (bsl false y.data)++raE B):=by simp[raE,Ev.pv]
def Ev.with(e:Ev)(d:List Nat):Ev:={e with data:=d}
theorem ecell{A B:List Ev}{y:Ev}{k:Nat}(hA:A.length=k):(raE (A++y::B))[k*14+13]? = some (bsl false y.data):=by
 have hl:=Q9x A
 rw[hA] at hl
 rw[X7r]
 rw[List.getElem?_append_right (by omega),hl,show k*14+13-k*14=13 by omega];rfl
theorem spl_data{A B:List Ev}{y:Ev}{k:Nat}(hA:A.length=k)(d:List Nat):spl (raE (A++y::B)) (k*14+13) [bsl false d]=raE (A++y.with d::B):=by
 have hl:=Q9x A
 rw[hA] at hl
 rw[X7r,X7r]
 generalize raE A=X at hl
 unfold spl
 rw[List.take_append,List.drop_append]
 simp[hl,Ev.with,List.take_of_length_le,show k*14+13-k*14=13 by omega,show k*14+13+1-k*14=14 by omega,show X.length≤k*14+13 by omega,List.drop_eq_nil_of_le,show k*14≤k*14+13+1 by omega]
def cutE(e:Ev):Ev:=e.with (e.data.take 80)
def cutP(p:Ph):Ph:={p with tr:=(p.tr.take 60).map cutE}
def cutC(c:Cs):Cs:=⟨c.snd,(c.ph.take 4).map cutP,c.cd.take 60⟩
def Ev.raw(e:Ev):Prop:=e.key<WW∧e.val<WW∧e.data.length≤maxLen∧(∀b∈e.data,b<256)∧U e.self∧U e.to
def Ph.raw(p:Ph):Prop:=U p.who∧p.tr.length≤maxLen∧∀e∈p.tr,e.raw
def Cs.raw(c:Cs):Prop:=U c.snd∧(c.ph.length≤maxLen∧∀p∈c.ph,p.raw)∧c.cd.length≤maxLen∧∀a∈c.cd,U a
theorem cutC_ok{c:Cs}(h:c.raw):(cutC c).ok:=by
 obtain⟨h1,⟨h2,h3⟩,h4,h5⟩:=h
 refine⟨h1,⟨?_,fun p hp=>?_⟩,?_,fun a ha=>h5 a (List.mem_of_mem_take ha)⟩
 · show((c.ph.take 4).map cutP).length≤1000
   rw[List.length_map,List.length_take];omega
 · obtain⟨q,hq,rfl⟩:=List.mem_map.1 hp
   obtain⟨u1,u2,u3⟩:=h3 q (List.mem_of_mem_take hq)
   refine⟨u1,?_,fun e he=>?_⟩
   · show((q.tr.take 60).map cutE).length≤1000
     rw[List.length_map,List.length_take];omega
   · obtain⟨f,hf,rfl⟩:=List.mem_map.1 he
     obtain⟨v1,v2,v3,v4,v5,v6⟩:=u3 f (List.mem_of_mem_take hf)
     refine⟨v1,v2,?_,fun b hb=>v4 b (List.mem_of_mem_take hb),v5,v6⟩
     show(f.data.take 80).length≤1000
     rw[List.length_take];omega
 · show(c.cd.take 60).length≤1000
   rw[List.length_take];omega
theorem X4d(c:Cs):(cutC c).ph.length≤4:=by
 show((c.ph.take 4).map cutP).length≤4
 rw[List.length_map,List.length_take];omega
abbrev raP(l:List Ph):List AV:=(l.flatMap Ph.pv).map .c
abbrev phR(p:Ph):List AV:=[vi .i64 p.role,vi .u64 p.who,vb p.stk,.row 700 58 14 p.tr.length]
def Q1x:Nat→List Ph→List AV
 |_,[]=>[]
 |0,p::l=>phR p++raP l
 |k+1,p::l=>p.pv.map .c++Q1x k l
def Q3q(k:Nat)(l:List Ph):List AV:=match l[k]? with|some p=>raE p.tr|none=>[]
theorem X2j:∀(k:Nat) (l:List Ph),(Q1x k l).length=l.length*4
 |_,[]=>by unfold Q1x;rfl
 |0,p::l=>by
  unfold Q1x
  rw[List.length_append,List.length_map,Q0p X1w,List.length_cons]
  simp only[List.length_cons,List.length_nil]
  omega
 |k+1,p::l=>by
  unfold Q1x
  rw[List.length_append,List.length_map,X1w,X2j k l,List.length_cons]
  omega
theorem X0r:∀(k:Nat) (l:List Ph) (p:Ph),Q1x k (l++[p])=Q1x k l++if l.length=k then phR p else p.pv.map .c
 |0,[],p=>by simp[Q1x]
 |k+1,[],p=>by simp[Q1x]
 |0,q::l,p=>by simp[Q1x,raP]
 |k+1,q::l,p=>by
  have h:=X0r k l p
  simp only[List.cons_append,Q1x,h,List.append_assoc,List.length_cons,Nat.add_right_cancel_iff]
theorem X0s:∀(k:Nat) (l:List Ph),l.length≤k→Q1x k l=raP l
 |_,[],_=>by simp[Q1x]
 |0,p::l,h=>absurd h (by simp)
 |k+1,p::l,h=>by
  have h:=X0s k l (by simpa using h)
  simp[Q1x,h,raP]
theorem Q7d:∀(k:Nat) (l:List Ph) (d:Nat),d≠700→AV.refsL d (Q1x k l)=false
 |_,[],d,_=>by simp[Q1x,AV.refsL]
 |0,p::l,d,h=>by simp[Q1x,AV.refsL,AV.refs,Ne.symm h]
 |k+1,p::l,d,h=>by simp[Q1x,Q7d k l d h]
theorem X2i:∀(k:Nat) (l:List Ph) (ρ : Nat→Nat),ρ 700=700→AV.renL ρ (Q1x k l)=Q1x k l
 |_,[],ρ,_=>by simp[Q1x,AV.renL]
 |0,p::l,ρ,h=>by simp[Q1x,AV.renL,AV.ren,h]
 |k+1,p::l,ρ,h=>by
  simp only[Q1x]
  rw[X2u,Q0s,X2i k l ρ h]
theorem X3m(N:List Nat)(l r:List AV):AV.inNL N (l++r)=(AV.inNL N l&&AV.inNL N r):=by
 induction l with
 |nil=>simp[AV.inNL]
 |cons x l ih=>simp[AV.inNL,ih,Bool.and_assoc]
theorem X6w:∀(k:Nat) (l:List Ph) (N:List Nat),N.contains 700=true→AV.inNL N (Q1x k l)=true
 |_,[],N,_=>by simp[Q1x,AV.inNL]
 |0,p::l,N,h=>by simp[Q1x,AV.inNL,AV.inN,h];simpa using h
 |k+1,p::l,N,h=>by
  simp only[Q1x]
  rw[X3m,Q1b,X6w k l N h]
  rfl
end
section
open Go.RowKit
open Nat (reduceBEq)
attribute [-go_sem] IntKind.bits
set_option maxRecDepth 20000
set_option maxHeartbeats 4000000
abbrev phT:Nat:=54
abbrev evT:Nat:=58
abbrev zC:List AV:=[vi .u64 0,nilA,nilA]
abbrev stU(s:Int)(M:List Ph)(r rc:Nat)(m:Nat)(cd cs X:List AV)(n i:Nat):St:=⟨[.any,.any,.ptr 2 0,.ptr 3 0,.any,.any,.any,.any,.any,.any,.any,.any,.any,.any,.any,.any,.any,.any,.any,.any,.any,.any,.any,.any,phs false M,vi .i64 M.length,vi .i64 i,.any,.any,.any,.any,.any,.any,.any,.any,.any,.any,.any,.any,.any,.any,.any,.any,.any,.any,.any,.any,.any,.any,.any,.any,.any,.any,.any,.any,.any,.any,.any,.any,.any,.any,.any,.any,.any,.any,.any,.any,.any,.any,.any,.any,.any,.any,.any,.any],[(2,zC),(3,[vi .u64 s,.row r phT 4 n,.row rc 23 1 m]),(r,cs),(rc,cd),(700,X)]⟩
abbrev X6k(s:Int)(M:List Ph)(m:Nat)(cd cs:List AV)(y:Ph)(i n:Nat)(tc:AV)(j:Nat)(X E:List AV):St:=⟨[.any,.any,.ptr 2 0,.ptr 3 0,.any,.ptr 5 0,.any,.any,.any,.any,.any,.any,.any,.any,.any,.any,.any,.any,.any,.any,.any,.any,.any,.any,phs false M,vi .i64 M.length,vi .i64 i,.any,.any,.any,.any,.any,.any,.any,.any,.any,.any,.any,.any,.any,.any,vi .i64 n,vi .i64 j,.any,.any,.any,.any,.any,.any,.any,.any,.any,.any,.any,.any,.any,.any,.any,.any,.any,.any,.any,.any,.any,.any,.any,.any,.any,.any,.any,.any,.any,.any,.any,.any],[(2,zC),(3,[vi .u64 s,.row 600 phT 4 i,.row 601 23 1 m]),(5,[vi .i64 y.role,vi .u64 y.who,vb y.stk,tc]),(600,cs),(601,cd),(700,X),(37,E)]⟩
abbrev X3u(s:Int)(M:List Ph)(m:Nat)(cd cs:List AV)(y:Ph)(i n:Nat)(tc:AV)(j:Nat)(r:Nat)(E:List AV):St:=⟨[.any,.any,.ptr 2 0,.ptr 3 0,.any,.ptr 5 0,.any,.any,.any,.any,.any,.any,.any,.any,.any,.any,.any,.any,.any,.any,.any,.any,.any,.any,phs false M,vi .i64 M.length,vi .i64 i,.any,.any,.any,.any,.any,.any,.any,.any,.any,.any,.any,.any,.any,.any,vi .i64 n,vi .i64 j,.any,.any,.any,.any,.any,.any,.any,.any,.any,.any,.any,.any,.any,.any,.any,.any,.any,.any,.any,.any,.any,.any,.any,.any,.any,.any,.any,.any,.any,.any,.any,.any],[(2,zC),(3,[vi .u64 s,.row 600 phT 4 i,.row 601 23 1 m]),(5,[vi .i64 y.role,vi .u64 y.who,vb y.stk,tc]),(600,cs),(601,cd),(r,E)]⟩
theorem few_frz(s:Int)(M:List Ph)(m:Nat)(cd cs:List AV)(y:Ph)(i:Nat)(N:List Ev)(X:List AV)(h1:AV.frzL 37 (N.flatMap Ev.pv) cd=cd)(h2:AV.frzL 37 (N.flatMap Ev.pv) cs=cs)(h3:AV.frzL 37 (N.flatMap Ev.pv) X=X):(X6k s M m cd cs y i N.length (.row 37 evT 14 N.length) N.length X (raE N)).to (X3u s M m cd cs y i N.length (evs false N) N.length 700 X):=by
 have h:=St.to.frz (σ:=X6k s M m cd cs y i N.length (.row 37 evT 14 N.length) N.length X (raE N)) 37 (pcs:=N.flatMap Ev.pv) rfl
 have e:((X6k s M m cd cs y i N.length (.row 37 evT 14 N.length) N.length X (raE N)).frz 37 (N.flatMap Ev.pv))=X3u s M m cd cs y i N.length (evs false N) N.length 700 X:=by
  simp[St.frz,AV.frz,AV.frzL,frzH,Q0p X0i,h1,h2,h3]
 rwa [e] at h
theorem few_rn(s:Int)(M:List Ph)(m:Nat)(cd cs:List AV)(y:Ph)(i n:Nat)(X E:List AV)(h1:∀ρ,ρ 700=700→AV.renL ρ cs=cs)(h2:∀ρ,AV.renL ρ cd=cd)(h3:∀ρ,AV.renL ρ E=E)(g2:∀N,AV.inNL N cd=true)(g3:∀N,AV.inNL N E=true)(gi:∀N,AV.inNL N cs=true):(X6k s M m cd cs y i n (.row 37 evT 14 n) n X E).to (X3u s M m cd cs y i n (.row 700 evT 14 n) n 700 E):=by
 refine St.to.trans (St.to.of_le (τ:=X3u s M m cd cs y i n (.row 37 evT 14 n) n 37 E) (St.le_of (by simp[leT]) (by simp[leH,hget]))) ?_
 have h:=St.to.rn (σ:=X3u s M m cd cs y i n (.row 37 evT 14 n) n 37 E) (fun r=>if r=37 then 700 else r) (fun r=>if r=700 then 37 else r) [2,3,5,600,601,37] (by simp[AV.inNL,AV.inN]) (by simp) (by simp[inH,AV.inNL,AV.inN,Q1b,g2,g3,gi]) (by simp) (by simp)
 simp[AV.renL,AV.ren,renH,h1,h2,h3] at h
 exact h
theorem stU_rn(s:Int)(M:List Ph)(m:Nat)(cd cs X:List AV)(n i:Nat)(h1:∀ρ,ρ 700=700→AV.renL ρ cs=cs)(h2:∀ρ,AV.renL ρ cd=cd)(h3:∀ρ,AV.renL ρ X=X)(g1:∀N:List Nat,N.contains 700=true→AV.inNL N cs=true)(g2:∀N,AV.inNL N cd=true)(g3:∀N,AV.inNL N X=true):(stU s M 71 601 m cd cs X n i).to (stU s M 600 601 m cd cs X n i):=by
 have h:=St.to.rn (σ:=stU s M 71 601 m cd cs X n i) (fun r=>if r=71 then 600 else r) (fun r=>if r=600 then 71 else r) [2,3,71,601,700] (by simp[AV.inNL,AV.inN]) (by simp) (by simp[inH,AV.inNL,AV.inN,Q1b,g1,g2,g3]) (by simp) (by simp)
 simp[AV.renL,AV.ren,renH,h1,h2,h3] at h
 exact h
theorem X9s(n k:Nat):(if (k:Int)<(n:Int) then(k:Int) else(n:Int))=((min n k:Nat):Int):=by split<;>omega
theorem Q7g{α : Type}(l:List α)(k:Nat):l.take (min l.length k)=l.take k:=by
 rcases Nat.le_total l.length k with h|h
 · rw[Nat.min_eq_left h,List.take_length,List.take_of_length_le h]
 · rw[Nat.min_eq_right h]
theorem X0q(k:Nat)(l:List Ph)(d:Nat):AV.refsL d (Q3q k l)=false:=by
 unfold Q3q
 split
 · exact Q0l d _
 · rfl
theorem Z2g(k:Nat)(l:List Ph)(ρ : Nat→Nat):AV.renL ρ (Q3q k l)=Q3q k l:=by
 unfold Q3q
 split
 · exact Q0s ρ _
 · rfl
theorem cellsX_in(k:Nat)(l:List Ph)(N:List Nat):AV.inNL N (Q3q k l)=true:=by
 unfold Q3q
 split
 · exact Q1b N _
 · rfl
theorem Z2h(k:Nat)(l:List Ph)(pcs:List PV):AV.frzL 37 pcs (Q3q k l)=Q3q k l:=by
 unfold Q3q
 split
 · exact Q7v _ _ _
 · rfl
theorem frzL_app2(r:Nat)(pcs:List PV)(a b:List AV):AV.frzL r pcs (a++b)=AV.frzL r pcs a++AV.frzL r pcs b:=by
 induction a with
 |nil=>simp[AV.frzL]
 |cons x a ih=>simp[AV.frzL,ih]
theorem X2k:∀(k:Nat) (l:List Ph) (pcs:List PV),AV.frzL 37 pcs (Q1x k l)=Q1x k l
 |_,[],pcs=>by simp[Q1x,AV.frzL]
 |0,p::l,pcs=>by simp[Q1x,AV.frzL,AV.frz]
 |k+1,p::l,pcs=>by
  simp only[Q1x]
  rw[frzL_app2,Q7v,X2k k l pcs]
theorem few_fnK(k:Nat)(c:Cs)(hc:c.raw):Fn Tryz.prog 9 [csA c] [] (.agg [vi .u64 c.snd,.row 600 phT 4 (cutC c).ph.length,.row 601 23 1 (cutC c).cd.length]) [(600,Q1x k (cutC c).ph),(601,raA (cutC c).cd),(700,Q3q k (cutC c).ph)]:=by
 obtain⟨s,ph,cd⟩:=c
 obtain⟨hs,⟨hpl,hpo⟩,hcl,hco⟩:=hc
 dsimp only at hs hpl hpo hcl hco
 have p8:ph.length<9223372036854775808:=Nat.lt_succ_of_le hpl
 have c8:cd.length<9223372036854775808:=Nat.lt_succ_of_le hcl
 have c1:=X6v false (cd.take 60) (by rw[List.length_take];omega)
 have e1:(if (60:Int)<(cd.length:Int) then(60:Int) else(cd.length:Int))=((min cd.length 60:Nat):Int):=X9s cd.length 60
 have e2:(cd.flatMap apv).take (min cd.length 60*1)=(cd.take 60).flatMap apv:=by rw[Q4p Q3v,Q7g]
 have e3:(cd.take 60).length=min cd.length 60:=by rw[List.length_take,Nat.min_comm]
 have e4:(if (4:Int)<(ph.length:Int) then(4:Int) else(ph.length:Int))=((min ph.length 4:Nat):Int):=X9s ph.length 4
 have e5:(ph.flatMap Ph.pv).take (min ph.length 4*4)=(ph.take 4).flatMap Ph.pv:=by rw[Q4p X1w,Q7g]
 have e6:(ph.take 4).length=min ph.length 4:=by rw[List.length_take,Nat.min_comm]
 have hpo':∀p∈ph.take 4,p.raw:=fun p hp=>hpo p (List.mem_of_mem_take hp)
 show Fn Tryz.prog 9 [.agg [vi .u64 s,phs false ph,asl false cd]] [] (.agg [vi .u64 s,.row 600 phT 4 ((ph.take 4).map cutP).length,.row 601 23 1 (cd.take 60).length]) [(600,Q1x k ((ph.take 4).map cutP)),(601,raA (cd.take 60)),(700,Q3q k ((ph.take 4).map cutP))]
 have h4:(ph.take 4).length≤4:=by rw[List.length_take];omega
 rw[e3] at c1
 rw[←e3] at e1 e2 c1
 rw[Nat.mul_one] at e2
 rw[←e6] at e4 e5
 generalize cd.take 60=D at *
 generalize ph.take 4=M at *
 unfold rcA at c1
 have f1:∀d,AV.refsL d ((D.flatMap apv).map .c)=false:=fun d=>Q0l d _
 have f4:((D.flatMap apv).map AV.c).length=D.length:=by rw[List.length_map,Q0p Q3v,Nat.mul_one]
 rw[show(M.map cutP).length=M.length from List.length_map _]
 (refine Q0z Tryz.func9 rfl (by rfl) ?_;simp only[Tryz.ntmps9,List.length_cons,List.length_nil,Nat.reduceAdd,Nat.reduceSub,List.replicate,List.cons_append,List.nil_append])
 (repeat(any_goals(first|((with_reducible refine Q0b ?_ ?_);rfl;intro K hK;simp(disch:=omega) only[go_sem,e1,e2,Bool.false_and,Nat.mul_one];((repeat(refine ndI (by first|assumption|rfl) ?_));refine hK _ ?_;clear hK K))|(with_reducible first|(refine Q0c ?_;refine hR _ ?_;clear hR R)|((first|refine Q0d ?_);intro J hJ hJ')|(refine Q0a ?_;intro R hR)|(refine hJ _ ?_;clear hJ hJ' J))|((first|((with_reducible apply Q0t);rfl;rfl;(simp(disch:=omega) only[rdE,rdOf,go_sem,e1,e2,Bool.false_and,Nat.mul_one];rfl);(intro τ hA hQ hN;((try simp only[Q1e,Op.operands,Call.operands,go_sem,e1,e2,Bool.false_and,Nat.mul_one,go_sem,List.mem_cons,List.not_mem_nil,forall_eq_or_imp,forall_eq,List.append_toArray,Option.toArray] at hA);(try simp only[go_sem,e1,e2,Bool.false_and,Nat.mul_one,List.mem_cons,List.not_mem_nil,forall_eq_or_imp,forall_eq] at hQ hN);(first|(revert hA;intro hA));(first|(revert hQ;intro hQ));(first|(revert hN;intro hN));simp(disch:=omega) only[go_sem,e1,e2,Bool.false_and,Nat.mul_one,go_sem,hA,hQ,hN];(repeat(refine ndI (by first|assumption|omega|rfl) ?_));(first|apply Q1a)))));(simp(disch:=omega) only[St.eff,setO,Q0w,go_sem,e1,e2,Bool.false_and,Nat.mul_one]))|((with_reducible refine Q0r ?_ ?_ ?_ ?_);kernel_rfl;kernel_rfl;(first|kernel_rfl);intro R hR))))
 refine X6m c1 rfl rfl rfl rfl rfl Tryz.func36 (by kernel_rfl) rfl ?_ rfl (by omega) ?_
 · simp only[Q1f,Q2g,AV.ren,go_sem]
 simp only[St.eff,setO,Q0w,go_sem]
 (have W:=ndI e4 (ndI e5 (ndI f1 f4));(repeat(any_goals(first|((with_reducible refine Q0b ?_ ?_);rfl;intro K hK;simp(disch:=omega) only[go_sem,W,Bool.false_and];((repeat(refine ndI (by first|assumption|omega|rfl) ?_));refine hK _ ?_;clear hK K))|(with_reducible first|(refine Q0c ?_;refine hR _ ?_;clear hR R)|((first|refine Q0d ?_|refine Q0f ?_);intro J hJ hJ')|(refine Q0a ?_;intro R hR)|(refine hJ _ ?_;clear hJ hJ' J))|((with_reducible refine Q0v ?_ ?_);(apply Q2e);(focus(repeat(first|exact Sims.nil|((apply Sims.cons);(focus(first|((apply Ef.sim_row);assumption)|exact Ef.sim_refl _))))));kernel_rfl;(with_reducible refine hR _ ?_);clear hR R)|((first|((with_reducible apply Q0t);rfl;rfl;(simp(disch:=omega) only[rdE,rdOf,go_sem,W,Bool.false_and];rfl);(intro τ hA hQ hN;((try simp only[Q1e,Op.operands,Call.operands,go_sem,W,Bool.false_and,go_sem,List.mem_cons,List.not_mem_nil,forall_eq_or_imp,forall_eq,List.append_toArray,Option.toArray] at hA);(try simp only[go_sem,W,Bool.false_and,List.mem_cons,List.not_mem_nil,forall_eq_or_imp,forall_eq] at hQ hN);(first|(revert hA;intro hA));(first|(revert hQ;intro hQ));(first|(revert hN;intro hN));simp(disch:=omega) only[go_sem,W,Bool.false_and,go_sem,hA,hQ,hN];(repeat(refine ndI (by first|assumption|rfl) ?_));(first|apply Q1a|apply Q5h))))|((first|((with_reducible apply evD_new);rfl;rfl;rfl));(intro τ hA hQ hN;((try simp(disch:=omega) only[Q1e,Op.operands,Call.operands,go_sem,W,Bool.false_and,go_sem,List.mem_cons,List.not_mem_nil,forall_eq_or_imp,forall_eq,List.append_toArray,Option.toArray] at hA);(try simp(disch:=omega) only[go_sem,W,Bool.false_and,List.mem_cons,List.not_mem_nil,forall_eq_or_imp,forall_eq] at hQ);(first|(revert hA;intro hA));(first|(revert hQ;intro hQ));simp(disch:=omega) only[go_sem,W,Bool.false_and,go_sem,hA,hQ,hN];(repeat(refine ndI (by first|assumption|rfl) ?_));exact eff_nw _ _ _ _))));(simp(disch:=omega) only[St.eff,setO,Q0w,go_sem,W,Bool.false_and]))))))
 have snoc:∀{i:Nat} {y:Ph},M[i]? = some y→(M.take (i+1)).map cutP=(M.take i).map cutP++[cutP y]:=fun h=>by
  rw[List.take_add_one,h,List.map_append];rfl
 have tl:∀i,i≤M.length→((M.take i).map cutP).length=i:=fun i h=>by rw[List.length_map,List.length_take];omega
 refine Q3u M.length (fun i=>stU s M 600 601 D.length (raA D) (Q1x k ((M.take i).map cutP)) (Q3q k ((M.take i).map cutP)) i i) ?_ ?_
 · refine St.to.trans (St.to.nilcell 3 600 phT 4 1 (cs:=[vi .u64 s,nilA,.row 16 23 1 D.length]) (by simp[hget]) rfl (by simp[St.free,Q1w,AV.refsL,AV.refs]) (by decide) (by decide)) ?_
   refine St.to.trans (St.to.noname 700 evT (by simp[St.free,Q1w,hput,AV.refsL,AV.refs]) (by decide)) ?_
   refine St.to.trans (St.to.of_le (τ:=stU s M 600 16 D.length (raA D) [] [] 0 0) (St.le_of (by simp[leT]) (by simp[leH,hget,hput]))) ?_
   have h:=St.to.rn (σ:=stU s M 600 16 D.length (raA D) [] [] 0 0) (fun r=>if r=16 then 601 else r) (fun r=>if r=601 then 16 else r) [2,3,600,16,700] (by simp[AV.inNL,AV.inN]) (by simp) (by simp[inH,AV.inNL,AV.inN,Q1b]) (by simp) (by simp)
   have e0:Q3q k ([]:List Ph)=[]:=rfl
   have e9:Q1x k ([]:List Ph)=[]:=by unfold Q1x;rfl
   simp only[List.take_zero,List.map_nil,e0,e9]
   simp[AV.renL,AV.ren,renH] at h
   exact h
 intro i hi J hJ hJ'
 (try dsimp only at hJ ⊢)
 have k8:M.length<9223372036854775808:=by omega
 rcases Nat.lt_or_ge i M.length with hlt|hge
 · obtain⟨y,hy⟩:∃x,M[i]? = some x:=⟨_,List.getElem?_eq_getElem hlt⟩
   have k1:(decide ((i:Int)<(M.length:Int)))=true:=decide_eq_true (by omega)
   have k2:=X1e hy
   have k7:(i:Int)+1=((i+1:Nat):Int):=by omega
   have yo:=hpo' y (List.mem_of_getElem? hy)
   have y8:y.tr.length<9223372036854775808:=Nat.lt_succ_of_le yo.2.1
   have ce:=cloneE_fn false (y.tr.take 60) (by rw[List.length_take];omega)
   have g1:(if (60:Int)<(y.tr.length:Int) then(60:Int) else(y.tr.length:Int))=((min y.tr.length 60:Nat):Int):=X9s y.tr.length 60
   have g2:(y.tr.flatMap Ev.pv).take (min y.tr.length 60*14)=(y.tr.take 60).flatMap Ev.pv:=by rw[Q4p X0i,Q7g]
   have g3:(y.tr.take 60).length=min y.tr.length 60:=by rw[List.length_take,Nat.min_comm]
   have yo':∀e∈y.tr.take 60,e.raw:=fun e he=>yo.2.2 e (List.mem_of_mem_take he)
   have ey:cutP y={y with tr:=(y.tr.take 60).map cutE}:=rfl
   have sn:=snoc hy
   have tli:=tl i hi
   have ck:=X0r k ((M.take i).map cutP) (cutP y)
   rw[←sn,tli] at ck
   have cx:Q3q k ((M.take (i+1)).map cutP)=if i=k then raE ((y.tr.take 60).map cutE) else Q3q k ((M.take i).map cutP):=by
    rw[sn]
    unfold Q3q
    rcases Nat.lt_trichotomy k i with h|h|h
    · rw[if_neg (by omega),List.getElem?_append_left (by omega)]
    · rw[if_pos h.symm,List.getElem?_append_right (by omega),tli,h,Nat.sub_self];rfl
    · rw[if_neg (by omega),List.getElem?_eq_none (by rw[List.length_append,tli];simp;omega),List.getElem?_eq_none (by omega)]
   have cz:i=k→Q3q k ((M.take i).map cutP)=[]:=fun h=>by
    unfold Q3q
    rw[List.getElem?_eq_none (by omega)]
   have q1:=fun d h=>Q7d k ((M.take i).map cutP) d h
   have q2:=fun ρ h=>X2i k ((M.take i).map cutP) ρ h
   have q3:=fun N h=>X6w k ((M.take i).map cutP) N h
   have q5:=fun pcs=>X2k k ((M.take i).map cutP) pcs
   have q4:=X2j k ((M.take i).map cutP)
   rw[tli] at q4
   have x1:=fun d=>X0q k ((M.take i).map cutP) d
   have x2:=fun ρ=>Z2g k ((M.take i).map cutP) ρ
   have x4:=fun pcs=>Z2h k ((M.take i).map cutP) pcs
   have x3:=fun N=>cellsX_in k ((M.take i).map cutP) N
   have hP:i=k→∀N,AV.inNL N (Q1x k ((M.take i).map cutP))=true:=fun h N=>by
    rw[X0s _ _ (by omega)];exact Q1b N _
   rw[ck,cx] at hJ
   generalize Q1x k ((M.take i).map cutP)=cs at q1 q2 q3 q4 q5 hP hJ ck ⊢
   generalize Q3q k ((M.take i).map cutP)=X at x1 x2 x3 x4 cx cz hJ ⊢
   have hcp:cutP y=⟨y.role,y.who,y.stk,(y.tr.take 60).map cutE⟩:=rfl
   rw[hcp] at hJ
   rw[←g3] at g1 g2
   clear snoc sn ck cx hcp ey tl
   generalize y.tr.take 60=N at *
   have hJ0:=fun σ'=>hJ σ' (by omega)
   (have W:=ndI k1 (ndI k2 (ndI k7 (ndI g1 (ndI g2 (ndI q1 (ndI q2 (ndI q3 (ndI q4 (ndI x1 (ndI x2 x3))))))))));(repeat(any_goals(first|((with_reducible refine Q0n ?_ ?_ ?_);rfl;rfl;intro K hK;(apply Q1i (ce) (fun r=>37);rfl;rfl;rfl;rfl;exact Tryz.func37;kernel_rfl;rfl;rfl;(intro r hr q hq h;simp(disch:=omega) only[List.map_cons,List.map_nil,List.cons_append,List.nil_append,List.mem_cons,List.not_mem_nil,or_false] at hr hq;(try dsimp only at h);first|omega);(simp(disch:=omega) only[Q1f,Q2g,AV.ren,AV.renL,Q0s,List.mem_cons,List.not_mem_nil,forall_eq_or_imp,forall_eq,Q2b,List.contains_cons,List.contains_nil,AV.refsL,AV.refs,Q0l,AV.inN,AV.inNL,inH,Q1b,go_sem,W,Bool.false_and]));(simp(disch:=omega) only[Q0w,Q1y,renH,AV.ren,AV.renL,Q0s,go_sem,W,Bool.false_and];refine hK _ ?_;clear hK K))|((with_reducible refine Q0b ?_ ?_);rfl;intro K hK;simp(disch:=omega) only[go_sem,W,Bool.false_and];((repeat(refine ndI (by first|assumption|omega|rfl) ?_));refine hK _ ?_;clear hK K))|(with_reducible first|(refine Q0c ?_;refine hR _ ?_;clear hR R)|((first|refine Q0d ?_|refine Q0f ?_);intro J hJ hJ')|(refine Q0a ?_;intro R hR)|(refine hJ _ ?_;clear hJ hJ' J)|refine Q0g ?_)|((with_reducible apply Q0e);rfl;rfl;all_goals(intro hc;first|(cases hc;done)|(try simp only at hc)))))))
   refine Q3u N.length (fun j=>if j<N.length then X6k s M D.length (raA D) cs y i N.length (.row 37 evT 14 N.length) j X (raE ((N.take j).map cutE++N.drop j)) else if i=k then X3u s M D.length (raA D) cs y i N.length (.row 700 evT 14 N.length) j 700 (raE (N.map cutE)) else X3u s M D.length (raA D) cs y i N.length (evs false (N.map cutE)) j 700 X) ?_ ?_
   · have r0:∀ρ,AV.renL ρ (raA D)=raA D:=fun ρ=>Q0s ρ _
     by_cases h0:0<N.length
     · rw[if_pos h0]
       exact St.to.of_le (St.le_of (by simp[leT]) (by simp[leH,hget]))
     · obtain rfl:N=[]:=List.eq_nil_of_length_eq_zero (by omega)
       rw[if_neg h0]
       by_cases hik:i=k
       · rw[if_pos hik]
         exact St.to.trans (St.to.of_le (τ:=X6k s M D.length (raA D) cs y i 0 (.row 37 evT 14 0) 0 X (raE [])) (St.le_of (by simp[leT]) (by simp[leH,hget]))) (few_rn s M D.length (raA D) cs y i 0 X (raE []) q2 r0 (fun ρ=>Q0s ρ _) (fun N=>Q1b N _) (fun N=>Q1b N _) (hP hik))
       · rw[if_neg hik]
         exact St.to.trans (St.to.of_le (τ:=X6k s M D.length (raA D) cs y i 0 (.row 37 evT 14 0) 0 X (raE [])) (St.le_of (by simp[leT]) (by simp[leH,hget]))) (few_frz s M D.length (raA D) cs y i [] X (Q7v _ _ _) (q5 _) (x4 _))
   intro j hj J hJ hJ'
   (try dsimp only at hJ ⊢)
   have n8:N.length<9223372036854775808:=by omega
   have r0:∀ρ,AV.renL ρ (raA D)=raA D:=fun ρ=>Q0s ρ _
   rcases Nat.lt_or_ge j N.length with hjt|hje
   · obtain⟨e,he⟩:∃e,N[j]? = some e:=⟨N[j],List.getElem?_eq_getElem hjt⟩
     have c1:(decide ((j:Int)<(N.length:Int)))=true:=by simpa using hjt
     have c7:(j:Int)+1=((j+1:Nat):Int):=by omega
     rw[if_pos hjt]
     have hA:((N.take j).map cutE).length=j:=by rw[List.length_map,List.length_take];omega
     have d1:N.drop j=e::N.drop (j+1):=by
      rw[List.drop_eq_getElem_cons hjt]
      congr 1
      exact(List.getElem?_eq_some_iff.1 he).2
     have d2:(N.take (j+1)).map cutE++N.drop (j+1)=(N.take j).map cutE++(e.with (e.data.take 80))::N.drop (j+1):=by
      rw[List.take_add_one,he,List.map_append];simp[cutE]
     have eo:=yo' e (List.mem_of_getElem? he)
     have e8:e.data.length<9223372036854775808:=Nat.lt_succ_of_le eo.2.2.1
     have cb:=Z2e false (e.data.take 80) (by rw[List.length_take];omega)
     have m1:(if (80:Int)<(e.data.length:Int) then(80:Int) else(e.data.length:Int))=((min e.data.length 80:Nat):Int):=X9s e.data.length 80
     have m2:(e.data.flatMap bpv).take (min e.data.length 80)=(e.data.take 80).flatMap bpv:=by
      have:=Q4p (f:=bpv) Q3c e.data (min e.data.length 80)
      rw[Nat.mul_one] at this
      rw[this,Q7g]
     have m3:(e.data.take 80).length=min e.data.length 80:=by rw[List.length_take,Nat.min_comm]
     have fin:∀σ':St,σ'.to (X6k s M D.length (raA D) cs y i N.length (.row 37 evT 14 N.length) (j+1) X (raE ((N.take (j+1)).map cutE++N.drop (j+1))))→J .normal σ':=fun σ' h=>hJ σ' (by omega) (by
      by_cases hl:j+1<N.length
      · rw[if_pos hl];exact h
      · have ej:j+1=N.length:=by omega
        rw[if_neg hl]
        rw[ej,List.take_length,List.drop_length,List.append_nil] at h
        rw[ej]
        have lm:(N.map cutE).length=N.length:=List.length_map _
        by_cases hik:i=k
        · rw[if_pos hik]
          exact h.trans (few_rn s M D.length (raA D) cs y i N.length X (raE (N.map cutE)) q2 r0 (fun ρ=>Q0s ρ _) (fun N=>Q1b N _) (fun N=>Q1b N _) (hP hik))
        · rw[if_neg hik]
          have hf:=few_frz s M D.length (raA D) cs y i (N.map cutE) X (Q7v _ _ _) (q5 _) (x4 _)
          rw[lm] at hf
          exact h.trans hf)
     rw[d2] at fin
     rw[d1]
     generalize (N.take j).map cutE=A at hA fin ⊢
     generalize N.drop (j+1)=B at fin ⊢
     have u1:=ecell (B:=B) (y:=e) hA
     have u3:=spl_data (B:=B) (y:=e) hA (e.data.take 80)
     have u5:=Q9x (A++e::B)
     have v1:j*14+14≤(raE (A++e::B)).length:=by rw[u5,List.length_append,List.length_cons];omega
     rw[←m3] at m1 m2
     generalize e.data.take 80=D8 at *
     have w1:∀d,AV.refsL d (raE (A++e::B))=false:=fun d=>Q0l d _
     have w2:∀d,AV.refsL d (raE (A++e.with D8::B))=false:=fun d=>Q0l d _
     (have W:=ndI c1 (ndI c7 (ndI m1 (ndI m2 (ndI u1 (ndI u3 (ndI w1 (ndI w2 (ndI q1 (ndI x1 @wrI)))))))));(repeat(any_goals(first|((with_reducible refine Q0b ?_ ?_);rfl;intro K hK;simp(disch:=omega) only[go_sem,W,Bool.false_and,Nat.mul_one];((repeat(refine ndI (by first|assumption|rfl) ?_));refine hK _ ?_;clear hK K))|(with_reducible first|(refine Q0c ?_;refine hR _ ?_;clear hR R)|((first|refine Q0d ?_|refine Q0f ?_);intro J hJ hJ')|(refine Q0a ?_;intro R hR)|(refine hJ _ ?_;clear hJ hJ' J)|refine Q0g ?_)|((with_reducible refine hJ' _ _ ?_ ?_);(focus(simp;done));clear hJ hJ' J)|((with_reducible apply Q0e);rfl;rfl;all_goals(intro hc;first|(cases hc;done)|(try simp only at hc)))|((with_reducible refine Q0v ?_ ?_);(apply Q2e);(focus(repeat(first|exact Sims.nil|((apply Sims.cons);(focus(first|((apply Ef.sim_row);assumption)|exact Ef.sim_refl _))))));kernel_rfl;(with_reducible refine hR _ ?_);clear hR R)|((first|((with_reducible apply Q1j);rfl;rfl;((apply Q0u (cb);rfl;rfl;rfl;rfl;exact Tryz.func38);kernel_rfl;rfl;(focus((simp(disch:=omega) only[go_sem,W,Bool.false_and,Nat.mul_one]);(try rfl);done));(first|rfl)))|((with_reducible apply Q0t);rfl;rfl;(simp(disch:=omega) only[rdE,rdOf,go_sem,W,Bool.false_and,Nat.mul_one];rfl);(intro τ hA hQ hN;((try simp only[Q1e,Op.operands,Call.operands,go_sem,W,Bool.false_and,Nat.mul_one,go_sem,List.mem_cons,List.not_mem_nil,forall_eq_or_imp,forall_eq,List.append_toArray,Option.toArray] at hA);(try simp only[go_sem,W,Bool.false_and,Nat.mul_one,List.mem_cons,List.not_mem_nil,forall_eq_or_imp,forall_eq] at hQ hN);(first|(revert hA;intro hA));(first|(revert hQ;intro hQ));(first|(revert hN;intro hN));simp(disch:=omega) only[go_sem,W,Bool.false_and,Nat.mul_one,go_sem,hA,hQ,hN];(repeat(refine ndI (by first|assumption|omega|rfl) ?_));(first|apply Q1a|apply Q5h)))));(simp(disch:=omega) only[St.eff,setO,Q0w,go_sem,W,Bool.false_and,Nat.mul_one]))|((with_reducible refine Q0r ?_ ?_ ?_ ?_);kernel_rfl;kernel_rfl;(simp[Q1m,Q4o,St.free,Q1w,AV.refsL,AV.refs,q1,x1,w1]);intro R hR)))))
     all_goals exact fin _ (St.to.of_le (St.le_of (by simp[leT]) (by simp[leH,hget])))
   · have c1:(decide ((j:Int)<(N.length:Int)))=false:=by simpa using hje
     rw[if_neg (by omega)]
     have f5:(raA D).length=D.length:=by rw[List.length_map,Q0p Q3v,Nat.mul_one]
     have w3:∀d,AV.refsL d (raA D)=false:=fun d=>Q0l d _
     have w4:∀d,AV.refsL d (raE (N.map cutE))=false:=fun d=>Q0l d _
     have q6:cs.length=i*4:=q4
     have lm:(N.map cutE).length=N.length:=List.length_map _
     by_cases hik:i=k
     · rw[if_pos hik]
       rw[if_pos hik,if_pos hik] at hJ0
       dsimp only[X3u]
       (repeat(any_goals(first|((with_reducible refine Q0b ?_ ?_);rfl;intro K hK;simp(disch:=omega) only[go_sem,c1,k7,q1,q6,w3,w4,wrI];((repeat(refine ndI (by first|assumption|omega|rfl) ?_));refine hK _ ?_;clear hK K))|(with_reducible first|(refine Q0c ?_;refine hR _ ?_;clear hR R)|((first|refine Q0d ?_);intro J hJ hJ')|(refine Q0a ?_;intro R hR)|(refine hJ _ ?_;clear hJ hJ' J)|refine Q0o ?_)|((with_reducible refine hJ' _ _ ?_ ?_);(focus(simp;done));clear hJ hJ' J)|((with_reducible apply Q0e);rfl;rfl;all_goals(intro hc;first|(cases hc;done)|(try simp only at hc))))))
       all_goals refine hJ0 _ (St.to.trans (St.to.of_le (τ:=stU s M 71 601 D.length (raA D) (cs++phR ⟨y.role,y.who,y.stk,N.map cutE⟩) (raE (N.map cutE)) (i+1) (i+1)) (St.le_of (by simp[leT]) (by simp[leH,hget]))) (stU_rn s M D.length (raA D) _ _ _ _ ?_ r0 (fun ρ=>Q0s ρ _) ?_ (fun N=>Q1b N _) (fun N=>Q1b N _)))
       · intro ρ h
         rw[X2u,q2 ρ h]
         simp[AV.renL,AV.ren,h]
       · intro N h
         rw[X3m,q3 N h]
         simp[AV.inNL,AV.inN]
         simpa using h
     · rw[if_neg hik]
       rw[if_neg hik,if_neg hik] at hJ0
       dsimp only[X3u]
       (repeat(any_goals(first|((with_reducible refine Q0b ?_ ?_);rfl;intro K hK;simp(disch:=omega) only[go_sem,c1,k7,q1,q6,w3,x1,wrI];((repeat(refine ndI (by first|assumption|omega|rfl) ?_));refine hK _ ?_;clear hK K))|(with_reducible first|(refine Q0c ?_;refine hR _ ?_;clear hR R)|((first|refine Q0d ?_);intro J hJ hJ')|(refine Q0a ?_;intro R hR)|(refine hJ _ ?_;clear hJ hJ' J)|refine Q0o ?_)|((with_reducible refine hJ' _ _ ?_ ?_);(focus(simp;done));clear hJ hJ' J)|((with_reducible apply Q0e);rfl;rfl;all_goals(intro hc;first|(cases hc;done)|(try simp only at hc))))))
       all_goals refine hJ0 _ (St.to.trans (St.to.of_le (τ:=stU s M 71 601 D.length (raA D) (cs++(Ph.pv ⟨y.role,y.who,y.stk,N.map cutE⟩).map .c) X (i+1) (i+1)) (St.le_of (by simp[leT]) (by simp[leH,hget,Ph.pv]))) (stU_rn s M D.length (raA D) _ _ _ _ ?_ r0 x2 ?_ (fun N=>Q1b N _) x3))
       · intro ρ h
         rw[X2u,q2 ρ h,Q0s]
       · intro N h
         rw[X3m,q3 N h,Q1b]
         rfl
 · have k1:(decide ((i:Int)<(M.length:Int)))=false:=decide_eq_false (by omega)
   have ei:i=M.length:=by omega
   rw[ei,List.take_length]
   have w3:∀d,AV.refsL d (raA D)=false:=fun d=>Q0l d _
   have q1:=fun d h=>Q7d k (M.map cutP) d h
   have x1:=fun d=>X0q k (M.map cutP) d
   rw[ei] at k1
   (repeat(any_goals(first|((with_reducible refine Q0b ?_ ?_);rfl;intro K hK;simp(disch:=omega) only[go_sem,k1,q1,x1,w3,wrI];((repeat(refine ndI (by first|assumption|rfl) ?_));refine hK _ ?_;clear hK K))|(with_reducible first|(refine Q0c ?_;refine hR _ ?_;clear hR R)|((first|refine Q0d ?_);intro J hJ hJ')|(refine Q0a ?_;intro R hR)|(refine hJ _ ?_;clear hJ hJ' J)|refine Q0j ?_|refine Q0o ?_)|((with_reducible refine hJ' _ _ ?_ ?_);(focus(simp;done));clear hJ hJ' J)|((with_reducible apply Q0e);rfl;rfl;all_goals(intro hc;first|(cases hc;done)|(try simp only at hc))))))
   all_goals(refine⟨by simp,⟨_,?_,AV.le_refl _⟩,Q0h (by simp[leH,hget])⟩;simp only[Tryz.results9,resL,ldA,Q0q,go_sem])
end
section
open Go.RowKit
open Nat (reduceBEq)
attribute [-go_sem] IntKind.bits
set_option maxRecDepth 20000
set_option maxHeartbeats 2000000
theorem few_row(c:Cs)(hc:c.raw):Fn Tryz.prog 9 [csA c] [] (.agg [vi .u64 c.snd,.row 600 phT 4 (cutC c).ph.length,asl false (cutC c).cd]) [(600,raP (cutC c).ph)]:=by
 have h:=few_fnK 10 c hc
 have h4:=X4d c
 rw[X0s 10 _ (by omega)] at h
 have h1:=h.frzN (d:=601) (pcs:=(cutC c).cd.flatMap apv) (by simp[hget])
 have h2:=h1.weaken (H2:=[(600,raP (cutC c).ph)]) (AV.le_refl _) (fun r cs hr=>by
  rw[Q2h] at hr
  split at hr
  · rename_i e
    subst e;cases hr
    exact⟨[],by simp[frzH,hget]⟩
  · cases hr)
 have e1:((cutC c).cd.flatMap apv).length=(cutC c).cd.length*1:=Q0p Q3v _
 simpa [-List.length_flatMap,AV.frz,AV.frzL,e1] using h2
theorem few_fn(c:Cs)(hc:c.raw):Fn Tryz.prog 9 [csA c] [] (csA (cutC c)) []:=by
 have h1:=(few_row c hc).frzN (d:=600) (pcs:=(cutC c).ph.flatMap Ph.pv) (by simp[hget])
 have e1:((cutC c).ph.flatMap Ph.pv).length=(cutC c).ph.length*4:=Q0p X1w _
 have e2:(cutC c).snd=c.snd:=rfl
 rw[←e2] at h1
 simpa [-List.length_flatMap,AV.frz,AV.frzL,frzH,e1] using h1
def PV.le(p q:PV):Prop:=∀S w v,RVp S w v p→RVp S w v q
theorem PV.le_refl(p:PV):p.le p:=fun _ _ _ h=>h
theorem PV.le_nil(ex:Bool)(sz:Nat):(PV.v (.slice none 0 0)).le (.sl ex sz 0 []):=fun S w v h=>by
 cases h with
 |v _ h=>exact .sl ex sz none 0 0 [] [] (Nat.le_refl _) (Nat.zero_le _) (fun _=>rfl) (fun _=>rfl) rfl (by simp) (fun h=>absurd rfl h) fun j u x hu=>by cases hu
def PV.leL:List PV→List PV→Prop
 |[],[]=>True
 |p::l,q::m=>p.le q∧PV.leL l m
 |_,_=>False
theorem PV.leL_len:∀{l m:List PV},PV.leL l m→l.length=m.length
 |[],[],_=>rfl
 |p::l,q::m,h=>by simp[PV.leL_len h.2]
theorem PV.leL_get:∀{l m:List PV},PV.leL l m→∀(j:Nat) (p q:PV),l[j]? = some p→m[j]? = some q→p.le q
 |[],[],_,j,p,q,h,_=>by simp at h
 |x::l,y::m,h,0,p,q,h1,h2=>by simp at h1 h2;subst h1 h2;exact h.1
 |x::l,y::m,h,j+1,p,q,h1,h2=>PV.leL_get h.2 j p q (by simpa using h1) (by simpa using h2)
theorem PV.le_sl{ex ex':Bool}(he:ex'=true→ex=true){sz n:Nat}{ps qs:List PV}(h:PV.leL ps qs):(PV.sl ex sz n ps).le (.sl ex' sz n qs):=fun S w v hv=>by
 cases hv with
 |sl _ _ A _ c us _ h1 h2 h3 hx hl hn h4 h5=>
  have hlen:=PV.leL_len h
  refine .sl ex' sz A n c us qs h1 h2 h3 (fun e=>hx (he e)) (hl.trans hlen) (by rw[←hlen];exact hn) h4 fun j u x hu hx'=>?_
  have hj:=(List.getElem?_eq_some_iff.1 hx').1
  have hp:ps[j]? = some ps[j]:=List.getElem?_eq_getElem (by omega)
  exact PV.leL_get h j _ _ hp hx' S w u (h5 j u _ hu hp)
theorem AV.le_pv{p q:PV}(h:p.le q):(AV.c p).le (.c q):=fun S ι w v hv=>by
 cases hv with
 |c _ _ hp=>exact .c _ _ (h S w v hp)
def plainE:Ev:=⟨2,0,30,0,0,5,0,[]⟩
def Q2d(b:Bool):Cs:=⟨20,[⟨2,20,false,[]⟩,⟨3,30,b,[plainE]⟩],[]⟩
theorem X9k(b:Bool):Fn Tryz.prog 35 [vb b] [] (csA (Q2d b)) []:=by
 have h:Fn Tryz.prog 35 [vb b] [] (.agg [vi .u64 20,.c (.sl true 4 2 [.v (.int .i64 2),.v (.int .u64 20),.v (.bool false),.v (.slice none 0 0),.v (.int .i64 3),.v (.int .u64 30),.v (.bool b),.sl true 14 1 [.v (.int .i64 2),.v (.int .i64 0),.v (.int .u64 30),.v (.int .u64 0),.v (.int .u8 0),.v (.int .u64 5),.v (.int .u64 0),.v (.int .u64 0),.v (.int .u64 0),.v (.int .u64 0),.v (.int .u64 0),.v (.int .u64 0),.v (.int .u64 0),.v (.slice none 0 0)]]),nilA]) []:=by
  (refine Q0z Tryz.func35 rfl (by rfl) ?_;simp only[Tryz.ntmps35,List.length_cons,List.length_nil,Nat.reduceAdd,Nat.reduceSub,List.replicate,List.cons_append,List.nil_append])
  (repeat(any_goals(first|((with_reducible refine Q3p ?_ ?_);rfl;intro K hK;apply Q2l;rfl;rfl;(focus(simp only[go_sem];try rfl));(focus(simp only[go_sem];try rfl));rfl;(first|omega);(first|omega);(first|omega);(simp only[go_sem];rfl);rfl;(focus((simp only[unC,Option.map_some]);(try rfl)));(simp only[go_sem];refine hK _ ?_;clear hK K))|((with_reducible refine Q0b ?_ ?_);rfl;intro K hK;simp only[go_sem];((repeat(refine ndI (by first|assumption) ?_));refine hK _ ?_;clear hK K))|(with_reducible first|(refine Q0c ?_;refine hR _ ?_;clear hR R)|((first|refine Q0d ?_);intro J hJ hJ')|(refine Q0a ?_;intro R hR)|(refine hJ _ ?_;clear hJ hJ' J)|refine Q0j ?_))))
  all_goals(refine⟨by simp,⟨_,?_,AV.le_refl _⟩,Q0h (by simp[leH,hget])⟩;simp only[Tryz.results35,resL,ldA,Q0q,go_sem])
 have hle:(AV.agg [vi .u64 20,.c (.sl true 4 2 [.v (.int .i64 2),.v (.int .u64 20),.v (.bool false),.v (.slice none 0 0),.v (.int .i64 3),.v (.int .u64 30),.v (.bool b),.sl true 14 1 [.v (.int .i64 2),.v (.int .i64 0),.v (.int .u64 30),.v (.int .u64 0),.v (.int .u8 0),.v (.int .u64 5),.v (.int .u64 0),.v (.int .u64 0),.v (.int .u64 0),.v (.int .u64 0),.v (.int .u64 0),.v (.int .u64 0),.v (.int .u64 0),.v (.slice none 0 0)]]),nilA]).le (csA (Q2d b)):=by
  refine AV.le_agg ⟨AV.le_refl _,AV.le_pv (PV.le_sl (by simp) ?_),AV.le_nil false 1,trivial⟩
  refine⟨PV.le_refl _,PV.le_refl _,PV.le_refl _,PV.le_nil false 14,PV.le_refl _,PV.le_refl _,PV.le_refl _,PV.le_sl (by simp) ?_,trivial⟩
  exact⟨PV.le_refl _,PV.le_refl _,PV.le_refl _,PV.le_refl _,PV.le_refl _,PV.le_refl _,PV.le_refl _,PV.le_refl _,PV.le_refl _,PV.le_refl _,PV.le_refl _,PV.le_refl _,PV.le_refl _,PV.le_nil false 1,trivial⟩
 exact h.weaken hle (fun r cs hr=>by cases hr)
theorem Q7j(b:Bool):(Q2d b).ok:=by
 refine⟨by cases b<;>decide,⟨by cases b<;>decide,fun p hp=>?_⟩,by cases b<;>decide,fun a ha=>by cases ha⟩
 rcases List.mem_cons.1 hp with rfl|hp
 · exact⟨by decide,by decide,fun e he=>by cases he⟩
 · rcases List.mem_cons.1 hp with rfl|hp
   · refine⟨by cases b<;>decide,by cases b<;>decide,fun e he=>?_⟩
     rcases List.mem_cons.1 he with rfl|he
     · exact⟨by decide,by decide,by decide,fun b hb=>(by cases hb),by decide,by decide⟩
     · cases he
   · cases hp
theorem Q4k(b:Bool):Q4b (Q2d b)=true:=by cases b<;>rfl
theorem X9m:brkC (Q2d false)=[⟨1,0,7⟩]:=by rfl
theorem X9l:brkC (Q2d true)=[]:=by rfl
theorem plain_for:(Q4v (Q2d true)).length=1:=by
 unfold Q4v
 rw[if_pos (Q4k true)]
 have e:canS (Q3r (fun s=>Q2o (Q2d true) s (Q2d true).snd) ((Q2d true).ph.flatMap fun p=>canS (Q4l [2,3] p.tr)))=[⟨30,5⟩]:=by
  have e1:((Q2d true).ph.flatMap fun p=>canS (Q4l [2,3] p.tr))=[⟨30,5⟩]:=by
   show canS []++(canS [(⟨30,5⟩:Sp)]++[])=_
   simp[canS,ddS]
  rw[e1]
  have e2:Q3r (fun s=>Q2o (Q2d true) s (Q2d true).snd) [⟨30,5⟩]=[⟨30,5⟩]:=by rfl
  rw[e2]
  simp[canS,ddS]
 rw[e]
 rfl
theorem wakes_fnE(h0:Fn Tryz.prog 27 [csA (Q2d false)] [] (bkE (Q7t (Q2d false)) (Q7s (Q2d false))) [])(h1:Fn Tryz.prog 27 [csA (Q2d true)] [] (bkE (Q7t (Q2d true)) (Q7s (Q2d true))) [])
 (F:List Sp) (fo:Fn Tryz.prog 13 [csA (Q2d true)] [] (spl5 false F) []) (ef:F.length=1):Fn Tryz.prog 8 [] [] (vb true) []:=by
 have p0:=X9k false
 have p1:=X9k true
 obtain⟨r,hr1,hr2,en⟩:=X6q (Q2d true) (Q7j true) (Q4k true)
 have e0:Q7t (Q2d false)=⟨1,0,7⟩:=by unfold Q7t X4l;rw[if_pos (Q4k false),X9m]
 have e1:Q7s (Q2d false)=321:=by unfold Q7s;rw[if_pos (Q4k false),X9m]
 have e2:Q7t (Q2d true)=⟨0,0,0⟩:=by unfold Q7t X4l;rw[if_pos (Q4k true),X9l]
 have e3:Q7s (Q2d true)=0:=by unfold Q7s;rw[if_pos (Q4k true),X9l]
 rw[e0,e1] at h0
 rw[e2,e3] at h1
 have er:r=[20,30]:=X7l hr1 (by decide) fun x=>by rw[hr2];rfl
 subst er
 clear e0 e1 e2 e3 hr1 hr2
 generalize Q2d false=P0 at p0 h0
 generalize Q2d true=P1 at p1 h1 en fo
 have k1:((F.length:Int)==1)=true:=by rw[ef];rfl
 (refine Q0z Tryz.func8 rfl (by rfl) ?_;simp only[Tryz.ntmps8,List.length_cons,List.length_nil,Nat.reduceAdd,Nat.reduceSub,List.replicate,List.cons_append,List.nil_append])
 (repeat(any_goals(first|((with_reducible refine Q0n ?_ ?_ ?_);rfl;rfl;intro K hK;(first|((apply Q0k (p0);rfl;rfl;rfl;rfl;exact Tryz.func35);kernel_rfl;rfl;(focus((simp only[go_sem,k1]);(try rfl);done));(first|rfl))|((apply Q0k (p1);rfl;rfl;rfl;rfl;exact Tryz.func35);kernel_rfl;rfl;(focus((simp only[go_sem,k1]);(try rfl);done));(first|rfl))|((apply Q0k (h0);rfl;rfl;rfl;rfl;exact Tryz.func27);kernel_rfl;rfl;(focus((simp only[go_sem,k1]);(try rfl);done));(first|rfl))|((apply Q0k (h1);rfl;rfl;rfl;rfl;exact Tryz.func27);kernel_rfl;rfl;(focus((simp only[go_sem,k1]);(try rfl);done));(first|rfl)));(simp only[go_sem,k1];refine hK _ ?_;clear hK K))|((with_reducible refine Q0b ?_ ?_);rfl;intro K hK;simp only[go_sem,k1];((repeat(refine ndI (by first|assumption) ?_));refine hK _ ?_;clear hK K))|(with_reducible first|(refine Q0c ?_;refine hR _ ?_;clear hR R)|((first|refine Q0d ?_);intro J hJ hJ')|(refine Q0a ?_;intro R hR)|(refine hJ _ ?_;clear hJ hJ' J)|refine Q0j ?_)|((with_reducible apply Q0y);rfl;rfl;rfl;all_goals(intro hb;first|(cases hb;done)|((try simp only[Bool.not_true,Bool.not_false] at hb);(first|((with_reducible intro K hK);(first|((first|(apply Q0k (en);rfl;rfl;rfl;rfl;exact Tryz.func17)|(apply Q0k (fo);rfl;rfl;rfl;rfl;exact Tryz.func13));kernel_rfl;rfl;(focus((simp only[go_sem,k1]);(try rfl);done));(first|rfl))|((apply Q0k (p1);rfl;rfl;rfl;rfl;exact Tryz.func35);kernel_rfl;rfl;(focus((simp only[go_sem,k1]);(try rfl);done));(first|rfl))|skip);simp only[go_sem,k1];((repeat(refine ndI (by first|assumption) ?_));refine hK _ ?_;clear hK K)))))))))
 all_goals(refine⟨by simp,⟨_,?_,AV.le_refl _⟩,Q0h (by simp[leH,hget])⟩;simp only[Tryz.results8,resL,ldA,Q0q,go_sem])
end
section
open Go.RowKit
open Nat (reduceBEq)
attribute [-go_sem] IntKind.bits
set_option maxRecDepth 20000
set_option maxHeartbeats 2000000
end
section
open Go.RowKit
open Nat (reduceBEq)
attribute [-go_sem] IntKind.bits
set_option maxRecDepth 100000
set_option maxHeartbeats 4000000
end
section
open Go.RowKit
open Nat (reduceBEq)
attribute [-go_sem] IntKind.bits
set_option maxRecDepth 20000
set_option maxHeartbeats 2000000
end
section
open Go.RowKit
open Nat (reduceBEq)
attribute [-go_sem] IntKind.bits
set_option maxRecDepth 20000
set_option maxHeartbeats 2000000
end
section
open Go.RowKit
theorem phsB_tr(s:Int):∀{l:List Ph} {k:Int},phsB s l k=true→∀p∈l,trB p.tr=true
 |[],_,_,p,hp=>by cases hp
 |q::l,k,h,p,hp=>by
  unfold phsB phB at h
  obtain⟨g1,g2⟩:=Bool.and_eq_true_iff.1 h
  obtain⟨g3,g4⟩:=Bool.and_eq_true_iff.1 g1
  rcases List.mem_cons.1 hp with rfl|hp
  · cases ht:trB p.tr
    · rw[ht] at g3;simp at g3
    · rfl
  · exact phsB_tr s g2 p hp
theorem X4h{c:Cs}(h:Q4b c=true):∀p∈c.ph,trB p.tr=true:=by
 unfold Q4b at h
 exact phsB_tr _ (Bool.and_eq_true_iff.1 h).1
theorem Z0t{c:Cs}(ho:c.ok):∀e∈c.ph.flatMap Ph.tr,e.ok:=fun e he=>by
 obtain⟨p,hp,h⟩:=List.mem_flatMap.1 he
 exact(ho.2.1.2 p hp).2.2 e h
theorem all_tr{c:Cs}(hc:Q4b c=true)(hl:(c.ph.flatMap Ph.tr).length≤2000):trB (c.ph.flatMap Ph.tr)=true:=by
 unfold trB
 rw[decide_eq_true hl,Bool.true_and,List.all_eq_true]
 intro e he
 obtain⟨p,hp,h⟩:=List.mem_flatMap.1 he
 have ht:=X4h hc p hp
 unfold trB at ht
 exact List.all_eq_true.1 (Bool.and_eq_true_iff.1 ht).2 e h
end
section
open Go.RowKit
open Nat (reduceBEq)
attribute [-go_sem] IntKind.bits
set_option maxRecDepth 100000
set_option maxHeartbeats 4000000
end
section
open Go.RowKit
open Nat (reduceBEq)
set_option maxRecDepth 20000
set_option maxHeartbeats 2000000
def lbit(x:Int)(k:Nat):Int:=x/2 ^ k%2
theorem X3i{x:Int}(h:U x)(k:Nat)(hk:k<64):IntKind.i64.wrap (IntKind.u64.wrap ((BitVec.ofInt IntKind.u64.bits (x.fdiv (2 ^ (min k IntKind.u64.bits))) &&& BitVec.ofInt IntKind.u64.bits 1).toNat:Nat))=lbit x k:=by
 obtain⟨h1,h2⟩:=h
 obtain⟨N,rfl⟩:=Int.eq_ofNat_of_zero_le h1
 have hm:min k IntKind.u64.bits=k:=Nat.min_eq_left (show k≤64 by omega)
 have hd:((N:Int)).fdiv (2 ^ k)=((N/2 ^ k:Nat):Int):=by
  rw[Int.fdiv_eq_ediv_of_nonneg _ (Int.le_of_lt (Int.pow_pos (by decide)))]
  simp
 rw[hm,hd]
 have hle:N/2 ^ k≤N:=Nat.div_le_self _ _
 generalize hq:N/2 ^ k=q at hle
 have e:(BitVec.ofInt IntKind.u64.bits (q:Int) &&& BitVec.ofInt IntKind.u64.bits 1).toNat=q%2:=by
  show(BitVec.ofInt 64 (q:Int) &&& BitVec.ofInt 64 1).toNat=q%2
  rw[BitVec.toNat_and]
  have e1:(BitVec.ofInt 64 (q:Int)).toNat=q:=by rw[BitVec.toNat_ofInt];omega
  have e2:(BitVec.ofInt 64 1).toNat=1:=by decide
  rw[e1,e2,Nat.and_one_is_mod]
 rw[e,wrU (by omega) (by omega),wrI (by omega) (by omega)]
 unfold lbit
 have:(N:Int)/2 ^ k=(q:Int):=by rw[←hq];simp
 rw[this];omega
def bitW(a b c d:Int)(n:Nat):Int:=if n<64 then lbit a n else if n<128 then lbit b (n-64) else if n<192 then lbit c (n-128) else lbit d (n-192)
theorem bit_fn(a b c d:Int)(u1:U a)(u2:U b)(u3:U c)(u4:U d)(n:Nat)(hn:n≤255):Fn Tryz.prog 175 [w4 a b c d,vi .i64 n] [] (vi .i64 (bitW a b c d n)) []:=by
 have e1:(decide ((n:Int)<0))=false:=by simp
 have e2:(decide ((n:Int)>255))=false:=by simp;omega
 have e3:(n:Int).tdiv 64=((n/64:Nat):Int):=rfl
 have e4:(n:Int).tmod 64=((n%64:Nat):Int):=rfl
 have hq:n/64=0∨n/64=1∨n/64=2∨n/64=3:=by omega
 rcases hq with hq|hq|hq|hq
 · (refine Q0z Tryz.func175 rfl (by rfl) ?_;simp only[Tryz.ntmps175,List.length_cons,List.length_nil,Nat.reduceAdd,Nat.reduceSub,List.replicate,List.cons_append,List.nil_append])
   (have W:=ndI e1 (ndI e2 (ndI e3 (ndI e4 @wrI)));(repeat(any_goals(first|((with_reducible refine Q0b ?_ ?_);rfl;intro K hK;simp(disch:=omega) only[go_sem,W,hq,Int.cast_ofNat_Int,Int.reduceEq,Int.toNat_natCast,Int.natCast_nonneg];((repeat(refine ndI (by first|assumption|rfl) ?_));refine hK _ ?_;clear hK K))|(with_reducible first|(refine Q0c ?_;refine hR _ ?_;clear hR R)|((first|refine Q0d ?_);intro J hJ hJ')|(refine Q0a ?_;intro R hR)|(refine hJ _ ?_;clear hJ hJ' J)|refine Q0g ?_|refine Q0j ?_)|((with_reducible apply Q0y);rfl;rfl;rfl;all_goals(intro hb;first|(cases hb;done)|((try simp only[Bool.not_true,Bool.not_false] at hb);(first|((with_reducible intro K hK);simp(disch:=omega) only[go_sem,W,hq,Int.cast_ofNat_Int,Int.reduceEq,Int.toNat_natCast,Int.natCast_nonneg];((repeat(refine ndI (by first|assumption|rfl) ?_));refine hK _ ?_;clear hK K))))))|((with_reducible apply Q0e);rfl;rfl;all_goals(intro hc;first|(cases hc;done)|(try simp only at hc)))))))
   all_goals(refine⟨by simp,⟨_,?_,AV.le_refl _⟩,Q0h (by simp[leH,hget])⟩;simp only[Tryz.results175,resL,ldA,Q0q,go_sem])
   show vi .i64 (IntKind.i64.wrap (IntKind.u64.wrap ((BitVec.ofInt IntKind.u64.bits (a.fdiv (2 ^ (min (n%64) IntKind.u64.bits))) &&& BitVec.ofInt IntKind.u64.bits 1).toNat:Nat)))=_
   rw[X3i u1 _ (Nat.mod_lt _ (by decide))]
   simp only[bitW,if_pos (show n<64 by omega),Nat.mod_eq_of_lt (show n<64 by omega)]
 · (refine Q0z Tryz.func175 rfl (by rfl) ?_;simp only[Tryz.ntmps175,List.length_cons,List.length_nil,Nat.reduceAdd,Nat.reduceSub,List.replicate,List.cons_append,List.nil_append])
   (have W:=ndI e1 (ndI e2 (ndI e3 (ndI e4 @wrI)));(repeat(any_goals(first|((with_reducible refine Q0b ?_ ?_);rfl;intro K hK;simp(disch:=omega) only[go_sem,W,hq,Int.cast_ofNat_Int,Int.natCast_one,Int.reduceEq,Int.toNat_natCast,Int.natCast_nonneg];((repeat(refine ndI (by first|assumption|rfl) ?_));refine hK _ ?_;clear hK K))|(with_reducible first|(refine Q0c ?_;refine hR _ ?_;clear hR R)|((first|refine Q0d ?_);intro J hJ hJ')|(refine Q0a ?_;intro R hR)|(refine hJ _ ?_;clear hJ hJ' J)|refine Q0g ?_|refine Q0j ?_)|((with_reducible apply Q0y);rfl;rfl;rfl;all_goals(intro hb;first|(cases hb;done)|((try simp only[Bool.not_true,Bool.not_false] at hb);(first|((with_reducible intro K hK);simp(disch:=omega) only[go_sem,W,hq,Int.cast_ofNat_Int,Int.natCast_one,Int.reduceEq,Int.toNat_natCast,Int.natCast_nonneg];((repeat(refine ndI (by first|assumption|rfl) ?_));refine hK _ ?_;clear hK K))))))|((with_reducible apply Q0e);rfl;rfl;all_goals(intro hc;first|(cases hc;done)|(try simp only at hc)))))))
   all_goals(refine⟨by simp,⟨_,?_,AV.le_refl _⟩,Q0h (by simp[leH,hget])⟩;simp only[Tryz.results175,resL,ldA,Q0q,go_sem])
   show vi .i64 (IntKind.i64.wrap (IntKind.u64.wrap ((BitVec.ofInt IntKind.u64.bits (b.fdiv (2 ^ (min (n%64) IntKind.u64.bits))) &&& BitVec.ofInt IntKind.u64.bits 1).toNat:Nat)))=_
   rw[X3i u2 _ (Nat.mod_lt _ (by decide)),show n%64=n-64 by omega]
   simp only[bitW,if_neg (show ¬n<64 by omega),if_pos (show n<128 by omega)]
 · (refine Q0z Tryz.func175 rfl (by rfl) ?_;simp only[Tryz.ntmps175,List.length_cons,List.length_nil,Nat.reduceAdd,Nat.reduceSub,List.replicate,List.cons_append,List.nil_append])
   (have W:=ndI e1 (ndI e2 (ndI e3 (ndI e4 @wrI)));(repeat(any_goals(first|((with_reducible refine Q0b ?_ ?_);rfl;intro K hK;simp(disch:=omega) only[go_sem,W,hq,Int.cast_ofNat_Int,Int.natCast_one,Int.reduceEq,Int.toNat_natCast,Int.natCast_nonneg];((repeat(refine ndI (by first|assumption|rfl) ?_));refine hK _ ?_;clear hK K))|(with_reducible first|(refine Q0c ?_;refine hR _ ?_;clear hR R)|((first|refine Q0d ?_);intro J hJ hJ')|(refine Q0a ?_;intro R hR)|(refine hJ _ ?_;clear hJ hJ' J)|refine Q0g ?_|refine Q0j ?_)|((with_reducible apply Q0y);rfl;rfl;rfl;all_goals(intro hb;first|(cases hb;done)|((try simp only[Bool.not_true,Bool.not_false] at hb);(first|((with_reducible intro K hK);simp(disch:=omega) only[go_sem,W,hq,Int.cast_ofNat_Int,Int.natCast_one,Int.reduceEq,Int.toNat_natCast,Int.natCast_nonneg];((repeat(refine ndI (by first|assumption|rfl) ?_));refine hK _ ?_;clear hK K))))))|((with_reducible apply Q0e);rfl;rfl;all_goals(intro hc;first|(cases hc;done)|(try simp only at hc)))))))
   all_goals(refine⟨by simp,⟨_,?_,AV.le_refl _⟩,Q0h (by simp[leH,hget])⟩;simp only[Tryz.results175,resL,ldA,Q0q,go_sem])
   show vi .i64 (IntKind.i64.wrap (IntKind.u64.wrap ((BitVec.ofInt IntKind.u64.bits (c.fdiv (2 ^ (min (n%64) IntKind.u64.bits))) &&& BitVec.ofInt IntKind.u64.bits 1).toNat:Nat)))=_
   rw[X3i u3 _ (Nat.mod_lt _ (by decide)),show n%64=n-128 by omega]
   simp only[bitW,if_neg (show ¬n<64 by omega),if_neg (show ¬n<128 by omega),if_pos (show n<192 by omega)]
 · (refine Q0z Tryz.func175 rfl (by rfl) ?_;simp only[Tryz.ntmps175,List.length_cons,List.length_nil,Nat.reduceAdd,Nat.reduceSub,List.replicate,List.cons_append,List.nil_append])
   (have W:=ndI e1 (ndI e2 (ndI e3 (ndI e4 @wrI)));(repeat(any_goals(first|((with_reducible refine Q0b ?_ ?_);rfl;intro K hK;simp(disch:=omega) only[go_sem,W,hq,Int.cast_ofNat_Int,Int.natCast_one,Int.reduceEq,Int.toNat_natCast,Int.natCast_nonneg];((repeat(refine ndI (by first|assumption|rfl) ?_));refine hK _ ?_;clear hK K))|(with_reducible first|(refine Q0c ?_;refine hR _ ?_;clear hR R)|((first|refine Q0d ?_);intro J hJ hJ')|(refine Q0a ?_;intro R hR)|(refine hJ _ ?_;clear hJ hJ' J)|refine Q0g ?_|refine Q0j ?_)|((with_reducible apply Q0y);rfl;rfl;rfl;all_goals(intro hb;first|(cases hb;done)|((try simp only[Bool.not_true,Bool.not_false] at hb);(first|((with_reducible intro K hK);simp(disch:=omega) only[go_sem,W,hq,Int.cast_ofNat_Int,Int.natCast_one,Int.reduceEq,Int.toNat_natCast,Int.natCast_nonneg];((repeat(refine ndI (by first|assumption|rfl) ?_));refine hK _ ?_;clear hK K))))))|((with_reducible apply Q0e);rfl;rfl;all_goals(intro hc;first|(cases hc;done)|(try simp only at hc)))))))
   all_goals(refine⟨by simp,⟨_,?_,AV.le_refl _⟩,Q0h (by simp[leH,hget])⟩;simp only[Tryz.results175,resL,ldA,Q0q,go_sem])
   show vi .i64 (IntKind.i64.wrap (IntKind.u64.wrap ((BitVec.ofInt IntKind.u64.bits (d.fdiv (2 ^ (min (n%64) IntKind.u64.bits))) &&& BitVec.ofInt IntKind.u64.bits 1).toNat:Nat)))=_
   rw[X3i u4 _ (Nat.mod_lt _ (by decide)),show n%64=n-192 by omega]
   simp only[bitW,if_neg (show ¬n<64 by omega),if_neg (show ¬n<128 by omega),if_neg (show ¬n<192 by omega)]
def VW(a b c d:Int):Nat:=a.toNat+18446744073709551616*(b.toNat+18446744073709551616*(c.toNat+18446744073709551616*d.toNat))
theorem bit_lo(A R k:Nat)(hk:k<64):(A+18446744073709551616*R)/2 ^ k%2=A/2 ^ k%2:=by
 have e:(18446744073709551616:Nat)=2 ^ k*(2*2 ^ (63-k)):=by
  rw[←Nat.pow_succ',←Nat.pow_add,show k+(63-k).succ=64 by omega]
 rw[e,Nat.mul_assoc,Nat.add_mul_div_left _ _ (Nat.pos_of_ne_zero (by simp)),Nat.mul_assoc 2,Nat.add_mul_mod_self_left]
theorem bit_hi(A R k:Nat)(hA:A<18446744073709551616)(hk:64≤k):(A+18446744073709551616*R)/2 ^ k=R/2 ^ (k-64):=by
 have e:(2:Nat) ^ k=18446744073709551616*2 ^ (k-64):=by
  rw[show(18446744073709551616:Nat)=2 ^ 64 by decide,←Nat.pow_add,show 64+(k-64)=k by omega]
 rw[e,←Nat.div_div_eq_div_mul,Nat.add_mul_div_left _ _ (by decide),Nat.div_eq_of_lt hA,Nat.zero_add]
theorem Q9h{x:Int}(h:U x)(k:Nat):lbit x k=((x.toNat/2 ^ k%2:Nat):Int):=by
 obtain⟨N,rfl⟩:=Int.eq_ofNat_of_zero_le h.1
 unfold lbit
 have:(N:Int)/2 ^ k=((N/2 ^ k:Nat):Int):=by simp
 rw[this];simp
theorem bitW_val{a b c d:Int}(u1:U a)(u2:U b)(u3:U c)(u4:U d)(n:Nat)(hn:n≤255):bitW a b c d n=((VW a b c d/2 ^ n%2:Nat):Int):=by
 unfold bitW VW
 have h1:a.toNat<18446744073709551616:=by have:=u1.2;omega
 have h2:b.toNat<18446744073709551616:=by have:=u2.2;omega
 have h3:c.toNat<18446744073709551616:=by have:=u3.2;omega
 split
 · rw[Q9h u1,bit_lo _ _ _ (by omega)]
 · rw[bit_hi _ _ _ h1 (by omega)]
   split
   · rw[Q9h u2,bit_lo _ _ _ (by omega)]
   · rw[bit_hi _ _ _ h2 (by omega)]
     split
     · rw[Q9h u3,show n-64-64=n-128 by omega,bit_lo _ _ _ (by omega)]
     · rw[show n-64-64=n-128 by omega,bit_hi _ _ _ h3 (by omega),Q9h u4,show n-128-64=n-192 by omega]
theorem VW_wN{x:Nat}(h:x<WW):VW (l0 x) (l1 x) (l2 x) (l3 x)=x:=by
 obtain⟨a,b,c,d,e,_,_,_,_,e0,e1,e2,e3⟩:=Q5m h
 rw[e0,e1,e2,e3]
 unfold VW
 simp only[Int.toNat_natCast]
 exact e.symm
def bitN(x n:Nat):Nat:=x/2 ^ n%2
theorem bitN_fn(x:Nat)(hx:x<WW)(n:Nat)(hn:n≤255):Fn Tryz.prog 175 [wN x,vi .i64 n] [] (vi .i64 (bitN x n:Nat)) []:=by
 have h:=bit_fn (l0 x) (l1 x) (l2 x) (l3 x) (U0 x) (U1 x) (U2 x) (U3 x) n hn
 rw[bitW_val (U0 x) (U1 x) (U2 x) (U3 x) n hn,VW_wN hx] at h
 exact h
def cmpN(x y:Nat):Int:=if x<y then -1 else if y<x then 1 else 0
theorem cmpN_lt{x y n:Nat}(h1:x/2 ^ (n+1)=y/2 ^ (n+1))(h2:x/2 ^ n%2<y/2 ^ n%2):x<y:=by
 rw[Nat.pow_succ,←Nat.div_div_eq_div_mul,←Nat.div_div_eq_div_mul] at h1
 rcases Nat.lt_or_ge x y with h|h
 · exact h
 · have:=Nat.div_le_div_right (c:=2 ^ n) h;omega
theorem cmpN_eq{x y n:Nat}(h1:x/2 ^ (n+1)=y/2 ^ (n+1))(h2:x/2 ^ n%2=y/2 ^ n%2):x/2 ^ n=y/2 ^ n:=by
 rw[Nat.pow_succ,←Nat.div_div_eq_div_mul,←Nat.div_div_eq_div_mul] at h1
 omega
theorem refcmp_fn(x y:Nat)(lx:x<WW)(ly:y<WW):Fn Tryz.prog 148 [wN x,wN y] [] (vi .i64 (cmpN x y)) []:=by
 (refine Q0z Tryz.func148 rfl (by rfl) ?_;simp only[Tryz.ntmps148,List.length_cons,List.length_nil,Nat.reduceAdd,Nat.reduceSub,List.replicate,List.cons_append,List.nil_append])
 (repeat(any_goals(first|((with_reducible refine Q0b ?_ ?_);rfl;intro K hK;simp only[go_sem];((repeat(refine ndI (by first|assumption) ?_));refine hK _ ?_;clear hK K))|(with_reducible first|(refine Q0c ?_;refine hR _ ?_;clear hR R)|((first|refine Q0d ?_|refine Q0f ?_);intro J hJ hJ')|(refine Q0a ?_;intro R hR)|(refine hJ _ ?_;clear hJ hJ' J)))))
 refine Q1t (α:={i:Nat // i≤256∧x/2 ^ i=y/2 ^ i}) (fun p=>⟨[.any,.any,.ptr 2 0,.ptr 3 0,vi .i64 0,vi .i64 ((p.1:Int)-1),.any,.any,.any,.any,.any,.any,.any,.any,.any,.any,.any,.any,.any,.any,.any,.any,.any,.any],[(2,[vi .u64 (l0 x),vi .u64 (l1 x),vi .u64 (l2 x),vi .u64 (l3 x)]),(3,[vi .u64 (l0 y),vi .u64 (l1 y),vi .u64 (l2 y),vi .u64 (l3 y)])]⟩) (fun p=>p.1) ⟨256,Nat.le_refl _,by rw[Nat.div_eq_of_lt (show x<2 ^ 256 from lx),Nat.div_eq_of_lt (show y<2 ^ 256 from ly)]⟩ (St.le_of (by simp[leT]) (by simp[leH,hget])) ?_
 rintro ⟨i,h1,h2⟩ J hJ hJ'
 dsimp only at hJ ⊢
 rcases i with _|n
 · simp only[Nat.pow_zero,Nat.div_one] at h2
   have hr:cmpN x y=0:=by rw[h2];simp[cmpN]
   have e1:(decide (((0:Nat):Int)-1≥0))=false:=by decide
   (repeat(any_goals(first|((with_reducible refine Q0b ?_ ?_);rfl;intro K hK;simp only[go_sem,e1];((repeat(refine ndI (by first|assumption) ?_));refine hK _ ?_;clear hK K))|(with_reducible first|(refine Q0c ?_;refine hR _ ?_;clear hR R)|((first|refine Q0d ?_);intro J hJ hJ')|(refine Q0a ?_;intro R hR)|(refine hJ _ ?_;clear hJ hJ' J)|refine Q0j ?_|refine Q0o ?_)|((with_reducible refine hJ' _ _ ?_ ?_);(focus(simp;done));clear hJ hJ' J)|((with_reducible apply Q0e);rfl;rfl;all_goals(intro hc;first|(cases hc;done)|(try simp only at hc))))))
   all_goals rw[hr]
   all_goals(refine⟨by simp,⟨_,?_,AV.le_refl _⟩,Q0h (by simp[leH,hget])⟩;simp only[Tryz.results148,resL,ldA,Q0q,go_sem])
 · have e0:((n+1:Nat):Int)-1=(n:Int):=by omega
   have e1:(decide ((n:Int)≥0))=true:=by simp
   have b1:=bitN_fn x lx n (by omega)
   have b2:=bitN_fn y ly n (by omega)
   obtain⟨p,hp⟩:∃p,bitN x n=p:=⟨_,rfl⟩
   obtain⟨q,hq⟩:∃q,bitN y n=q:=⟨_,rfl⟩
   rw[hp] at b1
   rw[hq] at b2
   have hp':x/2 ^ n%2=p:=hp
   have hq':y/2 ^ n%2=q:=hq
   rw[e0]
   rcases Nat.lt_trichotomy p q with hpq|hpq|hpq
   · have hr:cmpN x y = -1:=by
      have hlt:=cmpN_lt h2 (by rw[hp',hq'];exact hpq)
      simp[cmpN,hlt]
     have d1:decide ((p:Int)<(q:Int))=true:=by simp;omega
     (have W:=ndI e1 (ndI d1 @wrI);(repeat(any_goals(first|((with_reducible refine Q0b ?_ ?_);rfl;intro K hK;simp(disch:=omega) only[go_sem,W];((repeat(refine ndI (by first|assumption) ?_));refine hK _ ?_;clear hK K))|(with_reducible first|(refine Q0c ?_;refine hR _ ?_;clear hR R)|((first|refine Q0d ?_|refine Q0f ?_);intro J hJ hJ')|(refine Q0a ?_;intro R hR)|(refine hJ _ ?_;clear hJ hJ' J)|refine Q0g ?_|refine Q0j ?_)|((with_reducible refine hJ' _ _ ?_ ?_);(focus(simp;done));clear hJ hJ' J)|((with_reducible apply Q0e);rfl;rfl;all_goals(intro hc;first|(cases hc;done)|(try simp only at hc)))|((with_reducible refine Q0v ?_ ?_);kernel_rfl;(with_reducible refine hR _ ?_);clear hR R)|((first|((with_reducible apply Q1j);rfl;rfl;(first|((apply Q0u (b1);rfl;rfl;rfl;rfl;exact Tryz.func175);kernel_rfl;rfl;(focus((simp(disch:=omega) only[go_sem,W]);(try rfl);done));(first|rfl))|((apply Q0u (b2);rfl;rfl;rfl;rfl;exact Tryz.func175);kernel_rfl;rfl;(focus((simp(disch:=omega) only[go_sem,W]);(try rfl);done));(first|rfl))))|((with_reducible apply Q0t);rfl;rfl;(simp(disch:=omega) only[rdE,rdOf,go_sem,W];rfl);(intro τ hA hQ hN;((try simp only[Q1e,Op.operands,Call.operands,go_sem,W,go_sem,List.mem_cons,List.not_mem_nil,forall_eq_or_imp,forall_eq,List.append_toArray,Option.toArray] at hA);(try simp only[go_sem,W,List.mem_cons,List.not_mem_nil,forall_eq_or_imp,forall_eq] at hQ hN);(first|(revert hA;intro hA));(first|(revert hQ;intro hQ));(first|(revert hN;intro hN));simp(disch:=omega) only[go_sem,W,go_sem,hA,hQ,hN];(repeat(refine ndI (by first|assumption) ?_));(first|apply Q1a)))));(simp(disch:=omega) only[St.eff,setO,Q0w,go_sem,W]))|((with_reducible refine Q0r ?_ ?_ ?_ ?_);kernel_rfl;kernel_rfl;(first|kernel_rfl);intro R hR)))))
     all_goals rw[hr]
     all_goals(refine⟨by simp,⟨_,?_,AV.le_refl _⟩,Q0h (by simp[leH,hget])⟩;simp only[Tryz.results148,resL,ldA,Q0q,go_sem])
   · have d1:decide ((p:Int)<(q:Int))=false:=by simp;omega
     have d2:decide ((p:Int)>(q:Int))=false:=by simp;omega
     (have W:=ndI e1 (ndI d1 (ndI d2 @wrI));(repeat(any_goals(first|((with_reducible refine Q0b ?_ ?_);rfl;intro K hK;simp(disch:=omega) only[go_sem,W];((repeat(refine ndI (by first|assumption) ?_));refine hK _ ?_;clear hK K))|(with_reducible first|(refine Q0c ?_;refine hR _ ?_;clear hR R)|((first|refine Q0d ?_|refine Q0f ?_);intro J hJ hJ')|(refine Q0a ?_;intro R hR)|(refine hJ _ ?_;clear hJ hJ' J)|refine Q0g ?_)|((with_reducible refine hJ' _ _ ?_ ?_);(focus(simp;done));clear hJ hJ' J)|((with_reducible apply Q0e);rfl;rfl;all_goals(intro hc;first|(cases hc;done)|(try simp only at hc)))|((with_reducible refine Q0v ?_ ?_);kernel_rfl;(with_reducible refine hR _ ?_);clear hR R)|((first|((with_reducible apply Q1j);rfl;rfl;(first|((apply Q0u (b1);rfl;rfl;rfl;rfl;exact Tryz.func175);kernel_rfl;rfl;(focus((simp(disch:=omega) only[go_sem,W]);(try rfl);done));(first|rfl))|((apply Q0u (b2);rfl;rfl;rfl;rfl;exact Tryz.func175);kernel_rfl;rfl;(focus((simp(disch:=omega) only[go_sem,W]);(try rfl);done));(first|rfl))))|((with_reducible apply Q0t);rfl;rfl;(simp(disch:=omega) only[rdE,rdOf,go_sem,W];rfl);(intro τ hA hQ hN;((try simp only[Q1e,Op.operands,Call.operands,go_sem,W,go_sem,List.mem_cons,List.not_mem_nil,forall_eq_or_imp,forall_eq,List.append_toArray,Option.toArray] at hA);(try simp only[go_sem,W,List.mem_cons,List.not_mem_nil,forall_eq_or_imp,forall_eq] at hQ hN);(first|(revert hA;intro hA));(first|(revert hQ;intro hQ));(first|(revert hN;intro hN));simp(disch:=omega) only[go_sem,W,go_sem,hA,hQ,hN];(repeat(refine ndI (by first|assumption) ?_));(first|apply Q1a)))));(simp(disch:=omega) only[St.eff,setO,Q0w,go_sem,W]))|((with_reducible refine Q0r ?_ ?_ ?_ ?_);kernel_rfl;kernel_rfl;(first|kernel_rfl);intro R hR)))))
     all_goals exact hJ _ ⟨n,by omega,cmpN_eq h2 (by rw[hp',hq',hpq])⟩ (by simp) (St.le_of (by simp[leT]) (by simp[leH,hget]))
   · have hr:cmpN x y=1:=by
      have hlt:=cmpN_lt h2.symm (by rw[hp',hq'];exact hpq)
      simp[cmpN,hlt,Nat.lt_asymm hlt]
     have d1:decide ((p:Int)<(q:Int))=false:=by simp;omega
     have d2:decide ((p:Int)>(q:Int))=true:=by simp;omega
     (have W:=ndI e1 (ndI d1 (ndI d2 @wrI));(repeat(any_goals(first|((with_reducible refine Q0b ?_ ?_);rfl;intro K hK;simp(disch:=omega) only[go_sem,W];((repeat(refine ndI (by first|assumption) ?_));refine hK _ ?_;clear hK K))|(with_reducible first|(refine Q0c ?_;refine hR _ ?_;clear hR R)|((first|refine Q0d ?_|refine Q0f ?_);intro J hJ hJ')|(refine Q0a ?_;intro R hR)|(refine hJ _ ?_;clear hJ hJ' J)|refine Q0g ?_|refine Q0j ?_)|((with_reducible refine hJ' _ _ ?_ ?_);(focus(simp;done));clear hJ hJ' J)|((with_reducible apply Q0e);rfl;rfl;all_goals(intro hc;first|(cases hc;done)|(try simp only at hc)))|((with_reducible refine Q0v ?_ ?_);kernel_rfl;(with_reducible refine hR _ ?_);clear hR R)|((first|((with_reducible apply Q1j);rfl;rfl;(first|((apply Q0u (b1);rfl;rfl;rfl;rfl;exact Tryz.func175);kernel_rfl;rfl;(focus((simp(disch:=omega) only[go_sem,W]);(try rfl);done));(first|rfl))|((apply Q0u (b2);rfl;rfl;rfl;rfl;exact Tryz.func175);kernel_rfl;rfl;(focus((simp(disch:=omega) only[go_sem,W]);(try rfl);done));(first|rfl))))|((with_reducible apply Q0t);rfl;rfl;(simp(disch:=omega) only[rdE,rdOf,go_sem,W];rfl);(intro τ hA hQ hN;((try simp only[Q1e,Op.operands,Call.operands,go_sem,W,go_sem,List.mem_cons,List.not_mem_nil,forall_eq_or_imp,forall_eq,List.append_toArray,Option.toArray] at hA);(try simp only[go_sem,W,List.mem_cons,List.not_mem_nil,forall_eq_or_imp,forall_eq] at hQ hN);(first|(revert hA;intro hA));(first|(revert hQ;intro hQ));(first|(revert hN;intro hN));simp(disch:=omega) only[go_sem,W,go_sem,hA,hQ,hN];(repeat(refine ndI (by first|assumption) ?_));(first|apply Q1a)))));(simp(disch:=omega) only[St.eff,setO,Q0w,go_sem,W]))|((with_reducible refine Q0r ?_ ?_ ?_ ?_);kernel_rfl;kernel_rfl;(first|kernel_rfl);intro R hR)))))
     all_goals rw[hr]
     all_goals(refine⟨by simp,⟨_,?_,AV.le_refl _⟩,Q0h (by simp[leH,hget])⟩;simp only[Tryz.results148,resL,ldA,Q0q,go_sem])
end
section
open Go.RowKit
open Nat (reduceBEq)
set_option maxRecDepth 20000
set_option maxHeartbeats 2000000
theorem St.le_setD{T:List AV}{H:List (Nat×List AV)}{k:Nat}{x y:AV}(hx:T.getD k .any=x)(hk:k<T.length)(h:x.le y):(St.mk T H).le (St.mk (T.set k y) H):=
 ⟨by simp,fun i=>by
   show(T.getD i .any).le ((T.set k y).getD i .any)
   rw[List.getD_eq_getElem?_getD,List.getD_eq_getElem?_getD]
   by_cases e:k=i
   · subst e
     rw[List.getElem?_set_self hk,←List.getD_eq_getElem?_getD,hx]
     exact h
   · rw[List.getElem?_set_ne e]
     exact AV.le_refl _,fun _ _ h=>h⟩
theorem St.le_trans{a b c:St}(h:a.le b)(g:b.le c):a.le c:=
 ⟨h.1.trans g.1,fun i S ι w v hv=>g.2 i S ι w v (h.2 i S ι w v hv),fun r cs hr=>h.3 r cs (g.3 r cs hr)⟩
def posD:List Int→Int→Nat
 |[],_=>0
 |y::l,x=>if y<x then posD l x+1 else 0
theorem X7s:∀(l:List Int) (x:Int),posD l x≤l.length
 |[],_=>Nat.le_refl _
 |y::l,x=>by
  have:=X7s l x
  unfold posD
  split
  · rw[List.length_cons];omega
  · exact Nat.zero_le _
theorem posD_lt:∀{l:List Int} {x:Int} {i:Nat} {y:Int},i<posD l x→l[i]? = some y→y<x
 |[],x,i,y,h,hy=>by cases hy
 |z::l,x,i,y,h,hy=>by
  unfold posD at h
  split at h
  · rename_i hz
    cases i with
    |zero=>cases hy;exact hz
    |succ i=>exact posD_lt (Nat.lt_of_succ_lt_succ h) hy
  · omega
theorem posD_ge:∀{l:List Int} {x:Int} {y:Int},l[posD l x]? = some y→x≤y
 |[],x,y,hy=>by cases hy
 |z::l,x,y,hy=>by
  unfold posD at hy
  split at hy
  · exact posD_ge (l:=l) hy
  · rename_i hz
    cases hy
    omega
def insD(l:List Int)(x:Int):List Int:=if l[posD l x]? = some x then l else l.take (posD l x)++([x]++l.drop (posD l x))
def resD(l:List Int):Nat→List Int
 |0=>[]
 |i+1=>match l[i]? with
  |none=>resD l i
  |some x=>insD (resD l i) x
theorem insD_len(l:List Int)(x:Int):(insD l x).length≤l.length+1:=by
 unfold insD
 split
 · omega
 · simp;have:=X7s l x;omega
theorem X2t(l:List Int):∀i,(resD l i).length≤i
 |0=>Nat.le_refl _
 |i+1=>by
  have ih:=X2t l i
  unfold resD
  split
  · omega
  · have:=insD_len (resD l i) ‹Int›;omega
theorem asl_map(l:List Int):l.flatMap apv=l.map fun a=>PV.v (.int .u64 a):=by
 induction l with
 |nil=>rfl
 |cons a l ih=>rw[List.flatMap_cons,ih];rfl
theorem asl_drop(l:List Int)(k:Nat):(l.flatMap apv).drop k=(l.drop k).flatMap apv:=by
 rw[asl_map,asl_map,List.map_drop]
theorem Z1d(ex:Bool)(l:List Int)(hl:l.length≤100000):Fn Tryz.prog 40 [asl ex l] [] (asl false (resD l l.length)) []:=by
 obtain⟨tot,htot⟩:∃t,resD l l.length=t:=⟨_,rfl⟩
 rw[htot]
 (refine Q0z Tryz.func40 rfl (by rfl) ?_;simp only[Tryz.ntmps40,List.length_cons,List.length_nil,Nat.reduceAdd,Nat.reduceSub,List.replicate,List.cons_append,List.nil_append])
 (repeat(any_goals(first|((with_reducible refine Q0b ?_ ?_);rfl;intro K hK;simp only[go_sem];((repeat(refine ndI (by first|assumption) ?_));refine hK _ ?_;clear hK K))|(with_reducible first|(refine Q0c ?_;refine hR _ ?_;clear hR R)|((first|refine Q0d ?_|refine Q0f ?_);intro J hJ hJ')|(refine Q0a ?_;intro R hR)|(refine hJ _ ?_;clear hJ hJ' J)))))
 refine Q1s l.length (fun i=>⟨[asl ex l,.any,.any,asl false (resD l i),vi .i64 (i:Int),.any,.any,.any,.any,.any,.any,.any,.any,.any,.any,.any,.any,.any,.any,.any,.any,.any,.any,.any,.any,.any,.any,.any,.any,.any,.any,.any,.any,.any,.any,.any,.any,.any,.any,.any,.any,.any,.any,.any,.any,.any,.any,.any,.any,.any,.any,.any,.any,.any,.any,.any,.any,.any,.any],[]⟩) (St.le_trans (St.le_setD (k:=3) (x:=.c (.v (.slice none 0 0))) rfl (by simp) (AV.le_nil false 1)) (St.le_of (by simp[leT,resD]) (by simp[leH]))) ?_
 intro i hi J hJ hJ'
 (try dsimp only at hJ ⊢)
 rcases Nat.lt_or_ge i l.length with hlt|hge
 · have k1:(decide ((i:Int)<(l.length:Int)))=true:=by simp;omega
   have k7:(i:Int)+1=((i+1:Nat):Int):=by omega
   obtain⟨x,hx⟩:∃x,l[i]? = some x:=⟨_,List.getElem?_eq_getElem hlt⟩
   have k2:=X0y hx
   have hol:=X2t l i
   have hrs:resD l (i+1)=insD (resD l i) x:=by
    show(match l[i]? with|none=>_|some x=>_)=_
    rw[hx]
   rw[hrs] at hJ
   generalize resD l i=out at hol hJ ⊢
   obtain⟨p,hp⟩:∃p,posD out x=p:=⟨_,rfl⟩
   obtain⟨nxt,hnx⟩:∃r,insD out x=r:=⟨_,rfl⟩
   have hpl:p≤out.length:=by rw[←hp];exact X7s out x
   have hlow:∀a y,a<p→out[a]? = some y→y<x:=fun a y ha hy=>posD_lt (by rw[hp];exact ha) hy
   have hge':∀y,out[p]? = some y→x≤y:=fun y hy=>posD_ge (by rw[hp];exact hy)
   have hdup:out[p]? = some x→nxt=out:=fun h=>by rw[←hnx];unfold insD;rw[hp,if_pos h]
   have hnew:out[p]?≠some x→nxt=out.take p++([x]++out.drop p):=fun h=>by rw[←hnx];unfold insD;rw[hp,if_neg h]
   rw[hnx] at hJ
   clear hrs hp hnx
   (repeat(any_goals(first|((with_reducible refine Q0b ?_ ?_);rfl;intro K hK;simp(disch:=omega) only[go_sem,k1];((repeat(refine ndI (by first|assumption|rfl) ?_));refine hK _ ?_;clear hK K))|(with_reducible first|(refine Q0c ?_;refine hR _ ?_;clear hR R)|((first|refine Q0d ?_|refine Q0f ?_);intro J hJ hJ')|(refine Q0a ?_;intro R hR)|(refine hJ _ ?_;clear hJ hJ' J)|refine Q0g ?_)|((with_reducible apply Q0e);rfl;rfl;all_goals(intro hc;first|(cases hc;done)|(try simp only at hc))))))
   refine Q1s p (fun a=>⟨[asl ex l,.any,.any,asl false out,vi .i64 (i:Int),vi .i64 (a:Int),.any,.any,.any,.any,.any,.any,.any,.any,.any,.any,.any,.any,.any,.any,.any,.any,.any,.any,.any,.any,.any,.any,.any,.any,.any,.any,.any,.any,.any,.any,.any,.any,.any,.any,.any,.any,.any,.any,.any,.any,.any,.any,.any,.any,.any,.any,.any,.any,.any,.any,.any,.any,.any],[]⟩) (St.le_of (by simp[leT]) (by simp[leH])) ?_
   intro a ha J hJ hJ'
   (try dsimp only at hJ ⊢)
   rcases Nat.lt_or_ge a p with halt|hage
   · obtain⟨y,hy⟩:∃y,out[a]? = some y:=⟨_,List.getElem?_eq_getElem (by omega)⟩
     have n1:(decide ((a:Int)<(out.length:Int)))=true:=by simp;omega
     have n2:(decide (y<x))=true:=decide_eq_true (hlow a y halt hy)
     have n3:=X0y hy
     have n7:(a:Int)+1=((a+1:Nat):Int):=by omega
     have hal:a<out.length:=by omega
     (have W:=ndI n1 (ndI n2 (ndI n3 (ndI n7 (ndI k2 @wrI))));(repeat(any_goals(first|((with_reducible refine Q0b ?_ ?_);rfl;intro K hK;simp(disch:=omega) only[go_sem,W,Nat.mul_one];((repeat(refine ndI (by first|assumption|rfl) ?_));refine hK _ ?_;clear hK K))|(with_reducible first|(refine Q0c ?_;refine hR _ ?_;clear hR R)|((first|refine Q0d ?_|refine Q0f ?_);intro J hJ hJ')|(refine Q0a ?_;intro R hR)|(refine hJ _ ?_;clear hJ hJ' J)|refine Q0g ?_)|((with_reducible refine hJ' _ _ ?_ ?_);(focus(simp;done));clear hJ hJ' J)|((with_reducible apply Q0e);rfl;rfl;all_goals(intro hc;first|(cases hc;done)|(try simp only at hc)))|((with_reducible refine Q0v ?_ ?_);kernel_rfl;(with_reducible refine hR _ ?_);clear hR R)|((first|((first|((with_reducible apply Q0t);rfl;rfl)|((with_reducible apply Q2v);rfl;rfl;rfl;rfl;rfl));(simp(disch:=omega) only[rdE,rdOf,go_sem,W,Nat.mul_one];rfl);(intro τ hA hQ hN;((try simp only[Q1e,Op.operands,Call.operands,go_sem,W,Nat.mul_one,go_sem,List.mem_cons,List.not_mem_nil,forall_eq_or_imp,forall_eq,List.append_toArray,Option.toArray] at hA);(try simp only[go_sem,W,Nat.mul_one,List.mem_cons,List.not_mem_nil,forall_eq_or_imp,forall_eq] at hQ hN);(first|(revert hA;intro hA));(first|(revert hQ;intro hQ));(first|(revert hN;intro hN));simp(disch:=omega) only[go_sem,W,Nat.mul_one,go_sem,hA,hQ,hN];(repeat(refine ndI (by first|assumption|omega|rfl) ?_));(first|apply Q1a)))));(simp(disch:=omega) only[St.eff,setO,Q0w,go_sem,W,Nat.mul_one]))|((with_reducible refine Q0r ?_ ?_ ?_ ?_);kernel_rfl;kernel_rfl;(first|kernel_rfl);intro R hR)))))
     all_goals exact hJ _ halt (St.le_of (by simp[leT]) (by simp[leH]))
   · have eap:a=p:=by omega
     rw[eap]
     obtain⟨T,hT⟩:∃T,(out.take p).flatMap apv=T:=⟨_,rfl⟩
     obtain⟨D,hD⟩:∃D,(out.drop p).flatMap apv=D:=⟨_,rfl⟩
     have f1:(out.flatMap apv).take p=T:=by rw[asl_take,hT]
     have f2:((out.flatMap apv).drop p).take (out.length-p)=D:=by
      rw[asl_drop,hD,List.take_of_length_le]
      rw[←hD,Q0p Q3v,List.length_drop]
      omega
     have f3:T.length=p:=by rw[←hT,Q0p Q3v,List.length_take];omega
     have f4:D.length=out.length-p:=by rw[←hD,Q0p Q3v,List.length_drop];omega
     have heq:out[p]?≠some x→AV.c (.sl false 1 (p+(1+(out.length-p))) (T++(PV.v (.int .u64 x)::D)))=asl false nxt:=fun h=>by
      rw[hnew h]
      unfold asl
      rw[List.flatMap_append,List.flatMap_append,hT,hD,List.length_append,List.length_append,List.length_take,List.length_drop,Nat.min_eq_left hpl]
      rfl
     rcases Nat.lt_or_ge p out.length with hpL|hpL
     · obtain⟨y,hy⟩:∃y,out[p]? = some y:=⟨_,List.getElem?_eq_getElem hpL⟩
       have n1:(decide ((p:Int)<(out.length:Int)))=true:=by simp;omega
       have n2:(decide (y<x))=false:=decide_eq_false (by have:=hge' y hy;omega)
       have n3:=X0y hy
       by_cases hyx:y=x
       · have n4:(y==x)=true:=by simp[hyx]
         have en:=hdup (by rw[hy,hyx])
         (have W:=ndI n1 (ndI n2 (ndI n3 (ndI n4 (ndI k2 (ndI k7 @wrI)))));(repeat(any_goals(first|((with_reducible refine Q0b ?_ ?_);rfl;intro K hK;simp(disch:=omega) only[go_sem,W,Nat.mul_one];((repeat(refine ndI (by first|assumption|rfl) ?_));refine hK _ ?_;clear hK K))|(with_reducible first|(refine Q0c ?_;refine hR _ ?_;clear hR R)|((first|refine Q0d ?_);intro J hJ hJ')|(refine Q0a ?_;intro R hR)|(refine hJ _ ?_;clear hJ hJ' J)|refine Q0o ?_)|((with_reducible refine hJ' _ _ ?_ ?_);(focus(simp;done));clear hJ hJ' J)|((with_reducible apply Q0e);rfl;rfl;all_goals(intro hc;first|(cases hc;done)|(try simp only at hc)))|((with_reducible refine Q0v ?_ ?_);kernel_rfl;(with_reducible refine hR _ ?_);clear hR R)|((first|((first|((with_reducible apply Q0t);rfl;rfl)|((with_reducible apply Q2v);rfl;rfl;rfl;rfl;rfl));(simp(disch:=omega) only[rdE,rdOf,go_sem,W,Nat.mul_one];rfl);(intro τ hA hQ hN;((try simp only[Q1e,Op.operands,Call.operands,go_sem,W,Nat.mul_one,go_sem,List.mem_cons,List.not_mem_nil,forall_eq_or_imp,forall_eq,List.append_toArray,Option.toArray] at hA);(try simp only[go_sem,W,Nat.mul_one,List.mem_cons,List.not_mem_nil,forall_eq_or_imp,forall_eq] at hQ hN);(first|(revert hA;intro hA));(first|(revert hQ;intro hQ));(first|(revert hN;intro hN));simp(disch:=omega) only[go_sem,W,Nat.mul_one,go_sem,hA,hQ,hN];(repeat(refine ndI (by first|assumption|omega|rfl) ?_));(first|apply Q1a)))));(simp(disch:=omega) only[St.eff,setO,Q0w,go_sem,W,Nat.mul_one]))|((with_reducible refine Q0r ?_ ?_ ?_ ?_);kernel_rfl;kernel_rfl;(first|kernel_rfl);intro R hR)))))
         all_goals exact hJ _ hlt (St.le_of (by simp[leT,en]) (by simp[leH]))
       · have n4:(y==x)=false:=by simp[hyx]
         have en:=heq (by rw[hy];exact fun e=>hyx (Option.some.inj e))
         (have W:=ndI n1 (ndI n2 (ndI n3 (ndI n4 (ndI k2 (ndI k7 (ndI f1 (ndI f2 @wrI)))))));(repeat(any_goals(first|((with_reducible refine Q0b ?_ ?_);rfl;intro K hK;simp(disch:=omega) only[go_sem,W,en,eq_self,decide_true,Nat.mul_one];((repeat(refine ndI (by first|assumption|rfl) ?_));refine hK _ ?_;clear hK K))|(with_reducible first|(refine Q0c ?_;refine hR _ ?_;clear hR R)|((first|refine Q0d ?_);intro J hJ hJ')|(refine Q0a ?_;intro R hR)|(refine hJ _ ?_;clear hJ hJ' J)|refine Q0g ?_|refine Q0o ?_)|((with_reducible refine hJ' _ _ ?_ ?_);(focus(simp;done));clear hJ hJ' J)|((with_reducible apply Q0e);rfl;rfl;all_goals(intro hc;first|(cases hc;done)|(try simp only at hc)))|((with_reducible refine Q0v ?_ ?_);kernel_rfl;(with_reducible refine hR _ ?_);clear hR R)|((first|((first|((with_reducible apply Q0t);rfl;rfl)|((with_reducible apply Q2v);rfl;rfl;rfl;rfl;rfl));(simp(disch:=omega) only[rdE,rdOf,go_sem,W,en,eq_self,decide_true,Nat.mul_one];rfl);(intro τ hA hQ hN;((try simp only[Q1e,Op.operands,Call.operands,go_sem,W,en,eq_self,decide_true,Nat.mul_one,go_sem,List.mem_cons,List.not_mem_nil,forall_eq_or_imp,forall_eq,List.append_toArray,Option.toArray] at hA);(try simp only[go_sem,W,en,eq_self,decide_true,Nat.mul_one,List.mem_cons,List.not_mem_nil,forall_eq_or_imp,forall_eq] at hQ hN);(first|(revert hA;intro hA));(first|(revert hQ;intro hQ));(first|(revert hN;intro hN));simp(disch:=omega) only[go_sem,W,en,eq_self,decide_true,Nat.mul_one,go_sem,hA,hQ,hN];(repeat(refine ndI (by first|assumption|omega|rfl) ?_));(first|apply Q1a))))|((with_reducible apply Q4q);rfl;rfl;rfl;rfl;(focus(simp only[go_sem];try rfl));(first|omega);(first|omega);rfl;rfl;(focus(first|omega|(simp(disch:=omega) only[go_sem,W,en,eq_self,decide_true,Nat.mul_one,spl,List.length_append,List.length_map,List.length_take,List.length_drop,List.length_replicate];omega)));(focus(first|omega|(focus(simp[spl];done))));(focus(first|omega));rfl;(focus(first|omega)))|((first|((with_reducible apply Q3j);rfl));apply Q3n;rfl;rfl;(focus(simp only[go_sem];try rfl));(focus(simp only[go_sem];try rfl));rfl;(first|omega);(first|omega);(first|omega);(simp(disch:=omega) only[go_sem,W,en,eq_self,decide_true,Nat.mul_one];rfl);rfl;(focus((simp(disch:=omega) only[unC,Option.map_some]);(try rfl)))));(simp(disch:=omega) only[St.eff,setO,Q0w,go_sem,W,en,eq_self,decide_true,Nat.mul_one]))|((with_reducible refine Q0r ?_ ?_ ?_ ?_);kernel_rfl;kernel_rfl;(first|kernel_rfl);intro R hR)))))
         all_goals exact hJ _ hlt (St.le_of (by simp[leT]) (by simp[leH]))
     · have n1:(decide ((p:Int)<(out.length:Int)))=false:=by simp;omega
       have en:=heq (by rw[List.getElem?_eq_none hpL];exact fun e=>by cases e)
       (have W:=ndI n1 (ndI k2 (ndI k7 (ndI f1 (ndI f2 @wrI))));(repeat(any_goals(first|((with_reducible refine Q0b ?_ ?_);rfl;intro K hK;simp(disch:=omega) only[go_sem,W,en,eq_self,decide_true,Nat.mul_one];((repeat(refine ndI (by first|assumption|rfl) ?_));refine hK _ ?_;clear hK K))|(with_reducible first|(refine Q0c ?_;refine hR _ ?_;clear hR R)|((first|refine Q0d ?_);intro J hJ hJ')|(refine Q0a ?_;intro R hR)|(refine hJ _ ?_;clear hJ hJ' J)|refine Q0g ?_|refine Q0o ?_)|((with_reducible refine hJ' _ _ ?_ ?_);(focus(simp;done));clear hJ hJ' J)|((with_reducible apply Q0e);rfl;rfl;all_goals(intro hc;first|(cases hc;done)|(try simp only at hc)))|((with_reducible refine Q0v ?_ ?_);kernel_rfl;(with_reducible refine hR _ ?_);clear hR R)|((first|((with_reducible apply Q3e);rfl;rfl;rfl;rfl)|((first|((with_reducible apply Q0t);rfl;rfl));(simp(disch:=omega) only[rdE,rdOf,go_sem,W,en,eq_self,decide_true,Nat.mul_one];rfl);(intro τ hA hQ hN;((try simp only[Q1e,Op.operands,Call.operands,go_sem,W,en,eq_self,decide_true,Nat.mul_one,go_sem,List.mem_cons,List.not_mem_nil,forall_eq_or_imp,forall_eq,List.append_toArray,Option.toArray] at hA);(try simp only[go_sem,W,en,eq_self,decide_true,Nat.mul_one,List.mem_cons,List.not_mem_nil,forall_eq_or_imp,forall_eq] at hQ hN);(first|(revert hA;intro hA));(first|(revert hQ;intro hQ));(first|(revert hN;intro hN));simp(disch:=omega) only[go_sem,W,en,eq_self,decide_true,Nat.mul_one,go_sem,hA,hQ,hN];(repeat(refine ndI (by first|assumption|omega|rfl) ?_));(first|apply Q1a))))|((with_reducible apply Q4q);rfl;rfl;rfl;rfl;(focus(simp only[go_sem];try rfl));(first|omega);(first|omega);rfl;rfl;(focus(first|omega|(simp(disch:=omega) only[go_sem,W,en,eq_self,decide_true,Nat.mul_one,spl,List.length_append,List.length_map,List.length_take,List.length_drop,List.length_replicate];omega)));(focus(first|omega|(focus(simp[spl];done))));(focus(first|omega));rfl;(focus(first|omega)))|((first|((with_reducible apply Q3j);rfl));apply Q3n;rfl;rfl;(focus(simp only[go_sem];try rfl));(focus(simp only[go_sem];try rfl));rfl;(first|omega);(first|omega);(first|omega);(simp(disch:=omega) only[go_sem,W,en,eq_self,decide_true,Nat.mul_one];rfl);rfl;(focus((simp(disch:=omega) only[unC,Option.map_some]);(try rfl)))));(simp(disch:=omega) only[St.eff,setO,Q0w,go_sem,W,en,eq_self,decide_true,Nat.mul_one]))|((with_reducible refine Q0r ?_ ?_ ?_ ?_);kernel_rfl;kernel_rfl;(first|kernel_rfl);intro R hR)))))
       all_goals exact hJ _ hlt (St.le_of (by simp[leT]) (by simp[leH]))
 · have k1:(decide ((i:Int)<(l.length:Int)))=false:=by simp;omega
   obtain rfl:i=l.length:=by omega
   rw[htot]
   (repeat(any_goals(first|((with_reducible refine Q0b ?_ ?_);rfl;intro K hK;simp only[go_sem,k1];((repeat(refine ndI (by first|assumption) ?_));refine hK _ ?_;clear hK K))|(with_reducible first|(refine Q0c ?_;refine hR _ ?_;clear hR R)|((first|refine Q0d ?_);intro J hJ hJ')|(refine Q0a ?_;intro R hR)|(refine hJ _ ?_;clear hJ hJ' J)|refine Q0j ?_|refine Q0o ?_)|((with_reducible refine hJ' _ _ ?_ ?_);(focus(simp;done));clear hJ hJ' J)|((with_reducible apply Q0e);rfl;rfl;all_goals(intro hc;first|(cases hc;done)|(try simp only at hc))))))
   all_goals(refine⟨by simp,⟨_,?_,AV.le_refl _⟩,Q0h (by simp[leH,hget])⟩;simp only[Tryz.results40,resL,ldA,Q0q,go_sem])
end
section
open Go.RowKit
open Nat (reduceBEq)
attribute [-go_sem] IntKind.bits
set_option maxRecDepth 20000
set_option maxHeartbeats 2000000
theorem cmpN_lt0(x y:Nat):decide (cmpN x y<0)=decide (x<y):=by
 unfold cmpN
 by_cases h:x<y
 · simp[h]
 · by_cases h2:y<x<;>simp[h,h2]
theorem before_fn(s t:Sp)(hs:s.ok)(ht:t.ok):Fn Tryz.prog 116 [spA s,spA t] [] (vb (decide (s.key<t.key))) []:=by
 have cm:=refcmp_fn s.k t.k hs.2 ht.2
 have e3:=cmpN_lt0 s.k t.k
 have hk:=Sp.key_lt hs ht
 obtain⟨r,hr⟩:∃r,decide (s.key<t.key)=r:=⟨_,rfl⟩
 rw[hr]
 generalize cmpN s.k t.k=c at cm e3
 rcases Int.lt_trichotomy s.a t.a with h|h|h
 · have e1:decide (s.a<t.a)=true:=decide_eq_true h
   have er:r=true:=by rw[←hr];exact decide_eq_true (hk.2 (.inl h))
   obtain⟨sa,sk⟩:=s
   obtain⟨ta,tk⟩:=t
   clear hk hr
   dsimp only at *
   (refine Q0z Tryz.func116 rfl (by rfl) ?_;simp only[Tryz.ntmps116,List.length_cons,List.length_nil,Nat.reduceAdd,Nat.reduceSub,List.replicate,List.cons_append,List.nil_append])
   (repeat(any_goals(first|((with_reducible refine Q0b ?_ ?_);rfl;intro K hK;simp only[go_sem,e1];((repeat(refine ndI (by first|assumption) ?_));refine hK _ ?_;clear hK K))|(with_reducible first|(refine Q0c ?_;refine hR _ ?_;clear hR R)|((first|refine Q0d ?_);intro J hJ hJ')|(refine Q0a ?_;intro R hR)|(refine hJ _ ?_;clear hJ hJ' J)|refine Q0j ?_)|((with_reducible apply Q5f);rfl;rfl;rfl;(try simp only[go_sem,e1]))|((with_reducible apply Q0y);rfl;rfl;rfl;all_goals(intro hb;first|(cases hb;done)|((try simp only[Bool.not_true,Bool.not_false] at hb);(first|((fail_if_success (with_reducible intro _));simp only[go_sem,e1]))))))))
   all_goals rw[er]
   all_goals(refine⟨by simp,⟨_,?_,AV.le_refl _⟩,Q0h (by simp[leH,hget])⟩;simp only[Tryz.results116,resL,ldA,Q0q,go_sem])
 · have e1:decide (s.a<t.a)=false:=decide_eq_false (by omega)
   have e2:(s.a==t.a)=true:=by simpa using h
   have er:decide (s.k<t.k)=r:=by
    rw[←hr]
    exact decide_eq_decide.2 ⟨fun g=>hk.2 (.inr ⟨h,g⟩),fun g=>by rcases hk.1 g with g|g;omega;exact g.2⟩
   rw[er] at e3
   obtain⟨sa,sk⟩:=s
   obtain⟨ta,tk⟩:=t
   clear hk hr er
   dsimp only at *
   (refine Q0z Tryz.func116 rfl (by rfl) ?_;simp only[Tryz.ntmps116,List.length_cons,List.length_nil,Nat.reduceAdd,Nat.reduceSub,List.replicate,List.cons_append,List.nil_append])
   (have W:=ndI e1 (ndI e2 e3);(repeat(any_goals(first|((with_reducible refine Q0b ?_ ?_);rfl;intro K hK;simp only[go_sem,W];((repeat(refine ndI (by first|assumption) ?_));refine hK _ ?_;clear hK K))|(with_reducible first|(refine Q0c ?_;refine hR _ ?_;clear hR R)|((first|refine Q0d ?_);intro J hJ hJ')|(refine Q0a ?_;intro R hR)|(refine hJ _ ?_;clear hJ hJ' J)|refine Q0j ?_)|((with_reducible apply Q0y);rfl;rfl;rfl;all_goals(intro hb;first|(cases hb;done)|((try simp only[Bool.not_true,Bool.not_false] at hb);(first|((with_reducible intro K hK);(first|((apply Q0k (cm);rfl;rfl;rfl;rfl;exact Tryz.func148);kernel_rfl;rfl;(focus((simp only[go_sem,W]);(try rfl);done));(first|rfl))|skip);simp only[go_sem,W];((repeat(refine ndI (by first|assumption) ?_));refine hK _ ?_;clear hK K))))))))))
   all_goals(refine⟨by simp,⟨_,?_,AV.le_refl _⟩,Q0h (by simp[leH,hget])⟩;simp only[Tryz.results116,resL,ldA,Q0q,go_sem])
 · have e1:decide (s.a<t.a)=false:=decide_eq_false (by omega)
   have e2:(s.a==t.a)=false:=by
    rw[beq_eq_false_iff_ne];omega
   have er:r=false:=by rw[←hr];exact decide_eq_false fun g=>by rcases hk.1 g with g|g;omega;omega
   obtain⟨sa,sk⟩:=s
   obtain⟨ta,tk⟩:=t
   clear hk hr
   dsimp only at *
   (refine Q0z Tryz.func116 rfl (by rfl) ?_;simp only[Tryz.ntmps116,List.length_cons,List.length_nil,Nat.reduceAdd,Nat.reduceSub,List.replicate,List.cons_append,List.nil_append])
   (repeat(any_goals(first|((with_reducible refine Q0b ?_ ?_);rfl;intro K hK;simp only[go_sem,e1,e2];((repeat(refine ndI (by first|assumption) ?_));refine hK _ ?_;clear hK K))|(with_reducible first|(refine Q0c ?_;refine hR _ ?_;clear hR R)|((first|refine Q0d ?_);intro J hJ hJ')|(refine Q0a ?_;intro R hR)|(refine hJ _ ?_;clear hJ hJ' J)|refine Q0j ?_)|((with_reducible apply Q0y);rfl;rfl;rfl;all_goals(intro hb;first|(cases hb;done)|((try simp only[Bool.not_true,Bool.not_false] at hb);(first|((with_reducible intro K hK);(first|skip);simp only[go_sem,e1,e2];((repeat(refine ndI (by first|assumption) ?_));refine hK _ ?_;clear hK K))|((fail_if_success (with_reducible intro _));simp only[go_sem,e1,e2]))))))))
   all_goals rw[er]
   all_goals(refine⟨by simp,⟨_,?_,AV.le_refl _⟩,Q0h (by simp[leH,hget])⟩;simp only[Tryz.results116,resL,ldA,Q0q,go_sem])
theorem sameA_fn(e1 e2:Bool)(l m:List Int)(hl:l.length≤1000000)(hm:m.length≤1000000):Fn Tryz.prog 18 [asl e1 l,asl e2 m] [] (vb (decide (l=m))) []:=by
 by_cases hlen:l.length=m.length
 · have k0:((l.length:Int) != (m.length:Int))=false:=by rw[hlen];simp
   obtain⟨r,hr⟩:∃r,decide (l=m)=r:=⟨_,rfl⟩
   rw[hr]
   (refine Q0z Tryz.func18 rfl (by rfl) ?_;simp only[Tryz.ntmps18,List.length_cons,List.length_nil,Nat.reduceAdd,Nat.reduceSub,List.replicate,List.cons_append,List.nil_append])
   (repeat(any_goals(first|((with_reducible refine Q0b ?_ ?_);rfl;intro K hK;simp only[go_sem,k0];((repeat(refine ndI (by first|assumption) ?_));refine hK _ ?_;clear hK K))|(with_reducible first|(refine Q0c ?_;refine hR _ ?_;clear hR R)|((first|refine Q0d ?_|refine Q0f ?_);intro J hJ hJ')|(refine Q0a ?_;intro R hR)|(refine hJ _ ?_;clear hJ hJ' J)|refine Q0g ?_)|((with_reducible apply Q0e);rfl;rfl;all_goals(intro hc;first|(cases hc;done)|(try simp only at hc))))))
   refine Q1t (α:={i:Nat // i≤l.length∧∀j,j<i→l[j]? = m[j]?}) (fun p=>⟨[asl e1 l,asl e2 m,.any,.any,vb false,vi .i64 (p.1:Int),.any,.any,.any,.any,.any,.any,.any,.any,.any,.any,.any,.any,.any,.any,.any,.any,.any,.any,.any,.any],[]⟩) (fun p=>l.length-p.1) ⟨0,Nat.zero_le _,fun j hj=>by omega⟩ (St.le_of (by simp[leT]) (by simp[leH])) ?_
   rintro ⟨i,hi,hno⟩ J hJ hJ'
   (try dsimp only at hi hJ ⊢)
   rcases Nat.lt_or_ge i l.length with hlt|hge
   · have k1:(decide ((i:Int)<(l.length:Int)))=true:=decide_eq_true (by omega)
     have k7:(i:Int)+1=((i+1:Nat):Int):=by omega
     obtain⟨x,hx⟩:∃x,l[i]? = some x:=⟨_,List.getElem?_eq_getElem hlt⟩
     obtain⟨y,hy⟩:∃y,m[i]? = some y:=⟨_,List.getElem?_eq_getElem (by omega)⟩
     have hlm:i<m.length:=by omega
     have k2:=X0y hx
     have k3:=X0y hy
     have k4:=a_ne x y
     by_cases hxy:x=y
     · rw[decide_eq_true hxy,Bool.not_true] at k4
       (have W:=ndI k1 (ndI k2 (ndI k3 (ndI k4 (ndI k7 @wrI))));(repeat(any_goals(first|((with_reducible refine Q0b ?_ ?_);rfl;intro K hK;simp(disch:=omega) only[go_sem,W,Nat.mul_one];((repeat(refine ndI (by first|assumption|rfl) ?_));refine hK _ ?_;clear hK K))|(with_reducible first|(refine Q0c ?_;refine hR _ ?_;clear hR R)|((first|refine Q0d ?_|refine Q0f ?_);intro J hJ hJ')|(refine Q0a ?_;intro R hR)|(refine hJ _ ?_;clear hJ hJ' J)|refine Q0g ?_)|((with_reducible refine hJ' _ _ ?_ ?_);(focus(simp;done));clear hJ hJ' J)|((with_reducible apply Q0e);rfl;rfl;all_goals(intro hc;first|(cases hc;done)|(try simp only at hc)))|((with_reducible refine Q0v ?_ ?_);kernel_rfl;(with_reducible refine hR _ ?_);clear hR R)|(((with_reducible apply Q0t);rfl;rfl;(simp(disch:=omega) only[rdE,rdOf,go_sem,W,Nat.mul_one];rfl);(intro τ hA hQ hN;((try simp only[Q1e,Op.operands,Call.operands,go_sem,W,Nat.mul_one,go_sem,List.mem_cons,List.not_mem_nil,forall_eq_or_imp,forall_eq,List.append_toArray,Option.toArray] at hA);(try simp only[go_sem,W,Nat.mul_one,List.mem_cons,List.not_mem_nil,forall_eq_or_imp,forall_eq] at hQ hN);(first|(revert hA;intro hA));(first|(revert hQ;intro hQ));(first|(revert hN;intro hN));simp(disch:=omega) only[go_sem,W,Nat.mul_one,go_sem,hA,hQ,hN];(repeat(refine ndI (by first|assumption|omega|rfl) ?_));(first|apply Q1a))));(simp(disch:=omega) only[St.eff,setO,Q0w,go_sem,W,Nat.mul_one]))|((with_reducible refine Q0r ?_ ?_ ?_ ?_);kernel_rfl;kernel_rfl;(first|kernel_rfl);intro R hR)))))
       all_goals exact hJ _ ⟨i+1,hlt,fun j hj=>by
        rcases Nat.lt_or_ge j i with h'|h'
        · exact hno j h'
        · obtain rfl:j=i:=by omega
          rw[hx,hy,hxy]⟩ (by simp only;omega) (St.le_of (by simp[leT]) (by simp[leH]))
     · rw[decide_eq_false hxy,Bool.not_false] at k4
       have hrf:r=false:=by
        rw[←hr,decide_eq_false_iff_not]
        intro e;rw[e,hy] at hx;cases hx;exact hxy rfl
       (have W:=ndI k1 (ndI k2 (ndI k3 (ndI k4 (ndI k7 @wrI))));(repeat(any_goals(first|((with_reducible refine Q0b ?_ ?_);rfl;intro K hK;simp(disch:=omega) only[go_sem,W,Nat.mul_one];((repeat(refine ndI (by first|assumption|rfl) ?_));refine hK _ ?_;clear hK K))|(with_reducible first|(refine Q0c ?_;refine hR _ ?_;clear hR R)|((first|refine Q0d ?_|refine Q0f ?_);intro J hJ hJ')|(refine Q0a ?_;intro R hR)|(refine hJ _ ?_;clear hJ hJ' J)|refine Q0g ?_|refine Q0j ?_)|((with_reducible refine hJ' _ _ ?_ ?_);(focus(simp;done));clear hJ hJ' J)|((with_reducible apply Q0e);rfl;rfl;all_goals(intro hc;first|(cases hc;done)|(try simp only at hc)))|((with_reducible refine Q0v ?_ ?_);kernel_rfl;(with_reducible refine hR _ ?_);clear hR R)|(((with_reducible apply Q0t);rfl;rfl;(simp(disch:=omega) only[rdE,rdOf,go_sem,W,Nat.mul_one];rfl);(intro τ hA hQ hN;((try simp only[Q1e,Op.operands,Call.operands,go_sem,W,Nat.mul_one,go_sem,List.mem_cons,List.not_mem_nil,forall_eq_or_imp,forall_eq,List.append_toArray,Option.toArray] at hA);(try simp only[go_sem,W,Nat.mul_one,List.mem_cons,List.not_mem_nil,forall_eq_or_imp,forall_eq] at hQ hN);(first|(revert hA;intro hA));(first|(revert hQ;intro hQ));(first|(revert hN;intro hN));simp(disch:=omega) only[go_sem,W,Nat.mul_one,go_sem,hA,hQ,hN];(repeat(refine ndI (by first|assumption|omega|rfl) ?_));(first|apply Q1a))));(simp(disch:=omega) only[St.eff,setO,Q0w,go_sem,W,Nat.mul_one]))|((with_reducible refine Q0r ?_ ?_ ?_ ?_);kernel_rfl;kernel_rfl;(first|kernel_rfl);intro R hR)))))
       all_goals rw[hrf]
       all_goals(refine⟨by simp,⟨_,?_,AV.le_refl _⟩,Q0h (by simp[leH,hget])⟩;simp only[Tryz.results18,resL,ldA,Q0q,go_sem])
   · have k1:(decide ((i:Int)<(l.length:Int)))=false:=decide_eq_false (by omega)
     have hrt:r=true:=by
      rw[←hr,decide_eq_true_iff]
      refine List.ext_getElem? fun j=>?_
      rcases Nat.lt_or_ge j l.length with h|h
      · exact hno j (by omega)
      · rw[List.getElem?_eq_none h,List.getElem?_eq_none (by omega)]
     (repeat(any_goals(first|((with_reducible refine Q0b ?_ ?_);rfl;intro K hK;simp only[go_sem,k1];((repeat(refine ndI (by first|assumption) ?_));refine hK _ ?_;clear hK K))|(with_reducible first|(refine Q0c ?_;refine hR _ ?_;clear hR R)|((first|refine Q0d ?_);intro J hJ hJ')|(refine Q0a ?_;intro R hR)|(refine hJ _ ?_;clear hJ hJ' J)|refine Q0j ?_|refine Q0o ?_)|((with_reducible refine hJ' _ _ ?_ ?_);(focus(simp;done));clear hJ hJ' J)|((with_reducible apply Q0e);rfl;rfl;all_goals(intro hc;first|(cases hc;done)|(try simp only at hc))))))
     all_goals rw[hrt]
     all_goals(refine⟨by simp,⟨_,?_,AV.le_refl _⟩,Q0h (by simp[leH,hget])⟩;simp only[Tryz.results18,resL,ldA,Q0q,go_sem])
 · have k0:((l.length:Int) != (m.length:Int))=true:=by simp;omega
   have he:decide (l=m)=false:=by rw[decide_eq_false_iff_not];intro e;exact hlen (by rw[e])
   rw[he]
   (refine Q0z Tryz.func18 rfl (by rfl) ?_;simp only[Tryz.ntmps18,List.length_cons,List.length_nil,Nat.reduceAdd,Nat.reduceSub,List.replicate,List.cons_append,List.nil_append])
   (repeat(any_goals(first|((with_reducible refine Q0b ?_ ?_);rfl;intro K hK;simp only[go_sem,k0];((repeat(refine ndI (by first|assumption) ?_));refine hK _ ?_;clear hK K))|(with_reducible first|(refine Q0c ?_;refine hR _ ?_;clear hR R)|((first|refine Q0d ?_);intro J hJ hJ')|(refine Q0a ?_;intro R hR)|(refine hJ _ ?_;clear hJ hJ' J)|refine Q0j ?_)|((with_reducible refine hJ' _ _ ?_ ?_);(focus(simp;done));clear hJ hJ' J)|((with_reducible apply Q0e);rfl;rfl;all_goals(intro hc;first|(cases hc;done)|(try simp only at hc))))))
   all_goals(refine⟨by simp,⟨_,?_,AV.le_refl _⟩,Q0h (by simp[leH,hget])⟩;simp only[Tryz.results18,resL,ldA,Q0q,go_sem])
theorem X9u{a:Nat}(h:a+1<18446744073709551616):IntKind.u64.wrap ((a:Int)+1)=((a+1:Nat):Int)∧(((a+1:Nat):Int) != 0)=true:=by
 refine⟨?_,?_⟩
 · rw[show(a:Int)+1=((a+1:Nat):Int) by omega]
   exact wrU (by omega) (by omega)
 · rw[bne_iff_ne];omega
theorem Q9i{a:Nat}(h:a+1=18446744073709551616):IntKind.u64.wrap ((a:Int)+1)=0:=by
 obtain rfl:a=18446744073709551615:=by omega
 rfl
theorem inc_cases{n:Nat}(h:n<WW) :
 (∃x,(IntKind.u64.wrap (l0 n+1)=x∧(x != 0)=true)∧n+1<WW∧l0 (n+1)=x∧l1 (n+1)=l1 n∧l2 (n+1)=l2 n∧l3 (n+1)=l3 n) ∨
 (∃x,(IntKind.u64.wrap (l0 n+1)=0∧IntKind.u64.wrap (l1 n+1)=x∧(x != 0)=true)∧n+1<WW∧l0 (n+1)=0∧l1 (n+1)=x∧l2 (n+1)=l2 n∧l3 (n+1)=l3 n) ∨
 (∃x,(IntKind.u64.wrap (l0 n+1)=0∧IntKind.u64.wrap (l1 n+1)=0∧IntKind.u64.wrap (l2 n+1)=x∧(x != 0)=true)∧n+1<WW∧l0 (n+1)=0∧l1 (n+1)=0∧l2 (n+1)=x∧l3 (n+1)=l3 n) ∨
 (∃x,(IntKind.u64.wrap (l0 n+1)=0∧IntKind.u64.wrap (l1 n+1)=0∧IntKind.u64.wrap (l2 n+1)=0∧IntKind.u64.wrap (l3 n+1)=x∧(x != 0)=true)∧n+1<WW∧l0 (n+1)=0∧l1 (n+1)=0∧l2 (n+1)=0∧l3 (n+1)=x) ∨
 ((IntKind.u64.wrap (l0 n+1)=0∧IntKind.u64.wrap (l1 n+1)=0∧IntKind.u64.wrap (l2 n+1)=0∧IntKind.u64.wrap (l3 n+1)=0)∧n+1=WW):=by
 obtain⟨a,b,c,d,e,ha,hb,hc,hd,e0,e1,e2,e3⟩:=Q5m h
 have hW:WW=115792089237316195423570985008687907853269984665640564039457584007913129639936:=rfl
 rw[e0,e1,e2,e3]
 rcases Nat.lt_or_ge (a+1) 18446744073709551616 with h0|h0
 · obtain⟨f0,f1,f2,f3⟩:=Q4t (n:=n+1) (s0:=a+1) (s1:=b) (s2:=c) (s3:=d) (by omega) h0 hb hc hd
   exact .inl ⟨_,X9u h0,by omega,f0,f1,f2,f3⟩
 have h0:a+1=18446744073709551616:=by omega
 refine .inr ?_
 rw[Q9i h0]
 rcases Nat.lt_or_ge (b+1) 18446744073709551616 with h1|h1
 · obtain⟨f0,f1,f2,f3⟩:=Q4t (n:=n+1) (s0:=0) (s1:=b+1) (s2:=c) (s3:=d) (by omega) (by omega) h1 hc hd
   exact .inl ⟨_,⟨rfl,X9u h1⟩,by omega,f0,f1,f2,f3⟩
 have h1:b+1=18446744073709551616:=by omega
 refine .inr ?_
 rw[Q9i h1]
 rcases Nat.lt_or_ge (c+1) 18446744073709551616 with h2|h2
 · obtain⟨f0,f1,f2,f3⟩:=Q4t (n:=n+1) (s0:=0) (s1:=0) (s2:=c+1) (s3:=d) (by omega) (by omega) (by omega) h2 hd
   exact .inl ⟨_,⟨rfl,rfl,X9u h2⟩,by omega,f0,f1,f2,f3⟩
 have h2:c+1=18446744073709551616:=by omega
 refine .inr ?_
 rw[Q9i h2]
 rcases Nat.lt_or_ge (d+1) 18446744073709551616 with h3|h3
 · obtain⟨f0,f1,f2,f3⟩:=Q4t (n:=n+1) (s0:=0) (s1:=0) (s2:=0) (s3:=d+1) (by omega) (by omega) (by omega) (by omega) h3
   exact .inl ⟨_,⟨rfl,rfl,rfl,X9u h3⟩,by omega,f0,f1,f2,f3⟩
 have h3:d+1=18446744073709551616:=by omega
 refine .inr ⟨⟨rfl,rfl,rfl,Q9i h3⟩,by omega⟩
abbrev cN(x:Nat):List AV:=[vi .u64 (l0 x),vi .u64 (l1 x),vi .u64 (l2 x),vi .u64 (l3 x)]
theorem nearR_fn(s t:Nat)(hs:s<WW)(ht:t<WW):Fn Tryz.prog 82 [wN s,wN t] [] (vb (Q5d s t)) []:=by
 have hN:Q5d s t=(decide (t≤s)&&decide (s-t<128)):=rfl
 generalize Q5d s t=r at hN ⊢
 (refine Q0z Tryz.func82 rfl (by rfl) ?_;simp only[Tryz.ntmps82,List.length_cons,List.length_nil,Nat.reduceAdd,Nat.reduceSub,List.replicate,List.cons_append,List.nil_append])
 (repeat(any_goals(first|((with_reducible refine Q0b ?_ ?_);rfl;intro K hK;simp only[go_sem];((repeat(refine ndI (by first|assumption) ?_));refine hK _ ?_;clear hK K))|(with_reducible first|(refine Q0c ?_;refine hR _ ?_;clear hR R)|((first|refine Q0d ?_|refine Q0f ?_);intro J hJ hJ')|(refine Q0a ?_;intro R hR)|(refine hJ _ ?_;clear hJ hJ' J)))))
 refine Q1t (α:={i:Nat // i≤128∧t+i<WW∧(s<t∨t+i≤s)}) (fun x=>⟨[.any,.any,.ptr 2 0,.ptr 3 0,vb false,vi .i64 (x.1:Int),.any,.any,.any,.any,.any,.any,.any,.any,.any,.any,.any,.any,.any,.any,.any,.any,.any,.any,.any,.any,.any,.any,.any,.any,.any,.any,.any],[(2,cN s),(3,[vi .u64 (l0 (t+x.1)),vi .u64 (l1 (t+x.1)),vi .u64 (l2 (t+x.1)),vi .u64 (l3 (t+x.1))])]⟩) (fun x=>128-x.1) ⟨0,by omega,by omega,by omega⟩ (St.le_of (by simp[leT]) (by simp[leH,hget])) ?_
 rintro ⟨i,hi,hti,hst⟩ J hJ hJ'
 (try dsimp only at hJ ⊢)
 rcases Nat.lt_or_ge i 128 with hlt|hge
 · have k1:(decide ((i:Int)<128))=true:=by simp;omega
   have k7:(i:Int)+1=((i+1:Nat):Int):=by omega
   have hil:(i+1:Nat)≤128:=hlt
   have hneq:=wN_eq hs hti
   by_cases hq:s=t+i
   · rw[decide_eq_true hq] at hneq
     have hr:r=true:=by rw[hN,decide_eq_true (by omega),decide_eq_true (by omega)];rfl
     (repeat(any_goals(first|((with_reducible refine Q0b ?_ ?_);rfl;intro K hK;simp only[go_sem,k1,hneq];((repeat(refine ndI (by first|assumption) ?_));refine hK _ ?_;clear hK K))|(with_reducible first|(refine Q0c ?_;refine hR _ ?_;clear hR R)|((first|refine Q0d ?_|refine Q0f ?_);intro J hJ hJ')|(refine Q0a ?_;intro R hR)|(refine hJ _ ?_;clear hJ hJ' J)|refine Q0g ?_|refine Q0j ?_)|((with_reducible refine hJ' _ _ ?_ ?_);(focus(simp;done));clear hJ hJ' J)|((with_reducible apply Q0e);rfl;rfl;all_goals(intro hc;first|(cases hc;done)|(try simp only at hc))))))
     all_goals rw[hr]
     all_goals(refine⟨by simp,⟨_,?_,AV.le_refl _⟩,Q0h (by simp[leH,hget])⟩;simp only[Tryz.results82,resL,ldA,Q0q,go_sem])
   · rw[decide_eq_false hq] at hneq
     have hr5:t+i+1=WW→r=false:=by intro h;rw[hN,decide_eq_false (by omega)];rfl
     rcases inc_cases hti with⟨x,kk,hn,f0,f1,f2,f3⟩|⟨x,kk,hn,f0,f1,f2,f3⟩|⟨x,kk,hn,f0,f1,f2,f3⟩|⟨x,kk,hn,f0,f1,f2,f3⟩|⟨kk,hn⟩
     all_goals first|(have hJ1:=fun σ'=>hJ σ' ⟨i+1,hil,hn,by omega⟩ (by dsimp only;omega);dsimp only at hJ1;rw[←Nat.add_assoc,f0,f1,f2,f3] at hJ1)|skip
     all_goals(have W:=ndI k1 (ndI k7 @wrI);(repeat(any_goals(first|((with_reducible refine Q0b ?_ ?_);rfl;intro K hK;simp(disch:=omega) only[go_sem,W,hneq,kk,Int.reduceAdd];((repeat(refine ndI (by first|assumption|omega|rfl) ?_));refine hK _ ?_;clear hK K))|(with_reducible first|(refine Q0c ?_;refine hR _ ?_;clear hR R)|((first|refine Q0d ?_|refine Q0f ?_);intro J hJ hJ')|(refine Q0a ?_;intro R hR)|(refine hJ _ ?_;clear hJ hJ' J)|refine Q0g ?_|refine Q0j ?_|refine Q0o ?_)|((with_reducible refine hJ' _ _ ?_ ?_);(focus(simp;done));clear hJ hJ' J)|((with_reducible apply Q0e);rfl;rfl;all_goals(intro hc;first|(cases hc;done)|(try simp only at hc)))|(with_reducible refine Q5g 5 ?_)|((with_reducible refine Q6j ?_);intro J hJ hJ')))))
     all_goals first|exact hJ1 _ (St.le_of (by simp[leT]) (by simp[leH,hget]))|(rw[hr5 hn];(refine⟨by simp,⟨_,?_,AV.le_refl _⟩,Q0h (by simp[leH,hget])⟩;simp only[Tryz.results82,resL,ldA,Q0q,go_sem]))
 · have k1:(decide ((i:Int)<128))=false:=by simp;omega
   obtain rfl:i=128:=by omega
   have hr:r=false:=by
    rw[hN]
    rcases hst with h|h
    · rw[decide_eq_false (by omega)];rfl
    · rw[decide_eq_false (by omega:¬s-t<128)];simp
   (repeat(any_goals(first|((with_reducible refine Q0b ?_ ?_);rfl;intro K hK;simp only[go_sem,k1];((repeat(refine ndI (by first|assumption) ?_));refine hK _ ?_;clear hK K))|(with_reducible first|(refine Q0c ?_;refine hR _ ?_;clear hR R)|((first|refine Q0d ?_);intro J hJ hJ')|(refine Q0a ?_;intro R hR)|(refine hJ _ ?_;clear hJ hJ' J)|refine Q0j ?_|refine Q0o ?_)|((with_reducible refine hJ' _ _ ?_ ?_);(focus(simp;done));clear hJ hJ' J)|((with_reducible apply Q0e);rfl;rfl;all_goals(intro hc;first|(cases hc;done)|(try simp only at hc))))))
   all_goals rw[hr]
   all_goals(refine⟨by simp,⟨_,?_,AV.le_refl _⟩,Q0h (by simp[leH,hget])⟩;simp only[Tryz.results82,resL,ldA,Q0q,go_sem])
end
section
open Go.RowKit
open Nat (reduceBEq)
attribute [-go_sem] IntKind.bits
set_option maxRecDepth 20000
set_option maxHeartbeats 4000000
theorem X1v(x:Nat)(hx:x<WW):Fn Tryz.prog 113 [wN x] [] (vb (decide (x=0))) []:=by
 have f:=z4 hx
 obtain⟨q,hq⟩:∃q,decide (x=0)=q:=⟨_,rfl⟩
 rw[hq] at f ⊢
 clear hq hx
 (refine Q0z Tryz.func113 rfl (by rfl) ?_;simp only[Tryz.ntmps113,List.length_cons,List.length_nil,Nat.reduceAdd,Nat.reduceSub,List.replicate,List.cons_append,List.nil_append])
 (repeat(any_goals(first|((with_reducible refine Q0b ?_ ?_);rfl;intro K hK;simp only[go_sem,f];((repeat(refine ndI (by first|assumption) ?_));refine hK _ ?_;clear hK K))|(with_reducible first|(refine Q0c ?_;refine hR _ ?_;clear hR R)|((first|refine Q0d ?_);intro J hJ hJ')|(refine Q0a ?_;intro R hR)|(refine hJ _ ?_;clear hJ hJ' J)|refine Q0j ?_))))
 all_goals(refine⟨by simp,⟨_,?_,AV.le_refl _⟩,Q0h (by simp[leH,hget])⟩;simp only[Tryz.results113,resL,ldA,Q0q,go_sem])
theorem rtold_fn(x:Nat):Fn Tryz.prog 114 [vi .u8 x] [] (vb (Q8e x)) []:=by
 have e:Q8e x=(((x:Int)==50)||(((x:Int)==49)||(((x:Int)==66)||(((x:Int)==67)||(((x:Int)==71)||(((x:Int)==72)||((x:Int)==254))))))):=by
  unfold Q8e
  have k:∀n:Nat,(x==n)=((x:Int)==(n:Int)):=fun n=>by rw[Bool.eq_iff_iff];simp;omega
  rw[k 50,k 49,k 66,k 67,k 71,k 72,k 254]
  simp[Bool.or_assoc]
 rw[e]
 obtain⟨b1,h1⟩:∃b,((x:Int)==50)=b:=⟨_,rfl⟩
 obtain⟨b2,h2⟩:∃b,((x:Int)==49)=b:=⟨_,rfl⟩
 obtain⟨b3,h3⟩:∃b,((x:Int)==66)=b:=⟨_,rfl⟩
 obtain⟨b4,h4⟩:∃b,((x:Int)==67)=b:=⟨_,rfl⟩
 obtain⟨b5,h5⟩:∃b,((x:Int)==71)=b:=⟨_,rfl⟩
 obtain⟨b6,h6⟩:∃b,((x:Int)==72)=b:=⟨_,rfl⟩
 obtain⟨b7,h7⟩:∃b,((x:Int)==254)=b:=⟨_,rfl⟩
 rw[h1,h2,h3,h4,h5,h6,h7]
 (refine Q0z Tryz.func114 rfl (by rfl) ?_;simp only[Tryz.ntmps114,List.length_cons,List.length_nil,Nat.reduceAdd,Nat.reduceSub,List.replicate,List.cons_append,List.nil_append])
 (have W:=ndI h1 (ndI h2 (ndI h3 (ndI h4 (ndI h5 (ndI h6 h7)))));(repeat(any_goals(first|((with_reducible refine Q0b ?_ ?_);rfl;intro K hK;simp only[go_sem,W];((repeat(refine ndI (by first|assumption) ?_));refine hK _ ?_;clear hK K))|(with_reducible first|(refine Q0c ?_;refine hR _ ?_;clear hR R)|((first|refine Q0d ?_);intro J hJ hJ')|(refine Q0a ?_;intro R hR)|(refine hJ _ ?_;clear hJ hJ' J)|refine Q0j ?_)|((with_reducible apply Q0y);rfl;rfl;rfl;all_goals(intro hb;first|(cases hb;done)|((try simp only[Bool.not_true,Bool.not_false] at hb);(first|((with_reducible intro K hK);simp only[go_sem,W];((repeat(refine ndI (by first|assumption) ?_));refine hK _ ?_;clear hK K))|((fail_if_success (with_reducible intro _));simp only[go_sem,W])))))))))
 all_goals(refine⟨by simp,⟨_,?_,AV.le_refl _⟩,Q0h (by simp[leH,hget])⟩;simp only[Tryz.results114,resL,ldA,Q0q,go_sem])
 all_goals clear h1 h2 h3 h4 h5 h6 h7
 all_goals simp_all
theorem beqI(x:Int)(n:Int):(x==n)=decide (x=n):=by rw[Bool.eq_iff_iff];simp
theorem beqN(x n:Nat):((x:Int)==(n:Int))=decide (x=n):=by rw[Bool.eq_iff_iff,beq_iff_eq,decide_eq_true_iff];omega
theorem nilB(l:List Nat):((l.length:Int)==0)=decide (l=[]):=by rw[Bool.eq_iff_iff];simp
theorem Z1g(e:Ev)(a1 a2 a3:Bool)(h1:decide (e.dep<0)=a1)(h2:decide (e.dep≥6)=a2)(h3:(e.self==0)=a3)(h:(a1||a2||a3)=true):Fn Tryz.prog 70 [evA e] [] (vb false) []:=by
 cases a1 with
 |true=>
  (refine Q0z Tryz.func70 rfl (by rfl) ?_;simp only[Tryz.ntmps70,List.length_cons,List.length_nil,Nat.reduceAdd,Nat.reduceSub,List.replicate,List.cons_append,List.nil_append])
  (repeat(any_goals(first|((with_reducible refine Q0b ?_ ?_);rfl;intro K hK;simp only[go_sem,h1];((repeat(refine ndI (by first|assumption) ?_));refine hK _ ?_;clear hK K))|(with_reducible first|(refine Q0c ?_;refine hR _ ?_;clear hR R)|((first|refine Q0d ?_);intro J hJ hJ')|(refine Q0a ?_;intro R hR)|(refine hJ _ ?_;clear hJ hJ' J)|refine Q0j ?_)|((with_reducible refine hJ' _ _ ?_ ?_);(focus(simp;done));clear hJ hJ' J)|((with_reducible apply Q0y);rfl;rfl;rfl;all_goals(intro hb;first|(cases hb;done)|((try simp only[Bool.not_true,Bool.not_false] at hb);(first|((fail_if_success (with_reducible intro _));simp only[go_sem,h1])))))|((with_reducible apply Q0e);rfl;rfl;all_goals(intro hc;first|(cases hc;done)|(try simp only at hc))))))
  all_goals(refine⟨by simp,⟨_,?_,AV.le_refl _⟩,Q0h (by simp[leH,hget])⟩;simp only[Tryz.results70,resL,ldA,Q0q,go_sem])
 |false=>
 cases a2 with
 |true=>
  (refine Q0z Tryz.func70 rfl (by rfl) ?_;simp only[Tryz.ntmps70,List.length_cons,List.length_nil,Nat.reduceAdd,Nat.reduceSub,List.replicate,List.cons_append,List.nil_append])
  (repeat(any_goals(first|((with_reducible refine Q0b ?_ ?_);rfl;intro K hK;simp only[go_sem,h1,h2];((repeat(refine ndI (by first|assumption) ?_));refine hK _ ?_;clear hK K))|(with_reducible first|(refine Q0c ?_;refine hR _ ?_;clear hR R)|((first|refine Q0d ?_);intro J hJ hJ')|(refine Q0a ?_;intro R hR)|(refine hJ _ ?_;clear hJ hJ' J)|refine Q0j ?_)|((with_reducible refine hJ' _ _ ?_ ?_);(focus(simp;done));clear hJ hJ' J)|((with_reducible apply Q0y);rfl;rfl;rfl;all_goals(intro hb;first|(cases hb;done)|((try simp only[Bool.not_true,Bool.not_false] at hb);(first|((with_reducible intro K hK);simp only[go_sem,h1,h2];((repeat(refine ndI (by first|assumption) ?_));refine hK _ ?_;clear hK K))|((fail_if_success (with_reducible intro _));simp only[go_sem,h1,h2])))))|((with_reducible apply Q0e);rfl;rfl;all_goals(intro hc;first|(cases hc;done)|(try simp only at hc))))))
  all_goals(refine⟨by simp,⟨_,?_,AV.le_refl _⟩,Q0h (by simp[leH,hget])⟩;simp only[Tryz.results70,resL,ldA,Q0q,go_sem])
 |false=>
 cases a3 with
 |true=>
  (refine Q0z Tryz.func70 rfl (by rfl) ?_;simp only[Tryz.ntmps70,List.length_cons,List.length_nil,Nat.reduceAdd,Nat.reduceSub,List.replicate,List.cons_append,List.nil_append])
  (have W:=ndI h1 (ndI h2 h3);(repeat(any_goals(first|((with_reducible refine Q0b ?_ ?_);rfl;intro K hK;simp only[go_sem,W];((repeat(refine ndI (by first|assumption) ?_));refine hK _ ?_;clear hK K))|(with_reducible first|(refine Q0c ?_;refine hR _ ?_;clear hR R)|((first|refine Q0d ?_);intro J hJ hJ')|(refine Q0a ?_;intro R hR)|(refine hJ _ ?_;clear hJ hJ' J)|refine Q0j ?_)|((with_reducible refine hJ' _ _ ?_ ?_);(focus(simp;done));clear hJ hJ' J)|((with_reducible apply Q0y);rfl;rfl;rfl;all_goals(intro hb;first|(cases hb;done)|((try simp only[Bool.not_true,Bool.not_false] at hb);(first|((with_reducible intro K hK);simp only[go_sem,W];((repeat(refine ndI (by first|assumption) ?_));refine hK _ ?_;clear hK K))))))|((with_reducible apply Q0e);rfl;rfl;all_goals(intro hc;first|(cases hc;done)|(try simp only at hc)))))))
  all_goals(refine⟨by simp,⟨_,?_,AV.le_refl _⟩,Q0h (by simp[leH,hget])⟩;simp only[Tryz.results70,resL,ldA,Q0q,go_sem])
 |false=>cases h
theorem rright_in(e:Ev)(he:e.ok)(h1:decide (e.dep<0)=false)(h2:decide (e.dep≥6)=false)(h3:(e.self==0)=false):Fn Tryz.prog 70 [evA e] [] (vb (Q2q e)) []:=by
 obtain⟨hk,hv,hl,hb,hs,ht⟩:=he
 have er:Q2q e=(if e.kind=1 then decide (e.data.length=64∧e.val=dgN e.data)&&decide (e.to=0∧e.op=0∧e.key=0)
  else if e.kind=2∨e.kind=3 then decide (e.to=0∧e.op=0∧e.val=0∧e.data=[])
  else if e.kind=4 then(Q6q e.op&&decide (e.data.length≤1))&&decide (e.key=0)
  else if e.kind=5 then Q8e e.op&&X4o e
  else if e.kind=6 then X4o e
  else false):=by
   have hg:(decide (e.dep<0)||decide (e.dep≥6)||(e.self==0))=false:=by rw[h1,h2,h3];rfl
   unfold Q2q
   rw[hg]
   simp
 have n5:=X1v e.key hk
 have n6:=X1v e.val hv
 have dg:=rdigN_fn false e.data hl hb
 have tl:=rtold_fn e.op
 have w6:=wN_eq hv (dgN_lt e.data)
 have f3:=beqI e.to 0
 have f4:=beqN e.op 0
 have f7:=nilB e.data
 have f64:=beqN e.data.length 64
 have g1:=beqN e.op 241
 have g2:=beqN e.op 244
 have g3:=beqN e.op 245
 have g4:=beqN e.op 250
 have fc:Q6q e.op=(decide (e.op=241)||decide (e.op=244)||decide (e.op=245)||decide (e.op=250)):=by
  unfold Q6q
  rw[Bool.eq_iff_iff]
  simp
  omega
 have f1:decide ((e.data.length:Int)≤1)=decide (e.data.length≤1):=decide_eq_decide.2 (by omega)
 unfold X4o at er
 simp only[Bool.decide_and,fc] at er
 generalize dgN e.data=D at *
 generalize decide (e.to=0)=b3 at *
 generalize decide (e.op=0)=b4 at *
 generalize decide (e.key=0)=b5 at *
 generalize decide (e.val=0)=b6 at *
 generalize decide (e.data=[])=b7 at *
 generalize decide (e.data.length=64)=b64 at *
 generalize decide (e.val=D)=bD at *
 generalize decide (e.op=241)=o1 at *
 generalize decide (e.op=244)=o2 at *
 generalize decide (e.op=245)=o3 at *
 generalize decide (e.op=250)=o4 at *
 generalize Q8e e.op=bt at *
 generalize decide (e.data.length≤1)=b1 at *
 generalize Q2q e=r at *
 clear hk hv hl hb hs ht fc
 by_cases k1:e.kind=1
 · have er:r=(b64&&bD&&(b3&&(b4&&b5))):=by rw[er];rw[if_pos (by omega)]
   rw[er]
   clear er
   have q1:(e.kind==1)=true:=by rw[k1];rfl
   (refine Q0z Tryz.func70 rfl (by rfl) ?_;simp only[Tryz.ntmps70,List.length_cons,List.length_nil,Nat.reduceAdd,Nat.reduceSub,List.replicate,List.cons_append,List.nil_append])
   (have W:=ndI h1 (ndI h2 (ndI h3 (ndI f3 (ndI f4 (ndI f64 (ndI w6 q1))))));(repeat(any_goals(first|((with_reducible refine Q0b ?_ ?_);rfl;intro K hK;simp only[go_sem,W];((repeat(refine ndI (by first|assumption) ?_));refine hK _ ?_;clear hK K))|(with_reducible first|(refine Q0c ?_;refine hR _ ?_;clear hR R)|((first|refine Q0d ?_|refine Q0f ?_);intro J hJ hJ')|(refine Q0a ?_;intro R hR)|(refine hJ _ ?_;clear hJ hJ' J)|refine Q0g ?_|refine Q0j ?_)|((with_reducible refine hJ' _ _ ?_ ?_);(focus(simp;done));clear hJ hJ' J)|((with_reducible apply Q0y);rfl;rfl;rfl;all_goals(intro hb;first|(cases hb;done)|((try simp only[Bool.not_true,Bool.not_false] at hb);(first|((with_reducible intro K hK);(first|skip);simp only[go_sem,W];((repeat(refine ndI (by first|assumption) ?_));refine hK _ ?_;clear hK K))))))|((with_reducible apply Q0e);rfl;rfl;all_goals(intro hc;first|(cases hc;done)|(try simp only at hc)))|((with_reducible refine Q0v ?_ ?_);kernel_rfl;(with_reducible refine hR _ ?_);clear hR R)|((first|((with_reducible apply Q3e);rfl;rfl;rfl;rfl)|((first|((with_reducible apply Q2y);rfl;rfl;rfl;rfl;rfl));(first|((first|(apply Q0u (dg);rfl;rfl;rfl;rfl;exact Tryz.func112));kernel_rfl;rfl;(focus((simp only[go_sem,W]);(try rfl);done));(first|rfl))|((apply Q0u (n5);rfl;rfl;rfl;rfl;exact Tryz.func113);kernel_rfl;rfl;(focus((simp only[go_sem,W]);(try rfl);done));(first|rfl))))|((first|((with_reducible apply Q0t);rfl;rfl)|((with_reducible apply Q2v);rfl;rfl;rfl;rfl;rfl));(simp only[rdE,rdOf,go_sem,W];rfl);(intro τ hA hQ hN;((try simp only[Q1e,Op.operands,Call.operands,go_sem,W,go_sem,List.mem_cons,List.not_mem_nil,forall_eq_or_imp,forall_eq,List.append_toArray,Option.toArray] at hA);(try simp only[go_sem,W,List.mem_cons,List.not_mem_nil,forall_eq_or_imp,forall_eq] at hQ hN);(first|(revert hA;intro hA));(first|(revert hQ;intro hQ));(first|(revert hN;intro hN));simp only[go_sem,W,go_sem,hA,hQ,hN];(repeat(refine ndI (by first|assumption) ?_));(first|apply Q1a)))));(simp only[St.eff,setO,Q0w,go_sem,W]))|((with_reducible apply X6l);rfl;rfl;rfl;all_goals intro hb;all_goals(simp only[St.eff,setO,Q0w,go_sem,W]))|((with_reducible refine Q0r ?_ ?_ ?_ ?_);kernel_rfl;kernel_rfl;(first|kernel_rfl);intro R hR)))))
   all_goals(refine⟨by simp,⟨_,?_,AV.le_refl _⟩,Q0h (by simp[leH,hget])⟩;simp only[Tryz.results70,resL,ldA,Q0q,go_sem])
   all_goals clear n5 n6 dg tl h1 h2 h3 w6 f3 f4 f7 f64 g1 g2 g3 g4 f1
   all_goals simp_all
 by_cases k2:e.kind=2
 · have er:r=(b3&&(b4&&(b6&&b7))):=by rw[er];rw[if_neg (by omega)];rw[if_pos (by omega)]
   rw[er]
   clear er
   have q1:(e.kind==1)=false:=by rw[k2];rfl
   have q2:(e.kind==2)=true:=by rw[k2];rfl
   (refine Q0z Tryz.func70 rfl (by rfl) ?_;simp only[Tryz.ntmps70,List.length_cons,List.length_nil,Nat.reduceAdd,Nat.reduceSub,List.replicate,List.cons_append,List.nil_append])
   (have W:=ndI h1 (ndI h2 (ndI h3 (ndI f3 (ndI f4 (ndI f7 (ndI q1 q2))))));(repeat(any_goals(first|((with_reducible refine Q0b ?_ ?_);rfl;intro K hK;simp only[go_sem,W];((repeat(refine ndI (by first|assumption) ?_));refine hK _ ?_;clear hK K))|(with_reducible first|(refine Q0c ?_;refine hR _ ?_;clear hR R)|((first|refine Q0d ?_|refine Q0f ?_);intro J hJ hJ')|(refine Q0a ?_;intro R hR)|(refine hJ _ ?_;clear hJ hJ' J)|refine Q0g ?_|refine Q0j ?_)|((with_reducible refine hJ' _ _ ?_ ?_);(focus(simp;done));clear hJ hJ' J)|((with_reducible apply Q0y);rfl;rfl;rfl;all_goals(intro hb;first|(cases hb;done)|((try simp only[Bool.not_true,Bool.not_false] at hb);(first|((with_reducible intro K hK);(first|((apply Q0k (n6);rfl;rfl;rfl;rfl;exact Tryz.func113);kernel_rfl;rfl;(focus((simp only[go_sem,W]);(try rfl);done));(first|rfl))|skip);simp only[go_sem,W];((repeat(refine ndI (by first|assumption) ?_));refine hK _ ?_;clear hK K))|((fail_if_success (with_reducible intro _));simp only[go_sem,W])))))|((with_reducible apply Q0e);rfl;rfl;all_goals(intro hc;first|(cases hc;done)|(try simp only at hc)))))))
   all_goals(refine⟨by simp,⟨_,?_,AV.le_refl _⟩,Q0h (by simp[leH,hget])⟩;simp only[Tryz.results70,resL,ldA,Q0q,go_sem])
   all_goals clear n5 n6 dg tl h1 h2 h3 w6 f3 f4 f7 f64 g1 g2 g3 g4 f1
   all_goals simp_all
 by_cases k3:e.kind=3
 · have er:r=(b3&&(b4&&(b6&&b7))):=by rw[er];rw[if_neg (by omega)];rw[if_pos (by omega)]
   rw[er]
   clear er
   have q1:(e.kind==1)=false:=by rw[k3];rfl
   have q2:(e.kind==2)=false:=by rw[k3];rfl
   have q3:(e.kind==3)=true:=by rw[k3];rfl
   (refine Q0z Tryz.func70 rfl (by rfl) ?_;simp only[Tryz.ntmps70,List.length_cons,List.length_nil,Nat.reduceAdd,Nat.reduceSub,List.replicate,List.cons_append,List.nil_append])
   (have W:=ndI h1 (ndI h2 (ndI h3 (ndI f3 (ndI f4 (ndI f7 (ndI q1 (ndI q2 q3)))))));(repeat(any_goals(first|((with_reducible refine Q0b ?_ ?_);rfl;intro K hK;simp only[go_sem,W];((repeat(refine ndI (by first|assumption) ?_));refine hK _ ?_;clear hK K))|(with_reducible first|(refine Q0c ?_;refine hR _ ?_;clear hR R)|((first|refine Q0d ?_|refine Q0f ?_);intro J hJ hJ')|(refine Q0a ?_;intro R hR)|(refine hJ _ ?_;clear hJ hJ' J)|refine Q0g ?_|refine Q0j ?_)|((with_reducible refine hJ' _ _ ?_ ?_);(focus(simp;done));clear hJ hJ' J)|((with_reducible apply Q0y);rfl;rfl;rfl;all_goals(intro hb;first|(cases hb;done)|((try simp only[Bool.not_true,Bool.not_false] at hb);(first|((with_reducible intro K hK);(first|((apply Q0k (n6);rfl;rfl;rfl;rfl;exact Tryz.func113);kernel_rfl;rfl;(focus((simp only[go_sem,W]);(try rfl);done));(first|rfl))|skip);simp only[go_sem,W];((repeat(refine ndI (by first|assumption) ?_));refine hK _ ?_;clear hK K))|((fail_if_success (with_reducible intro _));simp only[go_sem,W])))))|((with_reducible apply Q0e);rfl;rfl;all_goals(intro hc;first|(cases hc;done)|(try simp only at hc)))))))
   all_goals(refine⟨by simp,⟨_,?_,AV.le_refl _⟩,Q0h (by simp[leH,hget])⟩;simp only[Tryz.results70,resL,ldA,Q0q,go_sem])
   all_goals clear n5 n6 dg tl h1 h2 h3 w6 f3 f4 f7 f64 g1 g2 g3 g4 f1
   all_goals simp_all
 by_cases k4:e.kind=4
 · have er:r=((o1||o2||o3||o4)&&b1&&b5):=by rw[er];rw[if_neg (by omega)];rw[if_neg (by omega)];rw[if_pos (by omega)]
   rw[er]
   clear er
   have q1:(e.kind==1)=false:=by rw[k4];rfl
   have q2:(e.kind==2)=false:=by rw[k4];rfl
   have q3:(e.kind==3)=false:=by rw[k4];rfl
   have q4:(e.kind==4)=true:=by rw[k4];rfl
   (refine Q0z Tryz.func70 rfl (by rfl) ?_;simp only[Tryz.ntmps70,List.length_cons,List.length_nil,Nat.reduceAdd,Nat.reduceSub,List.replicate,List.cons_append,List.nil_append])
   (have W:=ndI h1 (ndI h2 (ndI h3 (ndI g1 (ndI g2 (ndI g3 (ndI g4 (ndI f1 (ndI q1 (ndI q2 (ndI q3 q4))))))))));(repeat(any_goals(first|((with_reducible refine Q0b ?_ ?_);rfl;intro K hK;simp only[go_sem,W];((repeat(refine ndI (by first|assumption) ?_));refine hK _ ?_;clear hK K))|(with_reducible first|(refine Q0c ?_;refine hR _ ?_;clear hR R)|((first|refine Q0d ?_|refine Q0f ?_);intro J hJ hJ')|(refine Q0a ?_;intro R hR)|(refine hJ _ ?_;clear hJ hJ' J)|refine Q0g ?_|refine Q0j ?_)|((with_reducible refine hJ' _ _ ?_ ?_);(focus(simp;done));clear hJ hJ' J)|((with_reducible apply Q0y);rfl;rfl;rfl;all_goals(intro hb;first|(cases hb;done)|((try simp only[Bool.not_true,Bool.not_false] at hb);(first|((with_reducible intro K hK);(first|((apply Q0k (n5);rfl;rfl;rfl;rfl;exact Tryz.func113);kernel_rfl;rfl;(focus((simp only[go_sem,W]);(try rfl);done));(first|rfl))|skip);simp only[go_sem,W];((repeat(refine ndI (by first|assumption) ?_));refine hK _ ?_;clear hK K))|((fail_if_success (with_reducible intro _));simp only[go_sem,W])))))|((with_reducible apply Q0e);rfl;rfl;all_goals(intro hc;first|(cases hc;done)|(try simp only at hc)))))))
   all_goals(refine⟨by simp,⟨_,?_,AV.le_refl _⟩,Q0h (by simp[leH,hget])⟩;simp only[Tryz.results70,resL,ldA,Q0q,go_sem])
   all_goals clear n5 n6 dg tl h1 h2 h3 w6 f3 f4 f7 f64 g1 g2 g3 g4 f1
   all_goals simp_all
 by_cases k5:e.kind=5
 · have er:r=(bt&&(b3&&(b5&&(b6&&b7)))):=by rw[er];rw[if_neg (by omega)];rw[if_neg (by omega)];rw[if_neg (by omega)];rw[if_pos (by omega)]
   rw[er]
   clear er
   have q1:(e.kind==1)=false:=by rw[k5];rfl
   have q2:(e.kind==2)=false:=by rw[k5];rfl
   have q3:(e.kind==3)=false:=by rw[k5];rfl
   have q4:(e.kind==4)=false:=by rw[k5];rfl
   have q5:(e.kind==5)=true:=by rw[k5];rfl
   (refine Q0z Tryz.func70 rfl (by rfl) ?_;simp only[Tryz.ntmps70,List.length_cons,List.length_nil,Nat.reduceAdd,Nat.reduceSub,List.replicate,List.cons_append,List.nil_append])
   (have W:=ndI h1 (ndI h2 (ndI h3 (ndI f3 (ndI f7 (ndI q1 (ndI q2 (ndI q3 (ndI q4 q5))))))));(repeat(any_goals(first|((with_reducible refine Q0n ?_ ?_ ?_);rfl;rfl;intro K hK;(first|((first|(apply Q0k (tl);rfl;rfl;rfl;rfl;exact Tryz.func114));kernel_rfl;rfl;(focus((simp only[go_sem,W]);(try rfl);done));(first|rfl)));(simp only[go_sem,W];refine hK _ ?_;clear hK K))|((with_reducible refine Q0b ?_ ?_);rfl;intro K hK;simp only[go_sem,W];((repeat(refine ndI (by first|assumption) ?_));refine hK _ ?_;clear hK K))|(with_reducible first|(refine Q0c ?_;refine hR _ ?_;clear hR R)|((first|refine Q0d ?_|refine Q0f ?_);intro J hJ hJ')|(refine Q0a ?_;intro R hR)|(refine hJ _ ?_;clear hJ hJ' J)|refine Q0g ?_|refine Q0j ?_)|((with_reducible refine hJ' _ _ ?_ ?_);(focus(simp;done));clear hJ hJ' J)|((with_reducible apply Q0y);rfl;rfl;rfl;all_goals(intro hb;first|(cases hb;done)|((try simp only[Bool.not_true,Bool.not_false] at hb);(first|((with_reducible intro K hK);(first|((apply Q0k (n5);rfl;rfl;rfl;rfl;exact Tryz.func113);kernel_rfl;rfl;(focus((simp only[go_sem,W]);(try rfl);done));(first|rfl))|((apply Q0k (n6);rfl;rfl;rfl;rfl;exact Tryz.func113);kernel_rfl;rfl;(focus((simp only[go_sem,W]);(try rfl);done));(first|rfl))|skip);simp only[go_sem,W];((repeat(refine ndI (by first|assumption) ?_));refine hK _ ?_;clear hK K))|((fail_if_success (with_reducible intro _));simp only[go_sem,W])))))|((with_reducible apply Q0e);rfl;rfl;all_goals(intro hc;first|(cases hc;done)|(try simp only at hc)))))))
   all_goals(refine⟨by simp,⟨_,?_,AV.le_refl _⟩,Q0h (by simp[leH,hget])⟩;simp only[Tryz.results70,resL,ldA,Q0q,go_sem])
   all_goals clear n5 n6 dg tl h1 h2 h3 w6 f3 f4 f7 f64 g1 g2 g3 g4 f1
   all_goals simp_all
 by_cases k6:e.kind=6
 · have er:r=(b3&&(b5&&(b6&&b7))):=by rw[er];rw[if_neg (by omega)];rw[if_neg (by omega)];rw[if_neg (by omega)];rw[if_neg (by omega)];rw[if_pos (by omega)]
   rw[er]
   clear er
   have q1:(e.kind==1)=false:=by rw[k6];rfl
   have q2:(e.kind==2)=false:=by rw[k6];rfl
   have q3:(e.kind==3)=false:=by rw[k6];rfl
   have q4:(e.kind==4)=false:=by rw[k6];rfl
   have q5:(e.kind==5)=false:=by rw[k6];rfl
   have q6:(e.kind==6)=true:=by rw[k6];rfl
   (refine Q0z Tryz.func70 rfl (by rfl) ?_;simp only[Tryz.ntmps70,List.length_cons,List.length_nil,Nat.reduceAdd,Nat.reduceSub,List.replicate,List.cons_append,List.nil_append])
   (have W:=ndI h1 (ndI h2 (ndI h3 (ndI f3 (ndI f7 (ndI q1 (ndI q2 (ndI q3 (ndI q4 (ndI q5 q6)))))))));(repeat(any_goals(first|((with_reducible refine Q0b ?_ ?_);rfl;intro K hK;simp only[go_sem,W];((repeat(refine ndI (by first|assumption) ?_));refine hK _ ?_;clear hK K))|(with_reducible first|(refine Q0c ?_;refine hR _ ?_;clear hR R)|((first|refine Q0d ?_|refine Q0f ?_);intro J hJ hJ')|(refine Q0a ?_;intro R hR)|(refine hJ _ ?_;clear hJ hJ' J)|refine Q0g ?_|refine Q0j ?_)|((with_reducible refine hJ' _ _ ?_ ?_);(focus(simp;done));clear hJ hJ' J)|((with_reducible apply Q0y);rfl;rfl;rfl;all_goals(intro hb;first|(cases hb;done)|((try simp only[Bool.not_true,Bool.not_false] at hb);(first|((with_reducible intro K hK);(first|((apply Q0k (n5);rfl;rfl;rfl;rfl;exact Tryz.func113);kernel_rfl;rfl;(focus((simp only[go_sem,W]);(try rfl);done));(first|rfl))|((apply Q0k (n6);rfl;rfl;rfl;rfl;exact Tryz.func113);kernel_rfl;rfl;(focus((simp only[go_sem,W]);(try rfl);done));(first|rfl))|skip);simp only[go_sem,W];((repeat(refine ndI (by first|assumption) ?_));refine hK _ ?_;clear hK K))|((fail_if_success (with_reducible intro _));simp only[go_sem,W])))))|((with_reducible apply Q0e);rfl;rfl;all_goals(intro hc;first|(cases hc;done)|(try simp only at hc)))))))
   all_goals(refine⟨by simp,⟨_,?_,AV.le_refl _⟩,Q0h (by simp[leH,hget])⟩;simp only[Tryz.results70,resL,ldA,Q0q,go_sem])
   all_goals clear n5 n6 dg tl h1 h2 h3 w6 f3 f4 f7 f64 g1 g2 g3 g4 f1
   all_goals simp_all
 have er:r=false:=by rw[er,if_neg k1,if_neg (by omega),if_neg k4,if_neg k5,if_neg k6]
 rw[er]
 have q1:(e.kind==1)=false:=by simpa using k1
 have q2:(e.kind==2)=false:=by simpa using k2
 have q3:(e.kind==3)=false:=by simpa using k3
 have q4:(e.kind==4)=false:=by simpa using k4
 have q5:(e.kind==5)=false:=by simpa using k5
 have q6:(e.kind==6)=false:=by simpa using k6
 (refine Q0z Tryz.func70 rfl (by rfl) ?_;simp only[Tryz.ntmps70,List.length_cons,List.length_nil,Nat.reduceAdd,Nat.reduceSub,List.replicate,List.cons_append,List.nil_append])
 (have W:=ndI h1 (ndI h2 (ndI h3 (ndI q1 (ndI q2 (ndI q3 (ndI q4 (ndI q5 q6)))))));(repeat(any_goals(first|((with_reducible refine Q0b ?_ ?_);rfl;intro K hK;simp only[go_sem,W];((repeat(refine ndI (by first|assumption) ?_));refine hK _ ?_;clear hK K))|(with_reducible first|(refine Q0c ?_;refine hR _ ?_;clear hR R)|((first|refine Q0d ?_|refine Q0f ?_);intro J hJ hJ')|(refine Q0a ?_;intro R hR)|(refine hJ _ ?_;clear hJ hJ' J)|refine Q0g ?_|refine Q0j ?_)|((with_reducible refine hJ' _ _ ?_ ?_);(focus(simp;done));clear hJ hJ' J)|((with_reducible apply Q0y);rfl;rfl;rfl;all_goals(intro hb;first|(cases hb;done)|((try simp only[Bool.not_true,Bool.not_false] at hb);(first|((with_reducible intro K hK);simp only[go_sem,W];((repeat(refine ndI (by first|assumption) ?_));refine hK _ ?_;clear hK K))))))|((with_reducible apply Q0e);rfl;rfl;all_goals(intro hc;first|(cases hc;done)|(try simp only at hc)))))))
 all_goals(refine⟨by simp,⟨_,?_,AV.le_refl _⟩,Q0h (by simp[leH,hget])⟩;simp only[Tryz.results70,resL,ldA,Q0q,go_sem])
end
section
open Go.RowKit
open Nat (reduceBEq)
attribute [-go_sem] IntKind.bits
set_option maxRecDepth 20000
set_option maxHeartbeats 4000000
theorem X7i(e:Ev)(he:e.ok):Fn Tryz.prog 70 [evA e] [] (vb (Q2q e)) []:=by
 by_cases hg:(decide (e.dep<0)||decide (e.dep≥6)||(e.self==0))=true
 · rw[show Q2q e=false by unfold Q2q;rw[hg];rfl]
   exact Z1g e _ _ _ rfl rfl rfl hg
 · have hg':(decide (e.dep<0)||decide (e.dep≥6)||(e.self==0))=false:=by simpa using hg
   rw[Bool.or_eq_false_iff,Bool.or_eq_false_iff] at hg'
   exact rright_in e he hg'.1.1 hg'.1.2 hg'.2
theorem rRight_fn(l:List Ev)(hl:l.length≤1000000)(ho:∀e∈l,e.ok):Fn Tryz.prog 39 [evs false l] [] (vb (trB l)) []:=by
 obtain⟨b,hb⟩:∃b,decide (l.length≤2000)=b:=⟨_,rfl⟩
 have k0:decide ((l.length:Int)≤2000)=b:=by rw[←hb];exact decide_eq_decide.2 (by omega)
 obtain⟨r,hr⟩:∃r,l.all Q2q=r:=⟨_,rfl⟩
 have et:trB l=(b&&r):=by unfold trB;rw[hb,hr]
 rw[et]
 clear et hb
 (refine Q0z Tryz.func39 rfl (by rfl) ?_;simp only[Tryz.ntmps39,List.length_cons,List.length_nil,Nat.reduceAdd,Nat.reduceSub,List.replicate,List.cons_append,List.nil_append])
 (repeat(any_goals(first|((with_reducible refine Q0b ?_ ?_);rfl;intro K hK;simp only[go_sem];((repeat(refine ndI (by first|assumption) ?_));refine hK _ ?_;clear hK K))|(with_reducible first|(refine Q0c ?_;refine hR _ ?_;clear hR R)|((first|refine Q0d ?_|refine Q0f ?_);intro J hJ hJ')|(refine Q0a ?_;intro R hR)|(refine hJ _ ?_;clear hJ hJ' J)))))
 refine Q1t (α:={i:Nat // i≤l.length∧(l.drop i).all Q2q=r}) (fun q=>⟨[evs false l,.any,vb false,vi .i64 (q.1:Int),.any,.any,.any,.any,.any,.any,.any,.any,.any,.any,.any,.any,.any,.any,.any],[]⟩) (fun q=>l.length-q.1) ⟨0,Nat.zero_le _,hr⟩ (St.le_of (by simp[leT]) (by simp[leH])) ?_
 rintro ⟨i,hi,hd⟩ J hJ hJ'
 (try dsimp only at hJ ⊢)
 rcases Nat.lt_or_ge i l.length with hlt|hge
 · obtain⟨y,hy⟩:∃y,l[i]? = some y:=⟨_,List.getElem?_eq_getElem hlt⟩
   have k1:(decide ((i:Int)<(l.length:Int)))=true:=by simp;omega
   have k2:=X8e hy
   have k7:(i:Int)+1=((i+1:Nat):Int):=by omega
   have hdr:l.drop i=y::l.drop (i+1):=by
    rw[List.drop_eq_getElem_cons hlt]
    rw[List.getElem?_eq_getElem hlt] at hy
    rw[Option.some.inj hy]
   have hp1:=X7i y (ho y (List.mem_of_getElem? hy))
   rw[hdr,List.all_cons] at hd
   cases hxy:Q2q y
   · rw[hxy] at hp1 hd
     have hd:r=false:=hd.symm
     (have W:=ndI k1 (ndI k2 (ndI k7 @wrI));(repeat(any_goals(first|((with_reducible refine Q0n ?_ ?_ ?_);rfl;rfl;intro K hK;((apply Q0k (hp1);rfl;rfl;rfl;rfl;exact Tryz.func70);kernel_rfl;rfl;(focus((simp(disch:=omega) only[go_sem,W,Nat.mul_one]);(try rfl);done));(first|rfl));(simp(disch:=omega) only[go_sem,W,Nat.mul_one];refine hK _ ?_;clear hK K))|((with_reducible refine Q0b ?_ ?_);rfl;intro K hK;simp(disch:=omega) only[go_sem,W,Nat.mul_one];((repeat(refine ndI (by first|assumption|omega|rfl) ?_));refine hK _ ?_;clear hK K))|(with_reducible first|(refine Q0c ?_;refine hR _ ?_;clear hR R)|((first|refine Q0d ?_|refine Q0f ?_);intro J hJ hJ')|(refine Q0a ?_;intro R hR)|(refine hJ _ ?_;clear hJ hJ' J)|refine Q0g ?_|refine Q0j ?_)|((with_reducible refine hJ' _ _ ?_ ?_);(focus(simp;done));clear hJ hJ' J)|((with_reducible apply Q0e);rfl;rfl;all_goals(intro hc;first|(cases hc;done)|(try simp only at hc)))))))
     all_goals rw[hd,Bool.and_false]
     all_goals(refine⟨by simp,⟨_,?_,AV.le_refl _⟩,Q0h (by simp[leH,hget])⟩;simp only[Tryz.results39,resL,ldA,Q0q,go_sem])
   · rw[hxy,Bool.true_and] at hd
     rw[hxy] at hp1
     have hJ1:=fun σ'=>hJ σ' ⟨i+1,hlt,hd⟩ (by dsimp only;omega)
     dsimp only at hJ1
     (have W:=ndI k1 (ndI k2 (ndI k7 @wrI));(repeat(any_goals(first|((with_reducible refine Q0n ?_ ?_ ?_);rfl;rfl;intro K hK;((apply Q0k (hp1);rfl;rfl;rfl;rfl;exact Tryz.func70);kernel_rfl;rfl;(focus((simp(disch:=omega) only[go_sem,W,Nat.mul_one]);(try rfl);done));(first|rfl));(simp(disch:=omega) only[go_sem,W,Nat.mul_one];refine hK _ ?_;clear hK K))|((with_reducible refine Q0b ?_ ?_);rfl;intro K hK;simp(disch:=omega) only[go_sem,W,Nat.mul_one];((repeat(refine ndI (by first|assumption|omega|rfl) ?_));refine hK _ ?_;clear hK K))|(with_reducible first|(refine Q0c ?_;refine hR _ ?_;clear hR R)|((first|refine Q0d ?_|refine Q0f ?_);intro J hJ hJ')|(refine Q0a ?_;intro R hR)|(refine hJ _ ?_;clear hJ hJ' J)|refine Q0g ?_)|((with_reducible refine hJ' _ _ ?_ ?_);(focus(simp;done));clear hJ hJ' J)|((with_reducible apply Q0e);rfl;rfl;all_goals(intro hc;first|(cases hc;done)|(try simp only at hc)))))))
     all_goals exact hJ1 _ (St.le_of (by simp[leT]) (by simp[leH]))
 · have k1:(decide ((i:Int)<(l.length:Int)))=false:=by simp;omega
   rw[List.drop_eq_nil_of_le hge] at hd
   have hd:r=true:=hd.symm
   (repeat(any_goals(first|((with_reducible refine Q0b ?_ ?_);rfl;intro K hK;simp only[go_sem,k1,k0];((repeat(refine ndI (by first|assumption) ?_));refine hK _ ?_;clear hK K))|(with_reducible first|(refine Q0c ?_;refine hR _ ?_;clear hR R)|((first|refine Q0d ?_);intro J hJ hJ')|(refine Q0a ?_;intro R hR)|(refine hJ _ ?_;clear hJ hJ' J)|refine Q0j ?_|refine Q0o ?_)|((with_reducible refine hJ' _ _ ?_ ?_);(focus(simp;done));clear hJ hJ' J)|((with_reducible apply Q0e);rfl;rfl;all_goals(intro hc;first|(cases hc;done)|(try simp only at hc))))))
   all_goals rw[hd,Bool.and_true]
   all_goals(refine⟨by simp,⟨_,?_,AV.le_refl _⟩,Q0h (by simp[leH,hget])⟩;simp only[Tryz.results39,resL,ldA,Q0q,go_sem])
end
section
open Go.RowKit
theorem X6e(y:Int)(l:List Int)(x:Int):insD (y::l) x=if y<x then y::insD l x else if y=x then y::l else x::y::l:=by
 by_cases h:y<x
 · rw[if_pos h]
   unfold insD
   have e:posD (y::l) x=posD l x+1:=by show(if y<x then _ else _)=_;rw[if_pos h]
   rw[e,List.getElem?_cons_succ]
   split<;>simp
 · rw[if_neg h]
   unfold insD
   have e:posD (y::l) x=0:=by show(if y<x then _ else _)=_;rw[if_neg h]
   rw[e,List.getElem?_cons_zero]
   by_cases h2:y=x
   · rw[if_pos (by rw[h2]),if_pos h2]
   · rw[if_neg (fun e=>h2 (Option.some.inj e)),if_neg h2]
     rfl
theorem X3j:∀(l:List Int) (x z:Int),z∈insD l x↔z=x∨z∈l
 |[],x,z=>by simp[insD,posD]
 |y::l,x,z=>by
  have ih:=X3j l x z
  rw[X6e]
  split
  · rw[List.mem_cons,List.mem_cons,ih]
    constructor
    · rintro (h|h|h)
      · exact .inr (.inl h)
      · exact .inl h
      · exact .inr (.inr h)
    · rintro (h|h|h)
      · exact .inr (.inl h)
      · exact .inl h
      · exact .inr (.inr h)
  · split
    · rename_i h
      rw[List.mem_cons,h]
      constructor
      · exact .inr
      · rintro (h|h)
        · exact .inl h
        · exact h
    · rw[List.mem_cons]
theorem insD_lt:∀(l:List Int) (x:Int),l.Pairwise (· < ·)→(insD l x).Pairwise (· < ·)
 |[],x,_=>by simp[insD,posD]
 |y::l,x,h=>by
  rw[List.pairwise_cons] at h
  have ih:=insD_lt l x h.2
  rw[X6e]
  split
  · rename_i hyx
    rw[List.pairwise_cons]
    refine⟨fun z hz=>?_,ih⟩
    rcases(X3j l x z).1 hz with rfl|hz
    · exact hyx
    · exact h.1 z hz
  · split
    · exact List.pairwise_cons.2 h
    · rw[List.pairwise_cons]
      refine⟨fun z hz=>?_,List.pairwise_cons.2 h⟩
      rcases List.mem_cons.1 hz with rfl|hz
      · omega
      · have:=h.1 z hz;omega
theorem X9c(l:List Int):∀i,i≤l.length→(resD l i).Pairwise (· < ·)∧∀x,x∈resD l i↔x∈l.take i
 |0,_=>by simp[resD]
 |i+1,h=>by
  obtain⟨h1,h2⟩:=X9c l i (by omega)
  have hb:l[i]? = some (l[i]'(by omega)):=List.getElem?_eq_getElem (by omega)
  have e:resD l (i+1)=insD (resD l i) (l[i]'(by omega)):=by
   show(match l[i]? with|none=>_|some x=>_)=_
   rw[hb]
  rw[e]
  refine⟨insD_lt _ _ h1,fun x=>?_⟩
  rw[X3j,h2,List.take_add_one,hb,List.mem_append,or_comm]
  simp
end
end Go.Proofs.YtgdjkkapgghdbaaGreatDoor
