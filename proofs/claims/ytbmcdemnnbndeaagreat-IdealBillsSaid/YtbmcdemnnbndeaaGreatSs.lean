/-
  Something saved in a slot; reckoned.
-/
import Derived.Test.YtbmcdemnnbndeaaGreatWa
import Derived.Test.YtbmcdemnnbndeaaGreatPqf
import Derived.Test.YtbmcdemnnbndeaaGreatAvW
import Derived.Test.YtbmcdemnnbndeaaGreatAvTy
import Derived.Test.YtbmcdemnnbndeaaGreatAvI
namespace Go.Proofs.YtbmcdemnnbndeaaGreat
set_option linter.unusedSimpArgs false
set_option linter.unusedVariables false
section
open Go.RowKit
open Nat (reduceBEq)
set_option maxRecDepth 20000
set_option maxHeartbeats 2000000
def wpv(x:Nat):List PV:=[.v (.int .u64 (l0 x)),.v (.int .u64 (l1 x)),.v (.int .u64 (l2 x)),.v (.int .u64 (l3 x))]
abbrev wsl(ex:Bool)(l:List Nat):AV:=.c (.sl ex 4 l.length (l.flatMap wpv))
theorem Q5g(x:Nat):(wpv x).length=4:=rfl
theorem wsl_at{l:List Nat}{i:Nat}{y:Nat}(h:l[i]? = some y):((l.flatMap wpv).drop (i*4)).take 4=[.v (.int .u64 (l0 y)),.v (.int .u64 (l1 y)),.v (.int .u64 (l2 y)),.v (.int .u64 (l3 y))]:=Q4m (f:=wpv) Q5g h
def rcW(l:List Nat):List AV:=(l.flatMap wpv).map .c
theorem Q8i(l:List Nat):(rcW l).length=l.length*4:=by unfold rcW;rw[List.length_map,Q1e Q5g]
theorem Q4y(ρ : Nat→Nat)(l:List Nat):AV.renL ρ (rcW l)=rcW l:=Q0q _ _
theorem Q6e(N:List Nat)(l:List Nat):AV.inNL N (rcW l)=true:=Q1a _ _
theorem X1l(ex:Bool)(l:List Nat)(hl:l.length≤1000)(hw:∀x∈l,x<WW):Fn Tryz.prog 17 [wsl ex l] [] (.tup [wN (l.sum%WW),vb (decide (WW≤l.sum))]) []:=by
 have hW:0<WW:=by decide
 obtain⟨tn,htn⟩:∃n,l.sum%WW=n:=⟨_,rfl⟩
 obtain⟨tq,htq⟩:∃q,decide (WW≤l.sum)=q:=⟨_,rfl⟩
 rw[htn,htq]
 (refine Q1c Tryz.func17 rfl (by rfl) ?_;simp only[Tryz.ntmps17,List.length_cons,List.length_nil,Nat.reduceAdd,Nat.reduceSub,List.replicate,List.cons_append,List.nil_append])
 (repeat(any_goals(first|((with_reducible refine Q0d ?_ ?_);rfl;intro K hK;simp only[go_sem];((repeat(refine ndI (by first|assumption) ?_));refine hK _ ?_;clear hK K))|(with_reducible first|(refine Q0c ?_;refine hR _ ?_;clear hR R)|((first|refine Q0e ?_|refine Q0g ?_);intro Ψ hΨ hΨ')|(refine Q0b ?_;intro R hR)|(refine hΨ _ ?_;clear hΨ hΨ' Ψ)))))
 refine Q2n (α:={p:Nat×Nat×Bool // p.1≤l.length∧p.2.1=(l.take p.1).sum%WW∧p.2.2=decide (WW≤(l.take p.1).sum)}) (fun p=>⟨[wsl ex l,.any,.ptr 2 0,.any,.ptr 4 0,vb p.1.2.2,.any,.any,.any,.any,wsl ex l,vi .i64 l.length,vi .i64 p.1.1,.any,.any,.any,.any,.any,.any,.any,.any,.any,.any,.any,.any,.any,.any,.any,.any,.any],[(2,[vi .u64 0,vi .u64 0,vi .u64 0,vi .u64 0]),(4,[vi .u64 (l0 p.1.2.1),vi .u64 (l1 p.1.2.1),vi .u64 (l2 p.1.2.1),vi .u64 (l3 p.1.2.1)])]⟩) (fun p=>l.length-p.1.1) ⟨(0,0,false),Nat.zero_le _,by simp,by simp[WW]⟩ (St.le_of (by simp[leT]) (by simp[leH,hget,Q3w,Q3v,Q3u,Q3t])) ?_
 rintro ⟨⟨i,n,q⟩,hi,hn,hq⟩ Ψ hΨ hΨ'
 dsimp only at hi hn hq hΨ ⊢
 rcases Nat.lt_or_ge i l.length with hlt|hge
 · obtain⟨y,hy⟩:∃y,l[i]? = some y:=⟨l[i],List.getElem?_eq_getElem hlt⟩
   have k1:(decide ((i:Int)<(l.length:Int)))=true:=by simpa using hlt
   have k2:=wsl_at hy
   have k7:(i:Int)+1=((i+1:Nat):Int):=by omega
   have hnw:n<WW:=by rw[hn];exact Nat.mod_lt _ hW
   have hyw:=hw y (List.mem_of_getElem? hy)
   have ad:=add_fn n y hnw hyw
   have hs:(l.take (i+1)).sum=(l.take i).sum+y:=by rw[List.take_add_one,hy];simp
   have h1:(n+y)%WW=(l.take (i+1)).sum%WW:=by rw[hs,hn,Nat.add_mod];simp
   have h2:(q||decide (WW≤n+y))=decide (WW≤(l.take (i+1)).sum):=by
    rw[Bool.eq_iff_iff,hq,hs]
    simp only[Bool.or_eq_true,decide_eq_true_eq]
    rcases Nat.lt_or_ge (l.take i).sum WW with h|h
    · rw[hn,Nat.mod_eq_of_lt h];omega
    · omega
   obtain⟨m,hm⟩:∃m,(n+y)%WW=m:=⟨_,rfl⟩
   obtain⟨b,hb⟩:∃b,decide (WW≤n+y)=b:=⟨_,rfl⟩
   rw[hm,hb] at ad
   rw[hm] at h1
   rw[hb] at h2
   cases q with
   |true=>
    (have W:=ndI k1 (ndI k2 (ndI k7 @wrI));(repeat(any_goals(first|((with_reducible refine Q0p ?_ ?_ ?_);rfl;rfl;intro K hK;((apply Q0k (ad);rfl;rfl;rfl;rfl;exact Tryz.func20);kernel_rfl;rfl;(focus((simp(disch:=omega) only[go_sem,W]);(try rfl);done));(first|rfl));(simp(disch:=omega) only[go_sem,W];refine hK _ ?_;clear hK K))|((with_reducible refine Q0d ?_ ?_);rfl;intro K hK;simp(disch:=omega) only[go_sem,W];((repeat(refine ndI (by first|assumption|omega|rfl) ?_));refine hK _ ?_;clear hK K))|(with_reducible first|(refine Q0c ?_;refine hR _ ?_;clear hR R)|((first|refine Q0e ?_|refine Q0g ?_);intro Ψ hΨ hΨ')|(refine Q0b ?_;intro R hR)|(refine hΨ _ ?_;clear hΨ hΨ' Ψ)|refine Q0h ?_)|((with_reducible refine hΨ' _ _ ?_ ?_);(focus(simp;done));clear hΨ hΨ' Ψ)|((with_reducible apply Q1i);rfl;rfl;rfl;all_goals(intro hb;first|(cases hb;done)|((try simp only[Bool.not_true,Bool.not_false] at hb);(first|((fail_if_success (with_reducible intro _));simp(disch:=omega) only[go_sem,W])))))|((with_reducible apply Q0f);rfl;rfl;all_goals(intro hc;first|(cases hc;done)|(try simp only at hc)))))))
    exact hΨ _ ⟨(i+1,m,true),hlt,h1,by simpa using h2⟩ (by simp only;omega) (St.le_of (by simp[leT]) (by simp[leH,hget]))
   |false=>
    (have W:=ndI k1 (ndI k2 (ndI k7 @wrI));(repeat(any_goals(first|((with_reducible refine Q0p ?_ ?_ ?_);rfl;rfl;intro K hK;((apply Q0k (ad);rfl;rfl;rfl;rfl;exact Tryz.func20);kernel_rfl;rfl;(focus((simp(disch:=omega) only[go_sem,W]);(try rfl);done));(first|rfl));(simp(disch:=omega) only[go_sem,W];refine hK _ ?_;clear hK K))|((with_reducible refine Q0d ?_ ?_);rfl;intro K hK;simp(disch:=omega) only[go_sem,W];((repeat(refine ndI (by first|assumption|omega|rfl) ?_));refine hK _ ?_;clear hK K))|(with_reducible first|(refine Q0c ?_;refine hR _ ?_;clear hR R)|((first|refine Q0e ?_|refine Q0g ?_);intro Ψ hΨ hΨ')|(refine Q0b ?_;intro R hR)|(refine hΨ _ ?_;clear hΨ hΨ' Ψ)|refine Q0h ?_)|((with_reducible refine hΨ' _ _ ?_ ?_);(focus(simp;done));clear hΨ hΨ' Ψ)|((with_reducible apply Q1i);rfl;rfl;rfl;all_goals(intro hb;first|(cases hb;done)|((try simp only[Bool.not_true,Bool.not_false] at hb);(first|((with_reducible intro K hK);simp(disch:=omega) only[go_sem,W];((repeat(refine ndI (by first|assumption|rfl) ?_));refine hK _ ?_;clear hK K))))))|((with_reducible apply Q0f);rfl;rfl;all_goals(intro hc;first|(cases hc;done)|(try simp only at hc)))))))
    exact hΨ _ ⟨(i+1,m,b),hlt,h1,by simpa using h2⟩ (by simp only;omega) (St.le_of (by simp[leT]) (by simp[leH,hget]))
 · have k1:(decide ((i:Int)<(l.length:Int)))=false:=by simpa using hge
   have e:l.take i=l:=List.take_of_length_le hge
   rw[e,htn] at hn
   rw[e,htq] at hq
   rw[hn,hq]
   (repeat(any_goals(first|((with_reducible refine Q0d ?_ ?_);rfl;intro K hK;simp only[go_sem,k1];((repeat(refine ndI (by first|assumption) ?_));refine hK _ ?_;clear hK K))|(with_reducible first|(refine Q0c ?_;refine hR _ ?_;clear hR R)|((first|refine Q0e ?_);intro Ψ hΨ hΨ')|(refine Q0b ?_;intro R hR)|(refine hΨ _ ?_;clear hΨ hΨ' Ψ)|refine Q0l ?_|refine Q0v ?_)|((with_reducible refine hΨ' _ _ ?_ ?_);(focus(simp;done));clear hΨ hΨ' Ψ)|((with_reducible apply Q0f);rfl;rfl;all_goals(intro hc;first|(cases hc;done)|(try simp only at hc))))))
   all_goals(refine⟨by simp,⟨_,?_,AV.le_refl _⟩,Q0i (by simp[leH,hget])⟩;simp only[Tryz.results17,resL,ldA,Q0z,go_sem])
end
section
open Go.RowKit
open Nat (reduceBEq)
set_option maxRecDepth 20000
set_option maxHeartbeats 2000000
theorem X5j(x y:Nat)(hx:x<WW)(hy:y<WW):Fn Tryz.prog 36 [wN x,wN y] [] (vi .i64 (if x<y then -1 else if y<x then 1 else 0)) []:=by
 have h:∀a b c d e f g h:Int,Fn Tryz.prog 36 [w4 a b c d,w4 e f g h] [] (vi .i64 (if d<h then -1 else if h<d then 1 else if c<g then -1 else if g<c then 1 else if b<f then -1 else if f<b then 1 else if a<e then -1 else if e<a then 1 else 0)) []:=by
  intro a b c d e f g h
  (refine Q1c Tryz.func36 rfl (by rfl) ?_;simp only[Tryz.ntmps36,List.length_cons,List.length_nil,Nat.reduceAdd,Nat.reduceSub,List.replicate,List.cons_append,List.nil_append])
  (repeat(any_goals(first|((with_reducible refine Q0d ?_ ?_);rfl;intro K hK;simp(disch:=omega) only[go_sem,wrI,Int.reduceSub,Int.reduceNeg,Int.reduceGE,decide_true,decide_false,ge_iff_le,gt_iff_lt];((repeat(refine ndI (by first|assumption|rfl) ?_));refine hK _ ?_;clear hK K))|(with_reducible first|(refine Q0c ?_;refine hR _ ?_;clear hR R)|((first|refine Q0e ?_|refine Q0g ?_);intro Ψ hΨ hΨ')|(refine Q0b ?_;intro R hR)|(refine hΨ _ ?_;clear hΨ hΨ' Ψ)|refine Q0h ?_|refine Q0l ?_|refine Q0v ?_)|((with_reducible refine hΨ' _ _ ?_ ?_);(focus(simp;done));clear hΨ hΨ' Ψ)|((with_reducible apply Q0f);rfl;rfl;all_goals(intro hc;first|(cases hc;done)|(try simp only at hc)))|(with_reducible refine Q4h 5 ?_)|((with_reducible refine Q5c ?_);intro Ψ hΨ hΨ')|((with_reducible refine Q0w ?_ ?_);kernel_rfl;(with_reducible refine hR _ ?_);clear hR R)|(((with_reducible apply Q0u);rfl;rfl;(simp(disch:=omega) only[rdE,rdOf,go_sem,wrI,Int.reduceSub,Int.reduceNeg,Int.reduceGE,decide_true,decide_false,ge_iff_le,gt_iff_lt];rfl);(intro τ hA hQ hN;((try simp only[Q1g,Op.operands,Call.operands,go_sem,wrI,Int.reduceSub,Int.reduceNeg,Int.reduceGE,decide_true,decide_false,ge_iff_le,gt_iff_lt,go_sem,List.mem_cons,List.not_mem_nil,forall_eq_or_imp,forall_eq,List.append_toArray,Option.toArray] at hA);(try simp only[go_sem,wrI,Int.reduceSub,Int.reduceNeg,Int.reduceGE,decide_true,decide_false,ge_iff_le,gt_iff_lt,List.mem_cons,List.not_mem_nil,forall_eq_or_imp,forall_eq] at hQ hN);(first|(revert hA;intro hA));(first|(revert hQ;intro hQ));(first|(revert hN;intro hN));simp(disch:=omega) only[go_sem,wrI,Int.reduceSub,Int.reduceNeg,Int.reduceGE,decide_true,decide_false,ge_iff_le,gt_iff_lt,go_sem,hA,hQ,hN];(repeat(refine ndI (by first|assumption|omega|rfl) ?_));(first|apply Q1d))));(simp(disch:=omega) only[St.eff,setO,Q0x,go_sem,wrI,Int.reduceSub,Int.reduceNeg,Int.reduceGE,decide_true,decide_false,ge_iff_le,gt_iff_lt]))|((with_reducible refine Q0r ?_ ?_ ?_ ?_);kernel_rfl;kernel_rfl;(first|kernel_rfl);intro R hR))))
  all_goals(refine⟨by simp,⟨_,?_,AV.le_refl _⟩,Q0i (by simp[leH,hget])⟩;simp only[Tryz.results36,resL,ldA,Q0z,go_sem])
  all_goals simp_all
  all_goals(repeat' split)<;>first|rfl|omega
 have h1:=h (l0 x) (l1 x) (l2 x) (l3 x) (l0 y) (l1 y) (l2 y) (l3 y)
 obtain⟨a,b,c,d,ex,ha,hb,hc,hd,e0,e1,e2,e3⟩:=Q4x hx
 obtain⟨a',b',c',d',ey,ha',hb',hc',hd',f0,f1,f2,f3⟩:=Q4x hy
 have e:(if l3 x<l3 y then(-1:Int) else if l3 y<l3 x then 1 else if l2 x<l2 y then -1 else if l2 y<l2 x then 1 else if l1 x<l1 y then -1 else if l1 y<l1 x then 1 else if l0 x<l0 y then -1 else if l0 y<l0 x then 1 else 0)=(if x<y then -1 else if y<x then 1 else 0):=by
  rw[e0,e1,e2,e3,f0,f1,f2,f3]
  clear h1 h e0 e1 e2 e3 f0 f1 f2 f3 hx hy
  subst ex ey
  repeat' split
  all_goals first|rfl|omega
 rw[e] at h1
 exact h1
end
section
open Go.RowKit
open Nat (reduceBEq)
set_option maxRecDepth 20000
set_option maxHeartbeats 2000000
structure Pr where
 k:Nat
 v:Nat
def Pr.ok(p:Pr):Prop:=p.k<WW∧p.v<WW
def Pr.pv(p:Pr):List PV:=[.v (.int .u64 (l0 p.k)),.v (.int .u64 (l1 p.k)),.v (.int .u64 (l2 p.k)),.v (.int .u64 (l3 p.k)),.v (.int .u64 (l0 p.v)),.v (.int .u64 (l1 p.v)),.v (.int .u64 (l2 p.v)),.v (.int .u64 (l3 p.v))]
theorem X4r(p:Pr):p.pv.length=8:=rfl
def bpv(b:Nat):List PV:=[.v (.int .u8 (b:Int))]
theorem X4g(b:Nat):(bpv b).length=1:=rfl
abbrev bsV(l:List Nat):PV:=.sl false 1 l.length (l.flatMap bpv)
abbrev psV(l:List Pr):PV:=.sl false 8 l.length (l.flatMap Pr.pv)
structure Ac where
 a:Int
 b:Nat
 n:Int
 code:List Nat
 store:List Pr
def Ac.ok(x:Ac):Prop:=U x.a∧x.b<WW∧U x.n∧(x.code.length≤maxLen∧∀c∈x.code,c<256)∧x.store.length≤maxLen∧∀p∈x.store,p.ok
def Ac.pv(x:Ac):List PV:=[.v (.int .u64 x.a),.v (.int .u64 (l0 x.b)),.v (.int .u64 (l1 x.b)),.v (.int .u64 (l2 x.b)),.v (.int .u64 (l3 x.b)),.v (.int .u64 x.n),bsV x.code,psV x.store]
theorem ac_len(x:Ac):x.pv.length=8:=rfl
abbrev ac8(a:Int)(b:Nat)(n:Int)(c s:PV):List AV:=[vi .u64 a,vi .u64 (l0 b),vi .u64 (l1 b),vi .u64 (l2 b),vi .u64 (l3 b),vi .u64 n,.c c,.c s]
abbrev acA(x:Ac):AV:=.agg (ac8 x.a x.b x.n (bsV x.code) (psV x.store))
abbrev acS(ex:Bool)(l:List Ac):AV:=.c (.sl ex 8 l.length (l.flatMap Ac.pv))
abbrev stA(ex:Bool)(l:List Ac):AV:=.agg [acS ex l]
theorem ps_at{l:List Pr}{i:Nat}{y:Pr}(h:l[i]? = some y):((l.flatMap Pr.pv).drop (i*8)).take 8=[.v (.int .u64 (l0 y.k)),.v (.int .u64 (l1 y.k)),.v (.int .u64 (l2 y.k)),.v (.int .u64 (l3 y.k)),.v (.int .u64 (l0 y.v)),.v (.int .u64 (l1 y.v)),.v (.int .u64 (l2 y.v)),.v (.int .u64 (l3 y.v))]:=Q4m (f:=Pr.pv) X4r h
theorem X3d{l:List Ac}{i:Nat}{y:Ac}(h:l[i]? = some y):((l.flatMap Ac.pv).drop (i*8)).take 8=[.v (.int .u64 y.a),.v (.int .u64 (l0 y.b)),.v (.int .u64 (l1 y.b)),.v (.int .u64 (l2 y.b)),.v (.int .u64 (l3 y.b)),.v (.int .u64 y.n),bsV y.code,psV y.store]:=Q4m (f:=Ac.pv) ac_len h
def okP(st:List Pr)(j:Nat):Bool:=match st[j]? with
 |none=>true
 |some p=>decide (p.v≠0)&&(decide (j=0)||match st[j-1]? with
  |some q=>decide (q.k<p.k)
  |none=>true)
def okTo(st:List Pr):Nat→Bool
 |0=>true
 |i+1=>okTo st i&&okP st i
def okAc(x:Ac):Bool:=decide (x.a≠0)&&decide (x.code.length≤200)&&decide (x.store.length≤24)&&okTo x.store x.store.length
theorem okP_zero{st:List Pr}{p:Pr}(h:st[0]? = some p):okP st 0=decide (p.v≠0):=by
 unfold okP;rw[h];simp
theorem okP_succ{st:List Pr}{j:Nat}{q p:Pr}(hq:st[j]? = some q)(hp:st[j+1]? = some p):okP st (j+1)=(decide (p.v≠0)&&decide (q.k<p.k)):=by
 unfold okP;rw[hp];simp[hq]
theorem zero_dec{x:Nat}(hx:x<WW):(l0 x==0&&(l1 x==0&&(l2 x==0&&l3 x==0))) = !decide (x≠0):=by
 rw[X3g hx]
 by_cases h:x=0<;>simp[h]
theorem check_no(x:Ac)(hl:x.store.length≤maxLen)(hc:x.code.length≤maxLen)(h0:(decide (x.a≠0)&&decide (x.code.length≤200)&&decide (x.store.length≤24))=false):Fn Tryz.prog 71 [acA x] [] (vi .i64 161) []:=by
 obtain⟨a,b,n,code,store⟩:=x
 dsimp only at hl hc h0
 obtain⟨p1,e1⟩:∃p,decide (a≠0)=p:=⟨_,rfl⟩
 obtain⟨p2,e2⟩:∃p,decide (code.length≤200)=p:=⟨_,rfl⟩
 obtain⟨p3,e3⟩:∃p,decide (store.length≤24)=p:=⟨_,rfl⟩
 have f1:(a != 0)=p1:=by rw[←e1];by_cases h:a=0<;>simp[h]
 have f2:decide ((code.length:Int)≤200)=p2:=by rw[←e2];exact decide_eq_decide.2 (by omega)
 have f3:decide ((store.length:Int)≤24)=p3:=by rw[←e3];exact decide_eq_decide.2 (by omega)
 rw[e1,e2,e3] at h0
 clear e1 e2 e3
 have hlv:store.length<9223372036854775808:=Nat.lt_succ_of_le hl
 (refine Q1c Tryz.func71 rfl (by rfl) ?_;simp only[Tryz.ntmps71,List.length_cons,List.length_nil,Nat.reduceAdd,Nat.reduceSub,List.replicate,List.cons_append,List.nil_append])
 (have W:=ndI f1 (ndI f2 f3);(repeat(any_goals(first|((with_reducible refine Q0d ?_ ?_);rfl;intro K hK;simp only[go_sem,W];((repeat(refine ndI (by first|assumption) ?_));refine hK _ ?_;clear hK K))|(with_reducible first|(refine Q0c ?_;refine hR _ ?_;clear hR R)|((first|refine Q0e ?_|refine Q0g ?_);intro Ψ hΨ hΨ')|(refine Q0b ?_;intro R hR)|(refine hΨ _ ?_;clear hΨ hΨ' Ψ))|((with_reducible apply Q1i);rfl;rfl;rfl;all_goals(intro hb;first|(cases hb;done)|((try simp only[Bool.not_true,Bool.not_false] at hb);(first|((with_reducible intro K hK);simp only[go_sem,W];((repeat(refine ndI (by first|assumption) ?_));refine hK _ ?_;clear hK K))|((fail_if_success (with_reducible intro _));simp only[go_sem,W])))))))))
 all_goals refine Q3f store.length (fun i=>⟨[.any,.ptr 1 0,vi .i64 0,vb false,.any,.any,.any,.any,.any,.any,.any,.any,.any,.any,.any,.any,.any,.any,.any,.any,.any,.any,.c (psV store),vi .i64 store.length,vi .i64 (i:Int),.any,.any,.any,.any,.any,.any,.any,.any,.any,.any,.any,.any,.any,.any,.any,.any,.any,.any,.any,.any,.any,.any,.any,.any,.any,.any,.any,.any,.any,.any,.any],[(1,ac8 a b n (bsV code) (psV store))]⟩) (St.le_of (by simp_all [leT]) (by simp[leH,hget])) ?_
 all_goals intro i hi Ψ hΨ hΨ'
 all_goals(try dsimp only at hΨ ⊢)
 all_goals rcases Nat.lt_or_ge i store.length with hlt|hge
 all_goals first
  |(have k1:(decide ((i:Int)<(store.length:Int)))=true:=decide_eq_true (by omega))
  |(have k1:(decide ((i:Int)<(store.length:Int)))=false:=decide_eq_false (by omega))
 all_goals first
  |(have hx:=hlt
    obtain⟨p,hp⟩:∃p,store[i]? = some p:=⟨_,List.getElem?_eq_getElem hx⟩
    have k2:=ps_at hp)
  |(have k2:=True.intro)
 all_goals have k7:(i:Int)+1=((i+1:Nat):Int):=by omega
 all_goals(have W:=ndI k1 (ndI k2 (ndI k7 @wrI));(repeat(any_goals(first|((with_reducible refine Q0d ?_ ?_);rfl;intro K hK;simp(disch:=omega) only[go_sem,W];((repeat(refine ndI (by first|assumption|omega|rfl) ?_));refine hK _ ?_;clear hK K))|(with_reducible first|(refine Q0c ?_;refine hR _ ?_;clear hR R)|((first|refine Q0e ?_|refine Q0g ?_);intro Ψ hΨ hΨ')|(refine Q0b ?_;intro R hR)|(refine hΨ _ ?_;clear hΨ hΨ' Ψ)|refine Q0h ?_|refine Q0l ?_|refine Q0v ?_)|((with_reducible refine hΨ' _ _ ?_ ?_);(focus(simp;done));clear hΨ hΨ' Ψ)|((with_reducible apply Q0f);rfl;rfl;all_goals(intro hc;first|(cases hc;done)|(try simp only at hc)))|((with_reducible refine Q0w ?_ ?_);kernel_rfl;(with_reducible refine hR _ ?_);clear hR R)|((first|((with_reducible apply Q1w);rfl;rfl;rfl;rfl)|((with_reducible apply Q3c);rfl;rfl;rfl)|((first|((with_reducible apply Q0u);rfl;rfl));(simp(disch:=omega) only[rdE,rdOf,go_sem,W];rfl);(intro τ hA hQ hN;((try simp only[Q1g,Op.operands,Call.operands,go_sem,W,go_sem,List.mem_cons,List.not_mem_nil,forall_eq_or_imp,forall_eq,List.append_toArray,Option.toArray] at hA);(try simp only[go_sem,W,List.mem_cons,List.not_mem_nil,forall_eq_or_imp,forall_eq] at hQ hN);(first|(revert hA;intro hA));(first|(revert hQ;intro hQ));(first|(revert hN;intro hN));simp(disch:=omega) only[go_sem,W,go_sem,hA,hQ,hN];(repeat(refine ndI (by first|assumption|rfl) ?_));(first|apply Q1d)))));(simp(disch:=omega) only[St.eff,setO,Q0x,go_sem,W]))|((with_reducible refine Q0r ?_ ?_ ?_ ?_);kernel_rfl;kernel_rfl;(first|kernel_rfl);intro R hR)))))
 all_goals first|exact hΨ _ hlt (St.le_of (by simp[leT]) (by simp[leH,hget]))|(refine⟨by simp,⟨_,?_,AV.le_refl _⟩,Q0i (by simp[leH,hget])⟩;simp only[Tryz.results71,resL,ldA,Q0z,go_sem])
theorem check_yes(x:Ac)(hs:∀p∈x.store,p.ok)(h0:(decide (x.a≠0)&&decide (x.code.length≤200)&&decide (x.store.length≤24))=true):Fn Tryz.prog 71 [acA x] [] (vi .i64 (if okTo x.store x.store.length then 0 else 161)) []:=by
 obtain⟨a,b,n,code,store⟩:=x
 dsimp only at hs h0 ⊢
 simp only[Bool.and_eq_true,decide_eq_true_eq] at h0
 obtain⟨⟨h1,h2⟩,h3⟩:=h0
 have f1:(a != 0)=true:=by simp[h1]
 have f2:decide ((code.length:Int)≤200)=true:=decide_eq_true (by omega)
 have f3:decide ((store.length:Int)≤24)=true:=decide_eq_true (by omega)
 obtain⟨rr,hrr⟩:∃r,okTo store store.length=r:=⟨_,rfl⟩
 rw[hrr]
 (refine Q1c Tryz.func71 rfl (by rfl) ?_;simp only[Tryz.ntmps71,List.length_cons,List.length_nil,Nat.reduceAdd,Nat.reduceSub,List.replicate,List.cons_append,List.nil_append])
 (have W:=ndI f1 (ndI f2 f3);(repeat(any_goals(first|((with_reducible refine Q0d ?_ ?_);rfl;intro K hK;simp only[go_sem,W];((repeat(refine ndI (by first|assumption) ?_));refine hK _ ?_;clear hK K))|(with_reducible first|(refine Q0c ?_;refine hR _ ?_;clear hR R)|((first|refine Q0e ?_|refine Q0g ?_);intro Ψ hΨ hΨ')|(refine Q0b ?_;intro R hR)|(refine hΨ _ ?_;clear hΨ hΨ' Ψ))|((with_reducible apply Q1i);rfl;rfl;rfl;all_goals(intro hb;first|(cases hb;done)|((try simp only[Bool.not_true,Bool.not_false] at hb);(first|((with_reducible intro K hK);simp only[go_sem,W];((repeat(refine ndI (by first|assumption) ?_));refine hK _ ?_;clear hK K))))))))))
 refine Q3f store.length (fun i=>⟨[.any,.ptr 1 0,vi .i64 0,vb (okTo store i),.any,.any,.any,.any,.any,.any,.any,.any,.any,.any,.any,.any,.any,.any,.any,.any,.any,.any,.c (psV store),vi .i64 store.length,vi .i64 (i:Int),.any,.any,.any,.any,.any,.any,.any,.any,.any,.any,.any,.any,.any,.any,.any,.any,.any,.any,.any,.any,.any,.any,.any,.any,.any,.any,.any,.any,.any,.any,.any],[(1,ac8 a b n (bsV code) (psV store))]⟩) (St.le_of (by simp[leT,okTo]) (by simp[leH,hget])) ?_
 intro i hi Ψ hΨ hΨ'
 (try dsimp only at hΨ ⊢)
 have k7:(i:Int)+1=((i+1:Nat):Int):=by omega
 rcases Nat.lt_or_ge i store.length with hlt|hge
 · obtain⟨p,hp⟩:∃p,store[i]? = some p:=⟨_,List.getElem?_eq_getElem hlt⟩
   have k1:(decide ((i:Int)<(store.length:Int)))=true:=decide_eq_true (by omega)
   have k2:=ps_at hp
   have hv:=zero_dec (hs p (List.mem_of_getElem? hp)).2
   obtain⟨q1,hq1⟩:∃q,decide (p.v≠0)=q:=⟨_,rfl⟩
   rw[hq1] at hv
   have hnx:okTo store (i+1)=(okTo store i&&okP store i):=rfl
   rw[hnx] at hΨ
   generalize okTo store i=g at hΨ ⊢
   rcases Nat.eq_zero_or_pos i with h0|h0
   · have n3:((i:Int)==0)=true:=by rw[h0];rfl
     have hok:okP store i=q1:=by
      rw[h0] at hp ⊢
      rw[okP_zero hp,hq1]
     rw[hok] at hΨ
     cases g<;>cases q1
     all_goals simp only[Bool.not_true,Bool.not_false] at hv
     all_goals(have W:=ndI k1 (ndI k2 (ndI k7 (ndI n3 @wrI)));(repeat(any_goals(first|((with_reducible refine Q0d ?_ ?_);rfl;intro K hK;simp(disch:=omega) only[go_sem,W,hv];((repeat(refine ndI (by first|assumption|omega|rfl) ?_));refine hK _ ?_;clear hK K))|(with_reducible first|(refine Q0c ?_;refine hR _ ?_;clear hR R)|((first|refine Q0e ?_|refine Q0g ?_);intro Ψ hΨ hΨ')|(refine Q0b ?_;intro R hR)|(refine hΨ _ ?_;clear hΨ hΨ' Ψ)|refine Q0h ?_)|((with_reducible refine hΨ' _ _ ?_ ?_);(focus(simp;done));clear hΨ hΨ' Ψ)|((with_reducible apply Q0f);rfl;rfl;all_goals(intro hc;first|(cases hc;done)|(try simp only at hc)))|((with_reducible refine Q0w ?_ ?_);kernel_rfl;(with_reducible refine hR _ ?_);clear hR R)|((first|((with_reducible apply Q1w);rfl;rfl;rfl;rfl)|((with_reducible apply Q3c);rfl;rfl;rfl)|((first|((with_reducible apply Q0u);rfl;rfl)|((with_reducible apply Q1l);rfl;rfl;rfl;rfl;rfl));(simp(disch:=omega) only[rdE,rdOf,go_sem,W,hv];rfl);(intro τ hA hQ hN;((try simp only[Q1g,Op.operands,Call.operands,go_sem,W,hv,go_sem,List.mem_cons,List.not_mem_nil,forall_eq_or_imp,forall_eq,List.append_toArray,Option.toArray] at hA);(try simp only[go_sem,W,hv,List.mem_cons,List.not_mem_nil,forall_eq_or_imp,forall_eq] at hQ hN);(first|(revert hA;intro hA));(first|(revert hQ;intro hQ));(first|(revert hN;intro hN));simp(disch:=omega) only[go_sem,W,hv,go_sem,hA,hQ,hN];(repeat(refine ndI (by first|assumption|rfl) ?_));(first|apply Q1d)))));(simp(disch:=omega) only[St.eff,setO,Q0x,go_sem,W,hv]))|((with_reducible refine Q0r ?_ ?_ ?_ ?_);kernel_rfl;kernel_rfl;(first|kernel_rfl);intro R hR)))))
     all_goals exact hΨ _ hlt (St.le_of (by simp[leT]) (by simp[leH,hget]))
   · obtain⟨j,hj⟩:∃j,i=j+1:=⟨i-1,by omega⟩
     obtain⟨q,hq⟩:∃q,store[j]? = some q:=⟨_,List.getElem?_eq_getElem (by omega)⟩
     have n3:((i:Int)==0)=false:=by rw[beq_eq_false_iff_ne];omega
     have n4:=ps_at hq
     have n5:(i:Int)-1=(j:Int):=by omega
     have hjl:j<store.length:=by omega
     have cm:=X5j q.k p.k (hs q (List.mem_of_getElem? hq)).1 (hs p (List.mem_of_getElem? hp)).1
     obtain⟨q2,hq2⟩:∃c,decide (q.k<p.k)=c:=⟨_,rfl⟩
     have hok:okP store i=(q1&&q2):=by
      rw[hj] at hp ⊢
      rw[okP_succ hq hp,hq1,hq2]
     rw[hok] at hΨ
     obtain⟨cv,hcv,hcd⟩:∃cv:Int,(if q.k<p.k then -1 else if p.k<q.k then 1 else 0:Int)=cv∧decide (cv<0)=q2:=by
      refine⟨_,rfl,?_⟩
      rw[←hq2]
      by_cases h:q.k<p.k
      · rw[if_pos h,decide_eq_true h];rfl
      · rw[if_neg h,decide_eq_false h];split<;>rfl
     rw[hcv] at cm
     cases g<;>cases q1<;>cases q2
     all_goals simp only[Bool.not_true,Bool.not_false] at hv
     all_goals(have W:=ndI k1 (ndI k2 (ndI k7 (ndI n3 (ndI n4 (ndI n5 @wrI)))));(repeat(any_goals(first|((with_reducible refine Q0d ?_ ?_);rfl;intro K hK;simp(disch:=omega) only[go_sem,W,hv,hcd];((repeat(refine ndI (by first|assumption|omega|rfl) ?_));refine hK _ ?_;clear hK K))|(with_reducible first|(refine Q0c ?_;refine hR _ ?_;clear hR R)|((first|refine Q0e ?_|refine Q0g ?_);intro Ψ hΨ hΨ')|(refine Q0b ?_;intro R hR)|(refine hΨ _ ?_;clear hΨ hΨ' Ψ)|refine Q0h ?_)|((with_reducible refine hΨ' _ _ ?_ ?_);(focus(simp;done));clear hΨ hΨ' Ψ)|((with_reducible apply Q0f);rfl;rfl;all_goals(intro hc;first|(cases hc;done)|(try simp only at hc)))|((with_reducible refine Q0w ?_ ?_);kernel_rfl;(with_reducible refine hR _ ?_);clear hR R)|((first|((with_reducible apply Q1w);rfl;rfl;rfl;rfl)|((with_reducible apply Q3c);rfl;rfl;rfl)|((first|((with_reducible apply Q1k);rfl;rfl;rfl;rfl;rfl));((apply Q0s (cm);rfl;rfl;rfl;rfl;exact Tryz.func36);kernel_rfl;rfl;(focus((simp(disch:=omega) only[go_sem,W,hv,hcd]);(try rfl);done));(first|rfl)))|((first|((with_reducible apply Q0u);rfl;rfl)|((with_reducible apply Q1l);rfl;rfl;rfl;rfl;rfl));(simp(disch:=omega) only[rdE,rdOf,go_sem,W,hv,hcd];rfl);(intro τ hA hQ hN;((try simp only[Q1g,Op.operands,Call.operands,go_sem,W,hv,hcd,go_sem,List.mem_cons,List.not_mem_nil,forall_eq_or_imp,forall_eq,List.append_toArray,Option.toArray] at hA);(try simp only[go_sem,W,hv,hcd,List.mem_cons,List.not_mem_nil,forall_eq_or_imp,forall_eq] at hQ hN);(first|(revert hA;intro hA));(first|(revert hQ;intro hQ));(first|(revert hN;intro hN));simp(disch:=omega) only[go_sem,W,hv,hcd,go_sem,hA,hQ,hN];(repeat(refine ndI (by first|assumption|omega|rfl) ?_));(first|apply Q1d)))));(simp(disch:=omega) only[St.eff,setO,Q0x,go_sem,W,hv,hcd]))|((with_reducible refine Q0r ?_ ?_ ?_ ?_);kernel_rfl;kernel_rfl;(first|kernel_rfl);intro R hR)))))
     all_goals exact hΨ _ hlt (St.le_of (by simp[leT]) (by simp[leH,hget]))
 · have k1:(decide ((i:Int)<(store.length:Int)))=false:=decide_eq_false (by omega)
   have e:i=store.length:=by omega
   rw[e,hrr]
   rw[e] at k1
   (repeat(any_goals(first|((with_reducible refine Q0d ?_ ?_);rfl;intro K hK;simp only[go_sem,k1];((repeat(refine ndI (by first|assumption) ?_));refine hK _ ?_;clear hK K))|(with_reducible first|(refine Q0c ?_;refine hR _ ?_;clear hR R)|((first|refine Q0e ?_);intro Ψ hΨ hΨ')|(refine Q0b ?_;intro R hR)|(refine hΨ _ ?_;clear hΨ hΨ' Ψ)|refine Q0h ?_|refine Q0l ?_|refine Q0v ?_)|((with_reducible refine hΨ' _ _ ?_ ?_);(focus(simp;done));clear hΨ hΨ' Ψ)|((with_reducible apply Q0f);rfl;rfl;all_goals(intro hc;first|(cases hc;done)|(try simp only at hc))))))
   all_goals simp only[Bool.not_eq_true',Bool.not_eq_false'] at hc
   all_goals rw[hc]
   all_goals(refine⟨by simp,⟨_,?_,AV.le_refl _⟩,Q0i (by simp[leH,hget])⟩;simp only[Tryz.results71,resL,ldA,Q0z,go_sem])
theorem check_fn(x:Ac)(hs:∀p∈x.store,p.ok)(hl:x.store.length≤maxLen)(hc:x.code.length≤maxLen):Fn Tryz.prog 71 [acA x] [] (vi .i64 (if okAc x then 0 else 161)) []:=by
 unfold okAc
 obtain⟨c,h0⟩:∃c,(decide (x.a≠0)&&decide (x.code.length≤200)&&decide (x.store.length≤24))=c:=⟨_,rfl⟩
 rw[h0]
 cases c
 · rw[Bool.false_and]
   exact check_no x hl hc h0
 · rw[Bool.true_and]
   exact check_yes x hs h0
def Q9u(x:Ac):Bool:=decide (x.b=0)&&decide (x.n=0)&&decide (x.code.length+x.store.length=0)
theorem X0z(x:Ac)(hb:x.b<WW)(hl:x.store.length≤maxLen)(hc:x.code.length≤maxLen)(h:x.code.length+x.store.length≤maxLen):Fn Tryz.prog 72 [acA x] [] (vb (Q9u x)) []:=by
 obtain⟨a,b,n,code,store⟩:=x
 dsimp only at hb hl hc h
 unfold Q9u
 dsimp only
 have f1:=X3g hb
 obtain⟨p1,e1⟩:∃p,decide (b=0)=p:=⟨_,rfl⟩
 obtain⟨p2,e2⟩:∃p,decide (n=0)=p:=⟨_,rfl⟩
 obtain⟨p3,e3⟩:∃p,decide (code.length+store.length=0)=p:=⟨_,rfl⟩
 have f2:(n==0)=p2:=by rw[←e2,Bool.eq_iff_iff];simp
 have f3:((code.length:Int)+(store.length:Int))=((code.length+store.length:Nat):Int):=by omega
 have f4:(((code.length+store.length:Nat):Int)==0)=p3:=by
  rw[←e3,Bool.eq_iff_iff,beq_iff_eq,decide_eq_true_eq];omega
 have hm:code.length+store.length<9223372036854775808:=Nat.lt_succ_of_le h
 rw[e1] at f1
 rw[e1,e2,e3]
 clear e1 e2 e3
 generalize code.length+store.length=m at f3 f4 hm
 cases p1<;>cases p2<;>cases p3
 all_goals(refine Q1c Tryz.func72 rfl (by rfl) ?_;simp only[Tryz.ntmps72,List.length_cons,List.length_nil,Nat.reduceAdd,Nat.reduceSub,List.replicate,List.cons_append,List.nil_append])
 all_goals(have W:=ndI f1 (ndI f2 (ndI f3 (ndI f4 @wrI)));(repeat(any_goals(first|((with_reducible refine Q0d ?_ ?_);rfl;intro K hK;simp(disch:=omega) only[go_sem,W];((repeat(refine ndI (by first|assumption|rfl) ?_));refine hK _ ?_;clear hK K))|(with_reducible first|(refine Q0c ?_;refine hR _ ?_;clear hR R)|((first|refine Q0e ?_);intro Ψ hΨ hΨ')|(refine Q0b ?_;intro R hR)|(refine hΨ _ ?_;clear hΨ hΨ' Ψ)|refine Q0l ?_)|((with_reducible apply Q1i);rfl;rfl;rfl;all_goals(intro hb;first|(cases hb;done)|((try simp only[Bool.not_true,Bool.not_false] at hb);(first|((with_reducible intro K hK);simp(disch:=omega) only[go_sem,W];((repeat(refine ndI (by first|assumption|rfl) ?_));refine hK _ ?_;clear hK K))|((fail_if_success (with_reducible intro _));simp(disch:=omega) only[go_sem,W])))))))))
 all_goals(refine⟨by simp,⟨_,?_,AV.le_refl _⟩,Q0i (by simp[leH,hget])⟩;simp only[Tryz.results72,resL,ldA,Q0z,go_sem])
 all_goals rfl
end
section
open Go.RowKit
open Nat (reduceBEq)
set_option maxRecDepth 20000
set_option maxHeartbeats 2000000
theorem many_fn(ex:Bool)(L:List Ac)(hL:L.length≤maxLen):Fn Tryz.prog 70 [stA ex L] [] (vi .i64 ((L.filter fun x=>decide (16≤x.a)).length:Nat)) []:=by
 (refine Q1c Tryz.func70 rfl (by rfl) ?_;simp only[Tryz.ntmps70,List.length_cons,List.length_nil,Nat.reduceAdd,Nat.reduceSub,List.replicate,List.cons_append,List.nil_append])
 (repeat(any_goals(first|((with_reducible refine Q0d ?_ ?_);rfl;intro K hK;simp only[go_sem];((repeat(refine ndI (by first|assumption) ?_));refine hK _ ?_;clear hK K))|(with_reducible first|(refine Q0c ?_;refine hR _ ?_;clear hR R)|((first|refine Q0e ?_|refine Q0g ?_);intro Ψ hΨ hΨ')|(refine Q0b ?_;intro R hR)|(refine hΨ _ ?_;clear hΨ hΨ' Ψ)))))
 refine Q3f L.length (fun i=>⟨[.any,.ptr 1 0,.any,vi .i64 (((L.take i).filter fun x=>decide (16≤x.a)).length:Nat),.any,.any,.any,acS ex L,vi .i64 L.length,vi .i64 (i:Int),.any,.any,.any,.any,.any,.any,.any,.any,.any,.any],[(1,[acS ex L])]⟩) (St.le_of (by simp[leT]) (by simp[leH,hget])) ?_
 intro i hi Ψ hΨ hΨ'
 (try dsimp only at hΨ ⊢)
 have k8:L.length<9223372036854775808:=Nat.lt_succ_of_le hL
 rcases Nat.lt_or_ge i L.length with hlt|hge
 · obtain⟨x,hx⟩:∃x,L[i]? = some x:=⟨_,List.getElem?_eq_getElem hlt⟩
   have k1:(decide ((i:Int)<(L.length:Int)))=true:=decide_eq_true (by omega)
   have k2:=X3d hx
   have k7:(i:Int)+1=((i+1:Nat):Int):=by omega
   have k3:((L.take (i+1)).filter fun x=>decide (16≤x.a))=((L.take i).filter fun x=>decide (16≤x.a))++(if decide (16≤x.a) then[x] else[]):=by
    rw[List.take_add_one,hx,List.filter_append];simp[List.filter_cons]
   have k5:((L.take i).filter fun x=>decide (16≤x.a)).length≤i:=Nat.le_trans (List.length_filter_le _ _) (by rw[List.length_take];omega)
   rw[k3,List.length_append] at hΨ
   generalize ((L.take i).filter fun x=>decide (16≤x.a)).length=c at hΨ k5 ⊢
   cases hq:decide (16≤x.a) with
   |true=>
    rw[hq] at hΨ
    have k6:(c:Int)+1=((c+1:Nat):Int):=by omega
    (have W:=ndI k1 (ndI k2 (ndI k6 (ndI k7 @wrI)));(repeat(any_goals(first|((with_reducible refine Q0d ?_ ?_);rfl;intro K hK;simp(disch:=omega) only[go_sem,W,hq];((repeat(refine ndI (by first|assumption|omega|rfl) ?_));refine hK _ ?_;clear hK K))|(with_reducible first|(refine Q0c ?_;refine hR _ ?_;clear hR R)|((first|refine Q0e ?_|refine Q0g ?_);intro Ψ hΨ hΨ')|(refine Q0b ?_;intro R hR)|(refine hΨ _ ?_;clear hΨ hΨ' Ψ)|refine Q0h ?_)|((with_reducible refine hΨ' _ _ ?_ ?_);(focus(simp;done));clear hΨ hΨ' Ψ)|((with_reducible apply Q0f);rfl;rfl;all_goals(intro hc;first|(cases hc;done)|(try simp only at hc)))))))
    all_goals exact hΨ _ hlt (St.le_of (by simp[leT]) (by simp[leH,hget]))
   |false=>
    rw[hq] at hΨ
    (have W:=ndI k1 (ndI k2 (ndI k7 @wrI));(repeat(any_goals(first|((with_reducible refine Q0d ?_ ?_);rfl;intro K hK;simp(disch:=omega) only[go_sem,W,hq];((repeat(refine ndI (by first|assumption|omega|rfl) ?_));refine hK _ ?_;clear hK K))|(with_reducible first|(refine Q0c ?_;refine hR _ ?_;clear hR R)|((first|refine Q0e ?_|refine Q0g ?_);intro Ψ hΨ hΨ')|(refine Q0b ?_;intro R hR)|(refine hΨ _ ?_;clear hΨ hΨ' Ψ)|refine Q0h ?_)|((with_reducible refine hΨ' _ _ ?_ ?_);(focus(simp;done));clear hΨ hΨ' Ψ)|((with_reducible apply Q0f);rfl;rfl;all_goals(intro hc;first|(cases hc;done)|(try simp only at hc)))))))
    all_goals exact hΨ _ hlt (St.le_of (by simp[leT]) (by simp[leH,hget]))
 · have k1:(decide ((i:Int)<(L.length:Int)))=false:=decide_eq_false (by omega)
   rw[List.take_of_length_le hge]
   (repeat(any_goals(first|((with_reducible refine Q0d ?_ ?_);rfl;intro K hK;simp only[go_sem,k1];((repeat(refine ndI (by first|assumption) ?_));refine hK _ ?_;clear hK K))|(with_reducible first|(refine Q0c ?_;refine hR _ ?_;clear hR R)|((first|refine Q0e ?_);intro Ψ hΨ hΨ')|(refine Q0b ?_;intro R hR)|(refine hΨ _ ?_;clear hΨ hΨ' Ψ)|refine Q0l ?_|refine Q0v ?_)|((with_reducible refine hΨ' _ _ ?_ ?_);(focus(simp;done));clear hΨ hΨ' Ψ)|((with_reducible apply Q0f);rfl;rfl;all_goals(intro hc;first|(cases hc;done)|(try simp only at hc))))))
   all_goals(refine⟨by simp,⟨_,?_,AV.le_refl _⟩,Q0i (by simp[leH,hget])⟩;simp only[Tryz.results70,resL,ldA,Q0z,go_sem])
theorem X4h(ex:Bool)(L:List Ac):Fn Tryz.prog 73 [stA ex L] [] (.fn 93 [.ptr 1 0]) [(1,[acS ex L])]:=by
 (refine Q1c Tryz.func73 rfl (by rfl) ?_;simp only[Tryz.ntmps73,List.length_cons,List.length_nil,Nat.reduceAdd,Nat.reduceSub,List.replicate,List.cons_append,List.nil_append])
 (repeat(any_goals(first|((with_reducible refine Q0d ?_ ?_);rfl;intro K hK;simp only[go_sem];((repeat(refine ndI (by first|assumption) ?_));refine hK _ ?_;clear hK K))|(with_reducible first|(refine Q0c ?_;refine hR _ ?_;clear hR R)|((first|refine Q0e ?_);intro Ψ hΨ hΨ')|(refine Q0b ?_;intro R hR)|(refine hΨ _ ?_;clear hΨ hΨ' Ψ)|refine Q0l ?_))))
 all_goals exact⟨by simp,⟨_,rfl,AV.le_of (by simp[Q0z])⟩,Q0i (by simp[leH,hget])⟩
abbrev balH0(out:List Nat):List (Nat×List AV):=[(1003,[.row 1600 27 4 out.length]),(1600,rcW out)]
abbrev balH1(out:List Nat)(y:Nat):List (Nat×List AV):=[(1003,[.row 15 27 4 (out.length+1)]),(15,rcW (out++[y]))]
abbrev stB(ex:Bool)(L:List Ac)(lp r:Nat)(out:List Nat)(i:Nat):St:=⟨[yv lp,.ptr 1101 0,.any,.any,.any,.any,acS ex L,vi .i64 L.length,vi .i64 i,.any,.any,.any,.any,.any,.any,.any,.any,.any],[(1003,[.row r 27 4 out.length]),(r,rcW out),(1101,[acS ex L])]⟩
theorem stB_rn(ex:Bool)(L:List Ac)(lp:Nat)(out:List Nat)(i:Nat):(stB ex L lp 15 out i).to (stB ex L lp 600 out i):=by
 have h:=St.to.rn (σ:=stB ex L lp 15 out i) (fun r=>if r=15 then 600 else r) (fun r=>if r=600 then 15 else r) [15,1003,1101] (by simp[AV.inNL,AV.inN]) (by simp) (by simp[inH,AV.inNL,AV.inN,Q6e]) (by simp) (by simp)
 simpa [AV.renL,AV.ren,renH,Q4y] using h
theorem stB_rn0(ex:Bool)(L:List Ac)(lp:Nat)(out:List Nat)(i:Nat):(stB ex L lp 1600 out i).to (stB ex L lp 600 out i):=by
 have h:=St.to.rn (σ:=stB ex L lp 1600 out i) (fun r=>if r=1600 then 600 else r) (fun r=>if r=600 then 1600 else r) [1600,1003,1101] (by simp[AV.inNL,AV.inN]) (by simp) (by simp[inH,AV.inNL,AV.inN,Q6e]) (by simp) (by simp)
 simpa [AV.renL,AV.ren,renH,Q4y] using h
theorem bal1_fn(ex:Bool)(m:List Nat)(hm1:m.length≤10)(L:List Ac)(hl:L.length≤900){t:Tmp}{asg bod:Code}{T0:List AV}(hT0:AV.inNL [1003] T0=true)(lp:Nat)
 (hY:∀(out:List Nat) (y:Ac),y∈L→out.length≤1000→YC Tryz.prog t asg bod T0 lp (wN y.b) (balH0 out) (balH1 out y.b)) :
 FnW (LoopAt t asg bod T0 [1003,1600,1101] lp) Tryz.prog 93 [yv lp,.ptr 1101 0] [(1003,[.row 1600 27 4 m.length]),(1600,rcW m),(1101,[acS ex L])] (.tup []) [(1003,[.row 600 27 4 (m++L.map Ac.b).length]),(600,rcW (m++L.map Ac.b))]:=by
 (refine X5e Tryz.func93 rfl (by rfl) ?_;simp only[Tryz.ntmps93,List.length_cons,List.length_nil,Nat.reduceAdd,Nat.reduceSub,List.replicate,List.cons_append,List.nil_append])
 refine AWE.seq (AWE.of ?_)
 have k8:∀r,AV.refsL r (rcW m)=false:=fun r=>Q0m r _
 (repeat(any_goals(first|((with_reducible refine Q0d ?_ ?_);rfl;intro K hK;simp only[go_sem,k8];((repeat(refine ndI (by first|assumption) ?_));refine hK _ ?_;clear hK K))|(with_reducible first|(refine Q0c ?_;refine hR _ ?_;clear hR R)|(refine Q0b ?_;intro R hR)))))
 refine AWE.block ?_
 refine AWE.loop (α:={i:Nat // i≤L.length}) (fun p=>stB ex L lp 600 (m++(L.take p.1).map Ac.b) p.1) (fun p=>L.length-p.1) ⟨0,Nat.zero_le _⟩ ?_ ?_
 · refine St.to.trans (St.to.of_le (τ:=stB ex L lp 1600 (m++(L.take 0).map Ac.b) 0) (St.le_of (by simp[leT]) (by simp[leH,hget]))) (stB_rn0 ex L lp _ _)
 rintro ⟨i,hi⟩
 dsimp only[stB]
 rcases Nat.lt_or_ge i L.length with hlt|hge
 · obtain⟨y,hy⟩:∃y,L[i]? = some y:=⟨L[i],List.getElem?_eq_getElem hlt⟩
   have k1:(decide ((i:Int)<(L.length:Int)))=true:=by simpa using hlt
   have k2:=X3d hy
   have k7:(i:Int)+1=((i+1:Nat):Int):=by omega
   have k5:(m++(L.take i).map Ac.b).length≤1000:=by rw[List.length_append,List.length_map,List.length_take];omega
   have hm:=List.mem_of_getElem? hy
   have m1:m++(L.take (i+1)).map Ac.b=(m++(L.take i).map Ac.b)++[y.b]:=by
    rw[List.take_add_one,hy,List.map_append,List.append_assoc];rfl
   have fin:∀τ : St,τ.to (stB ex L lp 600 (m++(L.take (i+1)).map Ac.b) (i+1))→∃q:{i:Nat // i≤L.length},L.length-q.1<L.length-i∧τ.to (stB ex L lp 600 (m++(L.take q.1).map Ac.b) q.1):=fun τ h=>⟨⟨i+1,hlt⟩,by simp only;omega,h⟩
   rw[m1] at fin
   generalize m++(L.take i).map Ac.b=out at k5 fin ⊢
   have k9:∀r,AV.refsL r (rcW out)=false:=fun r=>Q0m r _
   refine AWE.seq (AWE.of ?_)
   (repeat(any_goals(first|((with_reducible refine Q0d ?_ ?_);rfl;intro K hK;simp only[go_sem,k1];((repeat(refine ndI (by first|assumption) ?_));refine hK _ ?_;clear hK K))|(with_reducible first|(refine Q0c ?_;refine hR _ ?_;clear hR R)|(refine Q0b ?_;intro R hR)))))
   refine AWE.seq (AWE.of ?_)
   (repeat(any_goals(first|(with_reducible first|refine Q0h ?_)|((with_reducible apply Q0f);rfl;rfl;all_goals(intro hc;first|(cases hc;done)|(try simp only at hc))))))
   refine AWE.seq (AWE.block (AWE.seq (AWE.of ?_)))
   (have W:=ndI k1 (ndI k2 (ndI k7 (ndI k9 @wrI)));(repeat(any_goals(first|((with_reducible refine Q0d ?_ ?_);rfl;intro K hK;simp(disch:=omega) only[go_sem,W];((repeat(refine ndI (by first|assumption|omega|rfl) ?_));refine hK _ ?_;clear hK K))|(with_reducible first|(refine Q0c ?_;refine hR _ ?_;clear hR R)|(refine Q0b ?_;intro R hR))))))
   refine AWE.seq (AWE.region_at 3 rfl rfl ?_)
   intro R hR
   simp only[List.take,List.drop]
   (have W:=ndI k1 (ndI k2 (ndI k7 (ndI k9 @wrI)));(repeat(any_goals(first|((with_reducible refine Q0d ?_ ?_);rfl;intro K hK;simp(disch:=omega) only[go_sem,W];((repeat(refine ndI (by first|assumption|rfl) ?_));refine hK _ ?_;clear hK K))|(with_reducible first|(refine Q0c ?_;refine hR _ ?_;clear hR R))))))
   refine⟨.inl rfl,opE_yield (hY out y hm (by omega)) (fun r=>if r=1600 then 600 else r) rfl rfl rfl rfl (.inr ?_) (by rfl) ?_ ?_ ?_ ?_ [1003] hT0 ?_ ?_⟩
   · simp[AV.ren,AV.renL,St.ev]
   · simp[hget,AV.renL,AV.ren,Q4y]
   · intro r hr q hq h
     simp only[List.map_cons,List.map_nil,List.cons_append,List.nil_append,List.mem_cons,List.not_mem_nil,or_false] at hr hq
     rcases hr with rfl|rfl|rfl|rfl<;>rcases hq with rfl|rfl|rfl|rfl<;>simp at h ⊢
   · simp[Q1t,St.free,Q1j,AV.refs,AV.refsL,k9]
   · simp[inH,AV.inNL,AV.inN,Q6e]
   · simp[hget]
   intro R hR
   simp only[List.drop,Q0x,Q2c,renH,AV.ren,AV.renL,Q4y,hput,hdel,hget,St.put,List.set]
   (have W:=ndI k1 (ndI k2 (ndI k7 (ndI k9 @wrI)));(repeat(any_goals(first|((with_reducible refine Q0d ?_ ?_);rfl;intro K hK;simp(disch:=omega) only[go_sem,W];((repeat(refine ndI (by first|assumption|rfl) ?_));refine hK _ ?_;clear hK K))|(with_reducible first|(refine Q0c ?_;refine hR _ ?_;clear hR R))))))
   show AWE _ _ _ _ _
   refine AWE.of ?_
   (repeat(any_goals(first|(with_reducible first|refine Q0h ?_)|((with_reducible apply Q0f);rfl;rfl;all_goals(intro hc;first|(cases hc;done)|(try simp only at hc))))))
   show AWE _ _ _ _ _
   refine AWE.of ?_
   (repeat(any_goals(first|((with_reducible refine Q0d ?_ ?_);rfl;intro K hK;simp(disch:=omega) only[go_sem,k7,wrI];((repeat(refine ndI (by first|assumption|rfl) ?_));refine hK _ ?_;clear hK K))|(with_reducible first|(refine Q0c ?_;refine hR _ ?_;clear hR R)|(refine Q0b ?_;intro R hR)))))
   exact fin _ (St.to.trans (St.to.of_le (τ:=stB ex L lp 15 (out++[y.b]) (i+1)) (St.le_of (by simp[leT]) (by simp[leH,hget]))) (stB_rn ex L lp _ _))
 · have k1:(decide ((i:Int)<(L.length:Int)))=false:=by simpa using hge
   have e:L.take i=L:=List.take_of_length_le hge
   rw[e]
   refine AWE.seq (AWE.of ?_)
   (repeat(any_goals(first|((with_reducible refine Q0d ?_ ?_);rfl;intro K hK;simp only[go_sem,k1];((repeat(refine ndI (by first|assumption) ?_));refine hK _ ?_;clear hK K))|(with_reducible first|(refine Q0c ?_;refine hR _ ?_;clear hR R)|(refine Q0b ?_;intro R hR)))))
   refine AWE.seq (AWE.of ?_)
   (repeat(any_goals(first|(with_reducible first|refine Q0v ?_)|((with_reducible apply Q0f);rfl;rfl;all_goals(intro hc;first|(cases hc;done)|(try simp only at hc))))))
   exact⟨by simp,⟨_,rfl,AV.le_of (by simp[Q0z])⟩,Q0i (by simp[leH,hget])⟩
theorem rcW_snoc(l:List Nat)(x:Nat):rcW (l++[x])=rcW l++(wpv x).map .c:=by
 unfold rcW;rw[List.flatMap_append,List.map_append,List.flatMap_cons,List.flatMap_nil,List.append_nil]
theorem X1j(ex:Bool)(L:List Ac)(hl:L.length≤900)(ok:∀x∈L,x.b<WW):Fn Tryz.prog 59 [stA ex L,.c (.v (.slice none 0 0))] [] (.tup [wN ((L.map Ac.b).sum%WW),vb (!decide (WW≤(L.map Ac.b).sum))]) []:=by
 have hs:=fun ex=>X1l ex (L.map Ac.b) (by rw[List.length_map];omega) (by simpa using ok)
 obtain⟨q,hq⟩:∃q,decide (WW≤(L.map Ac.b).sum)=q:=⟨_,rfl⟩
 obtain⟨n,hn⟩:∃n,(L.map Ac.b).sum%WW=n:=⟨_,rfl⟩
 rw[hq,hn] at hs
 rw[hq,hn]
 (refine Q1c Tryz.func59 rfl (by rfl) ?_;simp only[Tryz.ntmps59,List.length_cons,List.length_nil,Nat.reduceAdd,Nat.reduceSub,List.replicate,List.cons_append,List.nil_append])
 (repeat(any_goals(first|((with_reducible refine Q0p ?_ ?_ ?_);rfl;rfl;intro K hK;(apply Q1b (X4h ex L) (fun r=>r+100);rfl;rfl;rfl;rfl;exact Tryz.func73;kernel_rfl;rfl;rfl;(intro r hr q hq h;simp only[List.map_cons,List.map_nil,List.cons_append,List.nil_append,List.mem_cons,List.not_mem_nil,or_false] at hr hq;(try dsimp only at h);first|omega);(simp only[Q1f,Q1y,AV.ren,AV.renL,Q0q,List.mem_cons,List.not_mem_nil,forall_eq_or_imp,forall_eq,Q1t,List.contains_cons,List.contains_nil,AV.refsL,AV.refs,Q0m,AV.inN,AV.inNL,inH,Q1a,go_sem]));(simp only[Q0x,Q2c,renH,AV.ren,AV.renL,Q0q,go_sem];refine hK _ ?_;clear hK K))|((with_reducible refine Q0d ?_ ?_);rfl;intro K hK;simp only[go_sem];((repeat(refine ndI (by first|assumption) ?_));refine hK _ ?_;clear hK K))|(with_reducible first|(refine Q0c ?_;refine hR _ ?_;clear hR R)|((first|refine Q0e ?_|refine Q0g ?_);intro Ψ hΨ hΨ')|(refine Q0b ?_;intro R hR)|(refine hΨ _ ?_;clear hΨ hΨ' Ψ)))))
 show AW _ _ _ _
 refine AW.to (St.to.nilcell 3 700 27 4 0 (cs:=[.c (.v (.slice none 0 0))]) (by simp[hget]) rfl (by simp[St.free,Q1j,AV.refsL,AV.refs]) (by decide) (by decide)) ?_
 refine AW.range (T0:=[.any,.any,.any,.ptr 1003 0,.any,.any,.any,.any,.any,.any,.any,.any,.any,.any,.any,.any,.any,.any,.any,.any,.any,.any,.any,.any]) (cargs:=[.ptr 1101 0]) (H0:=[(1003,[.row 1600 27 4 ([]:List Nat).length]),(1600,rcW []),(1101,[acS ex L])]) (H1:=[(1003,[.row 600 27 4 ([]++L.map Ac.b).length]),(600,rcW ([]++L.map Ac.b))]) (res:=.tup []) (fun r=>if r=1600 then 700 else if 1000≤r then r-1000 else r) (fun lp=>bal1_fn ex [] (by simp) L hl rfl lp fun out y hm ho=>yc_of rfl rfl ?_) rfl rfl Tryz.func93 (by kernel_rfl) rfl rfl ?_ ?_ ?_ ?_ ?_ rfl ?_ ?_
 · have k4:=Q8i out
   have k9:∀r,AV.refsL r (rcW out)=false:=fun r=>Q0m r _
   simp only[List.set]
   (repeat(any_goals(first|((with_reducible refine Q0d ?_ ?_);rfl;intro K hK;simp(disch:=omega) only[go_sem,k4,k9];((repeat(refine ndI (by first|assumption|rfl) ?_));refine hK _ ?_;clear hK K))|(with_reducible first|(refine Q0c ?_;refine hR _ ?_;clear hR R)|(refine Q0b ?_;intro R hR)))))
   refine⟨rfl,?_⟩
   (have W:=ndI k4 (ndI k9 @Q0m);(repeat(any_goals(first|((with_reducible refine Q0d ?_ ?_);rfl;intro K hK;simp(disch:=omega) only[go_sem,W,Q2i,AV.refsL,AV.refs,List.length_append,List.length_cons,List.length_nil,Bool.or_false];((repeat(refine ndI (by first|assumption|omega|rfl) ?_));refine hK _ ?_;clear hK K))|(with_reducible first|(refine Q0c ?_;refine hR _ ?_;clear hR R)|((first|refine Q0g ?_);intro Ψ hΨ hΨ')|(refine Q0b ?_;intro R hR))|((with_reducible refine hΨ' _ _ ?_ ?_);(focus(simp;done));clear hΨ hΨ' Ψ)))))
   exact⟨rfl,Q0i (by simp[leH,hget,rcW_snoc,wpv])⟩
 · simp[Q1f,Q1y,AV.ren]
 · simp[Q1f,Q1y,AV.ren]
 · simp[hget,AV.renL,AV.ren,hput,rcW]
 · intro r hr q hq h
   simp only[List.map_cons,List.map_nil,List.cons_append,List.nil_append,List.mem_cons,List.not_mem_nil,or_false] at hr hq
   rcases hr with rfl|rfl|rfl|rfl|rfl<;>rcases hq with rfl|rfl|rfl|rfl|rfl<;>simp at h ⊢
 · simp[Q1t,St.free,Q1j,AV.refs,AV.refsL,hput]
 · simp[inH,AV.inNL,AV.inN,Q6e]
 · simp only[Q0x,Q2c,renH,AV.ren,AV.renL,Q4y,hput,hdel,hget,Nat.reduceLeDiff,Nat.reduceSub,Nat.reduceEqDiff,↓reduceIte,List.nil_append]
   (repeat(any_goals(first|((with_reducible refine Q0d ?_ ?_);rfl;intro K hK;simp only[go_sem];((repeat(refine ndI (by first|assumption) ?_));refine hK _ ?_;clear hK K))|(with_reducible first|((first|refine Q0e ?_);intro Ψ hΨ hΨ')|(refine Q0b ?_;intro R hR)|(refine hΨ _ ?_;clear hΨ hΨ' Ψ))|((with_reducible refine hΨ' _ _ ?_ ?_);(focus(simp;done));clear hΨ hΨ' Ψ))))
   refine evL_to rfl (St.to.frz 600 (pcs:=(L.map Ac.b).flatMap wpv) (by simp[hget,rcW])) ?_
   have el:((L.map Ac.b).flatMap wpv).length=(L.map Ac.b).length*4:=Q1e Q5g _
   simp only[St.frz,AV.frzL,AV.frz,frzH,el,if_true,eq_self,↓reduceIte,Nat.reduceEqDiff]
   (repeat(any_goals(first|((with_reducible refine Q0p ?_ ?_ ?_);rfl;rfl;intro K hK;((apply Q0k (hs _);rfl;rfl;rfl;rfl;exact Tryz.func17);kernel_rfl;rfl;(focus((simp only[go_sem]);(try rfl);done));(first|rfl));(simp only[go_sem];refine hK _ ?_;clear hK K))|((with_reducible refine Q0d ?_ ?_);rfl;intro K hK;simp only[go_sem];((repeat(refine ndI (by first|assumption|rfl) ?_));refine hK _ ?_;clear hK K))|(with_reducible first|(refine Q0c ?_;refine hR _ ?_;clear hR R)|((first|refine Q0e ?_);intro Ψ hΨ hΨ')|(refine Q0b ?_;intro R hR)|(refine hΨ _ ?_;clear hΨ hΨ' Ψ)|refine Q0l ?_))))
   all_goals(refine⟨by simp,⟨_,?_,AV.le_refl _⟩,Q0i (by simp[leH,hget])⟩;simp only[Tryz.results59,resL,ldA,Q0z,go_sem])
end
section
open Go.RowKit
open Nat (reduceBEq)
set_option maxRecDepth 20000
set_option maxHeartbeats 2000000
def okS1(L:List Ac)(j:Nat):Bool:=match L[j]? with
 |none=>true
 |some x=>okAc x && !Q9u x&&(decide (j=0)||match L[j-1]? with
  |some q=>decide (q.a<x.a)
  |none=>true)
def okS(q:Bool)(L:List Ac):Nat→Bool
 |0=>q
 |i+1=>okS q L i&&okS1 L i
def manyL(L:List Ac):Nat:=(L.filter fun x=>decide (16≤x.a)).length
def okSt(L:List Ac):Bool:=okS (!decide (WW≤(L.map Ac.b).sum)&&decide (manyL L≤24)) L L.length
theorem okS1_zero{L:List Ac}{x:Ac}(h:L[0]? = some x):okS1 L 0=(okAc x && !Q9u x):=by
 unfold okS1;rw[h];simp
theorem okS1_succ{L:List Ac}{j:Nat}{q x:Ac}(hq:L[j]? = some q)(hx:L[j+1]? = some x):okS1 L (j+1)=(okAc x && !Q9u x&&decide (q.a<x.a)):=by
 unfold okS1;rw[hx];simp[hq]
theorem X4u{q:Bool}{L:List Ac}{i:Nat}(h:okS q L i=false):∀j,i≤j→okS q L j=false
 |0,hj=>by
  obtain rfl:i=0:=by omega
  exact h
 |j+1,hj=>by
  by_cases e:i=j+1
  · rw[←e];exact h
  · unfold okS;rw[X4u h j (by omega),Bool.false_and]
def Ac.fine(x:Ac):Prop:=x.ok∧x.code.length+x.store.length≤maxLen
theorem Q9a(ex:Bool)(L:List Ac)(hl:L.length≤900)(ok:∀x∈L,x.fine):Fn Tryz.prog 58 [stA ex L] [] (vi .i64 (if okSt L then 0 else 160)) []:=by
 have tn:=X1j ex L hl fun x hx=>(ok x hx).1.2.1
 have mn:=many_fn ex L (Nat.le_trans hl (by decide))
 obtain⟨rr,hrr⟩:∃r,okSt L=r:=⟨_,rfl⟩
 rw[hrr]
 unfold okSt at hrr
 obtain⟨s1,hs1⟩:∃q,decide (WW≤(L.map Ac.b).sum)=q:=⟨_,rfl⟩
 obtain⟨s2,hs2⟩:∃q,decide (manyL L≤24)=q:=⟨_,rfl⟩
 obtain⟨tt,htt⟩:∃q,(L.map Ac.b).sum%WW=q:=⟨_,rfl⟩
 have f1:decide ((((L.filter fun x=>decide (16≤x.a)).length:Nat):Int)≤24)=s2:=by
  rw[←hs2];exact decide_eq_decide.2 (by unfold manyL;omega)
 rw[hs1,htt] at tn
 rw[hs1,hs2] at hrr
 clear hs1 hs2 htt
 have inv:(!s1&&s2)=true∨((!s1&&s2)=false∧rr=false):=by
  cases h:(!s1&&s2) with
  |true=>exact .inl rfl
  |false=>
   rw[h] at hrr
   exact .inr ⟨rfl,by rw[←hrr];exact X4u (i:=0) rfl _ (Nat.zero_le _)⟩
 rcases inv with hq|⟨hq,rfl⟩
 · simp only[Bool.and_eq_true,Bool.not_eq_true'] at hq
   obtain⟨rfl,rfl⟩:=hq
   rw[show(!false&&true)=true from rfl] at hrr
   (refine Q1c Tryz.func58 rfl (by rfl) ?_;simp only[Tryz.ntmps58,List.length_cons,List.length_nil,Nat.reduceAdd,Nat.reduceSub,List.replicate,List.cons_append,List.nil_append])
   (repeat(any_goals(first|((with_reducible refine Q0p ?_ ?_ ?_);rfl;rfl;intro K hK;((apply Q0k (tn);rfl;rfl;rfl;rfl;exact Tryz.func59);kernel_rfl;rfl;(focus((simp only[go_sem,f1]);(try rfl);done));(first|rfl));(simp only[go_sem,f1];refine hK _ ?_;clear hK K))|((with_reducible refine Q0d ?_ ?_);rfl;intro K hK;simp only[go_sem,f1];((repeat(refine ndI (by first|assumption) ?_));refine hK _ ?_;clear hK K))|(with_reducible first|(refine Q0c ?_;refine hR _ ?_;clear hR R)|((first|refine Q0e ?_|refine Q0g ?_|refine X2t ?_);intro Ψ hΨ hΨ')|(refine Q0b ?_;intro R hR)|(refine hΨ _ ?_;clear hΨ hΨ' Ψ)|refine X2u ?_)|((with_reducible apply Q1i);rfl;rfl;rfl;all_goals(intro hb;first|(cases hb;done)|((try simp only[Bool.not_true,Bool.not_false] at hb);(first|((with_reducible intro K hK);(first|((apply Q0k (mn);rfl;rfl;rfl;rfl;exact Tryz.func70);kernel_rfl;rfl;(focus((simp only[go_sem,f1]);(try rfl);done));(first|rfl))|skip);simp only[go_sem,f1];((repeat(refine ndI (by first|assumption) ?_));refine hK _ ?_;clear hK K)))))))))
   refine Q3f L.length (fun i=>⟨[.any,.ptr 1 0,vi .i64 0,.any,vb (okS true L i),.any,.any,.any,.any,.any,.any,.any,.any,.any,.any,.any,.any,.any,.any,acS ex L,vi .i64 L.length,vi .i64 (i:Int),.any,.any,.any,.any,.any,.any,.any,.any,.any,.any,.any,.any,.any,.any,.any,.any,.any,.any,.any,.any,.any,.any,.any,.any,.any,.any,.any,.any,.any,.any,.any,.any,.any,.any,.any,.any],[(1,[acS ex L])]⟩) (St.le_of (by simp[leT,okS]) (by simp[leH,hget])) ?_
   intro i hi Ψ hΨ hΨ'
   (try dsimp only at hΨ ⊢)
   have k7:(i:Int)+1=((i+1:Nat):Int):=by omega
   rcases Nat.lt_or_ge i L.length with hlt|hge
   · obtain⟨x,hx⟩:∃x,L[i]? = some x:=⟨_,List.getElem?_eq_getElem hlt⟩
     have k1:(decide ((i:Int)<(L.length:Int)))=true:=decide_eq_true (by omega)
     have k2:=X3d hx
     obtain⟨⟨u1,u2,u3,⟨u4,u5⟩,u6,u7⟩,u8⟩:=ok x (List.mem_of_getElem? hx)
     have hck:=check_fn x u7 u6 u4
     have hem:=X0z x u2 u6 u4 u8
     obtain⟨q1,hq1⟩:∃q,okAc x=q:=⟨_,rfl⟩
     obtain⟨q2,hq2⟩:∃q,Q9u x=q:=⟨_,rfl⟩
     rw[hq1] at hck
     rw[hq2] at hem
     have hnx:okS true L (i+1)=(okS true L i&&okS1 L i):=rfl
     have hno:okS true L (i+1)=false→rr=false:=fun h=>by rw[←hrr];exact X4u h _ hlt
     have hno0:okS true L i=false→rr=false:=fun h=>by rw[←hrr];exact X4u h _ hi
     rw[hnx] at hΨ hno
     generalize okS true L i=g at hΨ hno hno0 ⊢
     rcases Nat.eq_zero_or_pos i with h0|h0
     · have n3:((i:Int)==0)=true:=by rw[h0];rfl
       have hok:okS1 L i=(q1 && !q2):=by
        rw[h0] at hx ⊢
        rw[okS1_zero hx,hq1,hq2]
       rw[hok] at hΨ hno
       cases g<;>cases q1<;>cases q2
       all_goals have hr:=hno
       all_goals try replace hr:=hr rfl
       all_goals simp only[Bool.false_eq_true,if_true,if_false] at hck
       all_goals(have W:=ndI k1 (ndI k2 (ndI k7 (ndI n3 @wrI)));(repeat(any_goals(first|((with_reducible refine Q0d ?_ ?_);rfl;intro K hK;simp(disch:=omega) only[go_sem,W];((repeat(refine ndI (by first|assumption|omega|rfl) ?_));refine hK _ ?_;clear hK K))|(with_reducible first|(refine Q0c ?_;refine hR _ ?_;clear hR R)|((first|refine Q0e ?_|refine Q0g ?_);intro Ψ hΨ hΨ')|(refine Q0b ?_;intro R hR)|(refine hΨ _ ?_;clear hΨ hΨ' Ψ)|refine Q0h ?_|refine Q0l ?_|refine Q0v ?_)|((with_reducible refine hΨ' _ _ ?_ ?_);(focus(simp;done));clear hΨ hΨ' Ψ)|((with_reducible apply Q0f);rfl;rfl;all_goals(intro hc;first|(cases hc;done)|(try simp only at hc)))|((with_reducible refine Q0w ?_ ?_);kernel_rfl;(with_reducible refine hR _ ?_);clear hR R)|((first|((with_reducible apply Q1w);rfl;rfl;rfl;rfl)|((with_reducible apply Q3c);rfl;rfl;rfl)|((first|((with_reducible apply Q1k);rfl;rfl;rfl;rfl;rfl));((first|(apply Q0s (hck);rfl;rfl;rfl;rfl;exact Tryz.func71)|(apply Q0s (hem);rfl;rfl;rfl;rfl;exact Tryz.func72));kernel_rfl;rfl;(focus((simp(disch:=omega) only[go_sem,W]);(try rfl);done));(first|rfl)))|((first|((with_reducible apply Q0u);rfl;rfl)|((with_reducible apply Q1l);rfl;rfl;rfl;rfl;rfl));(simp(disch:=omega) only[rdE,rdOf,go_sem,W];rfl);(intro τ hA hQ hN;((try simp only[Q1g,Op.operands,Call.operands,go_sem,W,go_sem,List.mem_cons,List.not_mem_nil,forall_eq_or_imp,forall_eq,List.append_toArray,Option.toArray] at hA);(try simp only[go_sem,W,List.mem_cons,List.not_mem_nil,forall_eq_or_imp,forall_eq] at hQ hN);(first|(revert hA;intro hA));(first|(revert hQ;intro hQ));(first|(revert hN;intro hN));simp(disch:=omega) only[go_sem,W,go_sem,hA,hQ,hN];(repeat(refine ndI (by first|assumption|rfl) ?_));(first|apply Q1d)))));(simp(disch:=omega) only[St.eff,setO,Q0x,go_sem,W]))|((with_reducible refine Q0r ?_ ?_ ?_ ?_);kernel_rfl;kernel_rfl;(first|kernel_rfl);intro R hR)))))
       all_goals first
        |exact hΨ _ hlt (St.le_of (by simp[leT]) (by simp[leH,hget]))
        |(rw[hr];(refine⟨by simp,⟨_,?_,AV.le_refl _⟩,Q0i (by simp[leH,hget])⟩;simp only[Tryz.results58,resL,ldA,Q0z,go_sem]))
     · obtain⟨j,hj⟩:∃j,i=j+1:=⟨i-1,by omega⟩
       obtain⟨q,hq⟩:∃q,L[j]? = some q:=⟨_,List.getElem?_eq_getElem (by omega)⟩
       have n3:((i:Int)==0)=false:=by rw[beq_eq_false_iff_ne];omega
       have n4:=X3d hq
       have n5:(i:Int)-1=(j:Int):=by omega
       have hjl:j<L.length:=by omega
       obtain⟨q3,hq3⟩:∃c,decide (q.a<x.a)=c:=⟨_,rfl⟩
       have hok:okS1 L i=(q1 && !q2&&q3):=by
        rw[hj] at hx ⊢
        rw[okS1_succ hq hx,hq1,hq2,hq3]
       rw[hok] at hΨ hno
       cases g<;>cases q1<;>cases q2<;>cases q3
       all_goals have hr:=hno
       all_goals try replace hr:=hr rfl
       all_goals simp only[Bool.false_eq_true,if_true,if_false] at hck
       all_goals(have W:=ndI k1 (ndI k2 (ndI k7 (ndI n3 (ndI n4 (ndI n5 (ndI hq3 @wrI))))));(repeat(any_goals(first|((with_reducible refine Q0d ?_ ?_);rfl;intro K hK;simp(disch:=omega) only[go_sem,W];((repeat(refine ndI (by first|assumption|omega|rfl) ?_));refine hK _ ?_;clear hK K))|(with_reducible first|(refine Q0c ?_;refine hR _ ?_;clear hR R)|((first|refine Q0e ?_|refine Q0g ?_);intro Ψ hΨ hΨ')|(refine Q0b ?_;intro R hR)|(refine hΨ _ ?_;clear hΨ hΨ' Ψ)|refine Q0h ?_|refine Q0l ?_|refine Q0v ?_)|((with_reducible refine hΨ' _ _ ?_ ?_);(focus(simp;done));clear hΨ hΨ' Ψ)|((with_reducible apply Q0f);rfl;rfl;all_goals(intro hc;first|(cases hc;done)|(try simp only at hc)))|((with_reducible refine Q0w ?_ ?_);kernel_rfl;(with_reducible refine hR _ ?_);clear hR R)|((first|((with_reducible apply Q1w);rfl;rfl;rfl;rfl)|((with_reducible apply Q3c);rfl;rfl;rfl)|((first|((with_reducible apply Q1k);rfl;rfl;rfl;rfl;rfl));((first|(apply Q0s (hck);rfl;rfl;rfl;rfl;exact Tryz.func71)|(apply Q0s (hem);rfl;rfl;rfl;rfl;exact Tryz.func72));kernel_rfl;rfl;(focus((simp(disch:=omega) only[go_sem,W]);(try rfl);done));(first|rfl)))|((first|((with_reducible apply Q0u);rfl;rfl)|((with_reducible apply Q1l);rfl;rfl;rfl;rfl;rfl));(simp(disch:=omega) only[rdE,rdOf,go_sem,W];rfl);(intro τ hA hQ hN;((try simp only[Q1g,Op.operands,Call.operands,go_sem,W,go_sem,List.mem_cons,List.not_mem_nil,forall_eq_or_imp,forall_eq,List.append_toArray,Option.toArray] at hA);(try simp only[go_sem,W,List.mem_cons,List.not_mem_nil,forall_eq_or_imp,forall_eq] at hQ hN);(first|(revert hA;intro hA));(first|(revert hQ;intro hQ));(first|(revert hN;intro hN));simp(disch:=omega) only[go_sem,W,go_sem,hA,hQ,hN];(repeat(refine ndI (by first|assumption|omega|rfl) ?_));(first|apply Q1d)))));(simp(disch:=omega) only[St.eff,setO,Q0x,go_sem,W]))|((with_reducible refine Q0r ?_ ?_ ?_ ?_);kernel_rfl;kernel_rfl;(first|kernel_rfl);intro R hR)))))
       all_goals first
        |exact hΨ _ hlt (St.le_of (by simp[leT]) (by simp[leH,hget]))
        |(rw[hr];(refine⟨by simp,⟨_,?_,AV.le_refl _⟩,Q0i (by simp[leH,hget])⟩;simp only[Tryz.results58,resL,ldA,Q0z,go_sem]))
   · have k1:(decide ((i:Int)<(L.length:Int)))=false:=decide_eq_false (by omega)
     have e:i=L.length:=by omega
     rw[e,hrr]
     rw[e] at k1
     (repeat(any_goals(first|((with_reducible refine Q0d ?_ ?_);rfl;intro K hK;simp only[go_sem,k1];((repeat(refine ndI (by first|assumption) ?_));refine hK _ ?_;clear hK K))|(with_reducible first|(refine Q0c ?_;refine hR _ ?_;clear hR R)|((first|refine Q0e ?_);intro Ψ hΨ hΨ')|(refine Q0b ?_;intro R hR)|(refine hΨ _ ?_;clear hΨ hΨ' Ψ)|refine Q0h ?_|refine Q0l ?_|refine Q0v ?_)|((with_reducible refine hΨ' _ _ ?_ ?_);(focus(simp;done));clear hΨ hΨ' Ψ)|((with_reducible apply Q0f);rfl;rfl;all_goals(intro hc;first|(cases hc;done)|(try simp only at hc))))))
     all_goals simp only[Bool.not_eq_true',Bool.not_eq_false'] at hc
     all_goals rw[hc]
     all_goals(refine⟨by simp,⟨_,?_,AV.le_refl _⟩,Q0i (by simp[leH,hget])⟩;simp only[Tryz.results58,resL,ldA,Q0z,go_sem])
 · (refine Q1c Tryz.func58 rfl (by rfl) ?_;simp only[Tryz.ntmps58,List.length_cons,List.length_nil,Nat.reduceAdd,Nat.reduceSub,List.replicate,List.cons_append,List.nil_append])
   cases s1<;>cases s2
   all_goals first|(exact absurd hq (by decide))|skip
   all_goals(repeat(any_goals(first|((with_reducible refine Q0p ?_ ?_ ?_);rfl;rfl;intro K hK;((apply Q0k (tn);rfl;rfl;rfl;rfl;exact Tryz.func59);kernel_rfl;rfl;(focus((simp only[go_sem,f1]);(try rfl);done));(first|rfl));(simp only[go_sem,f1];refine hK _ ?_;clear hK K))|((with_reducible refine Q0d ?_ ?_);rfl;intro K hK;simp only[go_sem,f1];((repeat(refine ndI (by first|assumption) ?_));refine hK _ ?_;clear hK K))|(with_reducible first|(refine Q0c ?_;refine hR _ ?_;clear hR R)|((first|refine Q0e ?_|refine Q0g ?_|refine X2t ?_);intro Ψ hΨ hΨ')|(refine Q0b ?_;intro R hR)|(refine hΨ _ ?_;clear hΨ hΨ' Ψ)|refine X2u ?_)|((with_reducible apply Q1i);rfl;rfl;rfl;all_goals(intro hb;first|(cases hb;done)|((try simp only[Bool.not_true,Bool.not_false] at hb);(first|((with_reducible intro K hK);(first|((apply Q0k (mn);rfl;rfl;rfl;rfl;exact Tryz.func70);kernel_rfl;rfl;(focus((simp only[go_sem,f1]);(try rfl);done));(first|rfl))|skip);simp only[go_sem,f1];((repeat(refine ndI (by first|assumption) ?_));refine hK _ ?_;clear hK K))|((fail_if_success (with_reducible intro _));simp only[go_sem,f1]))))))))
   all_goals refine Q3f L.length (fun i=>⟨[.any,.ptr 1 0,vi .i64 0,.any,vb false,.any,.any,.any,.any,.any,.any,.any,.any,.any,.any,.any,.any,.any,.any,acS ex L,vi .i64 L.length,vi .i64 (i:Int),.any,.any,.any,.any,.any,.any,.any,.any,.any,.any,.any,.any,.any,.any,.any,.any,.any,.any,.any,.any,.any,.any,.any,.any,.any,.any,.any,.any,.any,.any,.any,.any,.any,.any,.any,.any],[(1,[acS ex L])]⟩) (St.le_of (by simp[leT]) (by simp[leH,hget])) ?_
   all_goals intro i hi Ψ hΨ hΨ'
   all_goals(try dsimp only at hΨ ⊢)
   all_goals rcases Nat.lt_or_ge i L.length with hlt|hge
   all_goals first
    |(have k1:(decide ((i:Int)<(L.length:Int)))=true:=decide_eq_true (by omega)
      have hx:=hlt
      obtain⟨x,hx⟩:∃x,L[i]? = some x:=⟨_,List.getElem?_eq_getElem hx⟩
      have k2:=X3d hx)
    |(have k1:(decide ((i:Int)<(L.length:Int)))=false:=decide_eq_false (by omega)
      have k2:=True.intro)
   all_goals(repeat(any_goals(first|((with_reducible refine Q0d ?_ ?_);rfl;intro K hK;simp(disch:=omega) only[go_sem,k1,k2];((repeat(refine ndI (by first|assumption|omega|rfl) ?_));refine hK _ ?_;clear hK K))|(with_reducible first|(refine Q0c ?_;refine hR _ ?_;clear hR R)|((first|refine Q0e ?_|refine Q0g ?_);intro Ψ hΨ hΨ')|(refine Q0b ?_;intro R hR)|(refine hΨ _ ?_;clear hΨ hΨ' Ψ)|refine Q0h ?_|refine Q0l ?_|refine Q0v ?_)|((with_reducible refine hΨ' _ _ ?_ ?_);(focus(simp;done));clear hΨ hΨ' Ψ)|((with_reducible apply Q0f);rfl;rfl;all_goals(intro hc;first|(cases hc;done)|(try simp only at hc)))|((with_reducible refine Q0w ?_ ?_);kernel_rfl;(with_reducible refine hR _ ?_);clear hR R)|((first|((with_reducible apply Q1w);rfl;rfl;rfl;rfl)|((with_reducible apply Q3c);rfl;rfl;rfl)|((first|((with_reducible apply Q0u);rfl;rfl));(simp(disch:=omega) only[rdE,rdOf,go_sem,k1,k2];rfl);(intro τ hA hQ hN;((try simp only[Q1g,Op.operands,Call.operands,go_sem,k1,k2,go_sem,List.mem_cons,List.not_mem_nil,forall_eq_or_imp,forall_eq,List.append_toArray,Option.toArray] at hA);(try simp only[go_sem,k1,k2,List.mem_cons,List.not_mem_nil,forall_eq_or_imp,forall_eq] at hQ hN);(first|(revert hA;intro hA));(first|(revert hQ;intro hQ));(first|(revert hN;intro hN));simp(disch:=omega) only[go_sem,k1,k2,go_sem,hA,hQ,hN];(repeat(refine ndI (by first|assumption|rfl) ?_));(first|apply Q1d)))));(simp(disch:=omega) only[St.eff,setO,Q0x,go_sem,k1,k2]))|((with_reducible refine Q0r ?_ ?_ ?_ ?_);kernel_rfl;kernel_rfl;(first|kernel_rfl);intro R hR))))
   all_goals(refine⟨by simp,⟨_,?_,AV.le_refl _⟩,Q0i (by simp[leH,hget])⟩;simp only[Tryz.results58,resL,ldA,Q0z,go_sem])
end
namespace lg
open Go.RowKit
set_option maxRecDepth 20000
set_option maxHeartbeats 2000000
structure Hd where
 a:Int
 p:Nat
 s:Nat
 d:Int
 f:Int
def Hd.pv(h:Hd):List PV:=[.v (.int .u64 h.a),.v (.int .u64 (l0 h.p)),.v (.int .u64 (l1 h.p)),.v (.int .u64 (l2 h.p)),.v (.int .u64 (l3 h.p)),.v (.int .u64 (l0 h.s)),.v (.int .u64 (l1 h.s)),.v (.int .u64 (l2 h.s)),.v (.int .u64 (l3 h.s)),.v (.int .u64 h.d),.v (.int .u64 h.f)]
def Hd.ok(h:Hd):Prop:=U h.a∧h.p<WW∧h.s<WW∧U h.d∧U h.f
theorem hd_len(h:Hd):h.pv.length=11:=rfl
abbrev c11(a:Int)(p s:Nat)(d f:Int):List AV:=[vi .u64 a,vi .u64 (l0 p),vi .u64 (l1 p),vi .u64 (l2 p),vi .u64 (l3 p),vi .u64 (l0 s),vi .u64 (l1 s),vi .u64 (l2 s),vi .u64 (l3 s),vi .u64 d,vi .u64 f]
abbrev h11(a:Int)(p s:Nat)(d f:Int):AV:=.agg (c11 a p s d f)
abbrev hsl(ex:Bool)(l:List Hd):AV:=.c (.sl ex 11 l.length (l.flatMap Hd.pv))
abbrev lg(ex:Bool)(l:List Hd):AV:=.agg [hsl ex l]
abbrev nilS:AV:=.c (.v (.slice none 0 0))
theorem X2m{l:List Hd}{i:Nat}{y:Hd}(h:l[i]? = some y):((l.flatMap Hd.pv).drop (i*11)).take 11=[.v (.int .u64 y.a),.v (.int .u64 (l0 y.p)),.v (.int .u64 (l1 y.p)),.v (.int .u64 (l2 y.p)),.v (.int .u64 (l3 y.p)),.v (.int .u64 (l0 y.s)),.v (.int .u64 (l1 y.s)),.v (.int .u64 (l2 y.s)),.v (.int .u64 (l3 y.s)),.v (.int .u64 y.d),.v (.int .u64 y.f)]:=Q4m (f:=Hd.pv) hd_len h
end lg
namespace lg
open Go.RowKit
open Nat (reduceBEq)
set_option maxRecDepth 20000
set_option maxHeartbeats 2000000
theorem X3s(x:Nat)(hx:x<WW):Fn Tryz.prog 90 [wN x] [] (vb (decide (x=0))) []:=by
 have h:=X3g hx
 obtain⟨q,hq⟩:∃q,decide (x=0)=q:=⟨_,rfl⟩
 rw[hq] at h ⊢
 (refine Q1c Tryz.func90 rfl (by rfl) ?_;simp only[Tryz.ntmps90,List.length_cons,List.length_nil,Nat.reduceAdd,Nat.reduceSub,List.replicate,List.cons_append,List.nil_append])
 (repeat(any_goals(first|((with_reducible refine Q0d ?_ ?_);rfl;intro K hK;simp only[go_sem,h];((repeat(refine ndI (by first|assumption) ?_));refine hK _ ?_;clear hK K))|(with_reducible first|(refine Q0c ?_;refine hR _ ?_;clear hR R)|((first|refine Q0e ?_);intro Ψ hΨ hΨ')|(refine Q0b ?_;intro R hR)|(refine hΨ _ ?_;clear hΨ hΨ' Ψ)|refine Q0l ?_))))
 all_goals(refine⟨by simp,⟨_,?_,AV.le_refl _⟩,Q0i (by simp[leH,hget])⟩;simp only[Tryz.results90,resL,ldA,Q0z,go_sem])
theorem X0z(a:Int)(p s:Nat)(d f:Int)(hp:p<WW)(hs:s<WW):Fn Tryz.prog 89 [h11 a p s d f] [] (vb (decide (p=0)&&decide (s=0))) []:=by
 have h1:=X3s p hp
 have h2:=X3s s hs
 generalize decide (p=0)=q1 at h1
 generalize decide (s=0)=q2 at h2
 cases q1 with
 |true=>
  (refine Q1c Tryz.func89 rfl (by rfl) ?_;simp only[Tryz.ntmps89,List.length_cons,List.length_nil,Nat.reduceAdd,Nat.reduceSub,List.replicate,List.cons_append,List.nil_append])
  (repeat(any_goals(first|((with_reducible refine Q0p ?_ ?_ ?_);rfl;rfl;intro K hK;(first|((apply Q0k (h1);rfl;rfl;rfl;rfl;exact Tryz.func90);kernel_rfl;rfl;(focus((simp only[go_sem]);(try rfl);done));(first|rfl)));(simp only[go_sem];refine hK _ ?_;clear hK K))|((with_reducible refine Q0d ?_ ?_);rfl;intro K hK;simp only[go_sem];((repeat(refine ndI (by first|assumption) ?_));refine hK _ ?_;clear hK K))|(with_reducible first|(refine Q0c ?_;refine hR _ ?_;clear hR R)|((first|refine Q0e ?_);intro Ψ hΨ hΨ')|(refine Q0b ?_;intro R hR)|(refine hΨ _ ?_;clear hΨ hΨ' Ψ)|refine Q0l ?_)|((with_reducible apply Q1i);rfl;rfl;rfl;all_goals(intro hb;first|(cases hb;done)|((try simp only[Bool.not_true,Bool.not_false] at hb);(first|((with_reducible intro K hK);(first|((apply Q0k (h2);rfl;rfl;rfl;rfl;exact Tryz.func90);kernel_rfl;rfl;(focus((simp only[go_sem]);(try rfl);done));(first|rfl))|skip);simp only[go_sem];((repeat(refine ndI (by first|assumption) ?_));refine hK _ ?_;clear hK K)))))))))
  all_goals(refine⟨by simp,⟨_,?_,AV.le_refl _⟩,Q0i (by simp[leH,hget])⟩;simp only[Tryz.results89,resL,ldA,Q0z,go_sem])
 |false=>
  (refine Q1c Tryz.func89 rfl (by rfl) ?_;simp only[Tryz.ntmps89,List.length_cons,List.length_nil,Nat.reduceAdd,Nat.reduceSub,List.replicate,List.cons_append,List.nil_append])
  (repeat(any_goals(first|((with_reducible refine Q0p ?_ ?_ ?_);rfl;rfl;intro K hK;((apply Q0k (h1);rfl;rfl;rfl;rfl;exact Tryz.func90);kernel_rfl;rfl;(focus((simp only[go_sem]);(try rfl);done));(first|rfl));(simp only[go_sem];refine hK _ ?_;clear hK K))|((with_reducible refine Q0d ?_ ?_);rfl;intro K hK;simp only[go_sem];((repeat(refine ndI (by first|assumption) ?_));refine hK _ ?_;clear hK K))|(with_reducible first|(refine Q0c ?_;refine hR _ ?_;clear hR R)|((first|refine Q0e ?_);intro Ψ hΨ hΨ')|(refine Q0b ?_;intro R hR)|(refine hΨ _ ?_;clear hΨ hΨ' Ψ)|refine Q0l ?_)|((with_reducible apply Q1i);rfl;rfl;rfl;all_goals(intro hb;first|(cases hb;done)|((try simp only[Bool.not_true,Bool.not_false] at hb);(first|((fail_if_success (with_reducible intro _));simp only[go_sem]))))))))
  all_goals(refine⟨by simp,⟨_,?_,AV.le_refl _⟩,Q0i (by simp[leH,hget])⟩;simp only[Tryz.results89,resL,ldA,Q0z,go_sem])
  all_goals rw[Bool.false_and]
def X1r(h:Hd):Bool:=(h.a != 0)&&(decide (h.d≤1073741824)&&(decide (h.f≤1100585369600)&&(!(decide (h.p=0)&&decide (h.s=0))&&(((h.d==0)==decide (h.s=0))&&((h.f==0) || !decide (h.s=0))))))
theorem Q7w(a:Int)(p s:Nat)(d f:Int)(hp:p<WW)(hs:s<WW):Fn Tryz.prog 68 [h11 a p s d f] [] (vb (X1r ⟨a,p,s,d,f⟩)) []:=by
 have h1:=X0z a p s d f hp hs
 have h2:=X3s s hs
 unfold X1r
 dsimp only
 generalize decide (p=0)=q1 at h1
 generalize decide (s=0)=q2 at h1 h2
 (refine Q1c Tryz.func68 rfl (by rfl) ?_;simp only[Tryz.ntmps68,List.length_cons,List.length_nil,Nat.reduceAdd,Nat.reduceSub,List.replicate,List.cons_append,List.nil_append])
 (repeat(any_goals(first|((with_reducible refine Q0d ?_ ?_);rfl;intro K hK;simp only[go_sem];((repeat(refine ndI (by first|assumption) ?_));refine hK _ ?_;clear hK K))|(with_reducible first|(refine Q0c ?_;refine hR _ ?_;clear hR R)|((first|refine Q0e ?_);intro Ψ hΨ hΨ')|(refine Q0b ?_;intro R hR)|(refine hΨ _ ?_;clear hΨ hΨ' Ψ)|refine Q0h ?_|refine Q0l ?_)|((with_reducible refine hΨ' _ _ ?_ ?_);(focus(simp;done));clear hΨ hΨ' Ψ)|((with_reducible apply Q1i);rfl;rfl;rfl;all_goals(intro hb;first|(cases hb;done)|((try simp only[Bool.not_true,Bool.not_false] at hb);(first|((with_reducible intro K hK);(first|((apply Q0k (h1);rfl;rfl;rfl;rfl;exact Tryz.func89);kernel_rfl;rfl;(focus((simp only[go_sem]);(try rfl);done));(first|rfl))|skip);simp only[go_sem];((repeat(refine ndI (by first|assumption) ?_));refine hK _ ?_;clear hK K))|((fail_if_success (with_reducible intro _));simp only[go_sem])))))|((with_reducible apply Q0f);rfl;rfl;all_goals(intro hc;first|(cases hc;done)|(try simp only at hc)))|((with_reducible refine Q0w ?_ ?_);kernel_rfl;(with_reducible refine hR _ ?_);clear hR R)|((first|((with_reducible apply Q1w);rfl;rfl;rfl;rfl)|((with_reducible apply Q3c);rfl;rfl;rfl)|((first|((with_reducible apply Q1m);rfl;rfl)|((with_reducible apply Q1k);rfl;rfl;rfl;rfl;rfl));((apply Q0s (h2);rfl;rfl;rfl;rfl;exact Tryz.func90);kernel_rfl;rfl;(focus((simp only[go_sem]);(try rfl);done));(first|rfl)))|((first|((with_reducible apply Q0u);rfl;rfl)|((with_reducible apply Q1l);rfl;rfl;rfl;rfl;rfl));(simp only[rdE,rdOf,go_sem];rfl);(intro τ hA hQ hN;((try simp only[Q1g,Op.operands,Call.operands,go_sem,List.mem_cons,List.not_mem_nil,forall_eq_or_imp,forall_eq,List.append_toArray,Option.toArray] at hA);(try simp only[go_sem,List.mem_cons,List.not_mem_nil,forall_eq_or_imp,forall_eq] at hQ hN);(first|(revert hA;intro hA));(first|(revert hQ;intro hQ));(first|(revert hN;intro hN));simp only[go_sem,hA,hQ,hN];(repeat(refine ndI (by first|assumption) ?_));(first|apply Q1d)))));(simp only[St.eff,setO,Q0x,go_sem]))|((with_reducible apply Q8y);rfl;rfl;rfl;all_goals intro hb;all_goals(simp only[St.eff,setO,Q0x,go_sem]))|((with_reducible refine Q0r ?_ ?_ ?_ ?_);kernel_rfl;kernel_rfl;(first|kernel_rfl);intro R hR))))
 all_goals(refine⟨by simp,⟨_,?_,AV.le_refl _⟩,Q0i (by simp[leH,hget])⟩;simp only[Tryz.results68,resL,ldA,Q0z,go_sem])
 all_goals clear h1 h2
 all_goals(cases q1<;>cases q2<;>simp_all)
 all_goals omega
def tot(l:List Hd):Nat:=(l.map fun h=>h.p+h.s).sum
def wds(l:List Hd):List Nat:=l.flatMap fun h=>[h.p,h.s]
theorem wds_sum(l:List Hd):(wds l).sum=tot l:=by
 induction l with
 |nil=>rfl
 |cons h l ih=>simp only[wds,tot,List.flatMap_cons,List.map_cons,List.sum_cons,List.sum_append,List.sum_nil] at *;omega
theorem wds_len(l:List Hd):(wds l).length=l.length*2:=by
 induction l with
 |nil=>rfl
 |cons h l ih=>simp only[wds,List.flatMap_cons,List.length_append,List.length_cons,List.length_nil] at *;omega
theorem wds_lt{l:List Hd}(ok:∀h∈l,h.ok):∀x∈wds l,x<WW:=fun x hx=>by
 unfold wds at hx
 rw[List.mem_flatMap] at hx
 obtain⟨h,hh,hx⟩:=hx
 simp only[List.mem_cons,List.not_mem_nil,or_false] at hx
 rcases hx with rfl|rfl
 · exact(ok h hh).2.1
 · exact(ok h hh).2.2.1
theorem rcW_snoc2(l:List Nat)(x y:Nat):rcW (l++[x,y])=rcW l++[vi .u64 (l0 x),vi .u64 (l1 x),vi .u64 (l2 x),vi .u64 (l3 x),vi .u64 (l0 y),vi .u64 (l1 y),vi .u64 (l2 y),vi .u64 (l3 y)]:=by
 simp[rcW,wpv]
theorem wds_snoc{l:List Hd}{i:Nat}{y:Hd}(hy:l[i]? = some y):wds (l.take (i+1))=wds (l.take i)++[y.p,y.s]:=by
 unfold wds
 rw[List.take_add_one,hy]
 simp
abbrev stAl(ex:Bool)(l:List Hd)(r:Nat)(out:List Nat)(i:Nat):St:=⟨[.any,.row r 27 4 out.length,.ptr 2 0,.any,.ptr 4 0,.any,.any,.any,.any,hsl ex l,vi .i64 l.length,vi .i64 i,.any,.any,.any,.any,.any,.any,.any,.any,.any,.any,.any,.any,.any,.any,.any],[(2,[hsl ex l]),(4,[vi .u64 0,vi .u64 0,vi .u64 0,vi .u64 0]),(r,rcW out)]⟩
theorem stAl_rn(ex:Bool)(l:List Hd)(out:List Nat)(i:Nat):(stAl ex l 21 out i).to (stAl ex l 500 out i):=by
 have h:=St.to.rn (σ:=stAl ex l 21 out i) (fun r=>if r=21 then 500 else r) (fun r=>if r=500 then 21 else r) [2,4,21] (by simp[AV.inNL,AV.inN]) (by simp) (by simp[inH,AV.inNL,AV.inN,Q6e]) (by simp) (by simp)
 simpa [AV.renL,AV.ren,renH,Q4y] using h
theorem all_nil(ex:Bool)(l:List Hd)(hl:l.length≤400)(ok:∀h∈l,h.ok):Fn Tryz.prog 64 [lg ex l,nilS] [] (.tup [wN (tot l%WW),vb (decide (WW≤tot l))]) []:=by
 have hsum:=X1l false (wds l) (by rw[wds_len];omega) (wds_lt ok)
 rw[wds_sum] at hsum
 obtain⟨tn,htn⟩:∃n,tot l%WW=n:=⟨_,rfl⟩
 obtain⟨tq,htq⟩:∃q,decide (WW≤tot l)=q:=⟨_,rfl⟩
 rw[htn,htq] at hsum ⊢
 (refine Q1c Tryz.func64 rfl (by rfl) ?_;simp only[Tryz.ntmps64,List.length_cons,List.length_nil,Nat.reduceAdd,Nat.reduceSub,List.replicate,List.cons_append,List.nil_append])
 (repeat(any_goals(first|((with_reducible refine Q0d ?_ ?_);rfl;intro K hK;simp only[go_sem];((repeat(refine ndI (by first|assumption) ?_));refine hK _ ?_;clear hK K))|(with_reducible first|(refine Q0c ?_;refine hR _ ?_;clear hR R)|((first|refine Q0e ?_|refine Q0g ?_);intro Ψ hΨ hΨ')|(refine Q0b ?_;intro R hR)|(refine hΨ _ ?_;clear hΨ hΨ' Ψ)))))
 refine Q4n l.length (fun i=>stAl ex l 500 (wds (l.take i)) i) ?_ ?_
 · refine St.to.trans (St.to.of_le (τ:=⟨[.any,.c (.v (.slice none 0 0)),.ptr 2 0,.any,.ptr 4 0,.any,.any,.any,.any,hsl ex l,vi .i64 l.length,vi .i64 0,.any,.any,.any,.any,.any,.any,.any,.any,.any,.any,.any,.any,.any,.any,.any],[(2,[hsl ex l]),(4,[vi .u64 0,vi .u64 0,vi .u64 0,vi .u64 0])]⟩) (St.le_of (by simp[leT]) (by simp[leH,hget]))) ?_
   refine St.to.trans (St.to.nilrow 1 500 27 4 rfl (by simp) (by simp[St.free,Q1j,AV.refsL,AV.refs]) (by decide)) (St.to.of_le (St.le_of (by simp[leT,wds]) (by simp[leH,hget,hput,rcW,wds])))
 intro i hi Ψ hΨ hΨ'
 dsimp only[stAl] at hΨ ⊢
 rcases Nat.lt_or_ge i l.length with hlt|hge
 · obtain⟨y,hy⟩:∃y,l[i]? = some y:=⟨l[i],List.getElem?_eq_getElem hlt⟩
   have k1:(decide ((i:Int)<(l.length:Int)))=true:=by simpa using hlt
   have k2:=X2m hy
   have k7:(i:Int)+1=((i+1:Nat):Int):=by omega
   have k5:=wds_len (l.take i)
   have k6:(l.take i).length≤400:=by simp;omega
   have hs:=wds_snoc hy
   rw[hs] at hΨ
   generalize wds (l.take i)=out at k5 hΨ ⊢
   have k4:=Q8i out
   have k9:∀r,AV.refsL r (rcW out)=false:=fun r=>Q0m r _
   (have W:=ndI k1 (ndI k2 (ndI k4 (ndI k7 (ndI k9 (ndI @wrI @Q0m)))));(repeat(any_goals(first|((with_reducible refine Q0d ?_ ?_);rfl;intro K hK;simp(disch:=omega) only[go_sem,W,Q2i,AV.refsL,AV.refs,List.length_append,List.length_cons,List.length_nil,Bool.or_false];((repeat(refine ndI (by first|assumption|omega|rfl) ?_));refine hK _ ?_;clear hK K))|(with_reducible first|(refine Q0c ?_;refine hR _ ?_;clear hR R)|((first|refine Q0e ?_|refine Q0g ?_);intro Ψ hΨ hΨ')|(refine Q0b ?_;intro R hR)|(refine hΨ _ ?_;clear hΨ hΨ' Ψ)|refine Q0h ?_)|((with_reducible refine hΨ' _ _ ?_ ?_);(focus(simp;done));clear hΨ hΨ' Ψ)|((with_reducible apply Q0f);rfl;rfl;all_goals(intro hc;first|(cases hc;done)|(try simp only at hc)))))))
   exact hΨ _ hlt (St.to.trans (St.to.of_le (τ:=stAl ex l 21 (out++[y.p,y.s]) (i+1)) (St.le_of (by simp[leT]) (by simp[leH,hget,rcW_snoc2]))) (stAl_rn ex l _ _))
 · have k1:(decide ((i:Int)<(l.length:Int)))=false:=by simpa using hge
   have e:l.take i=l:=List.take_of_length_le hge
   rw[e]
   have k4:=Q8i (wds l)
   have k5:unC (rcW (wds l))=some ((wds l).flatMap wpv):=unC_map _
   (have W:=ndI k1 (ndI k4 k5);(repeat(any_goals(first|((with_reducible refine Q0p ?_ ?_ ?_);rfl;rfl;intro K hK;((apply Q5o (hsum);rfl;rfl;rfl;rfl;exact Tryz.func17);kernel_rfl;rfl;(focus((simp(disch:=omega) only[AV.viewL,AV.view,Q4a,unC,Option.map_some,go_sem,W,Q1e Q5g]);(try rfl)));rfl);(simp(disch:=omega) only[go_sem,W,Q1e Q5g];refine hK _ ?_;clear hK K))|((with_reducible refine Q0d ?_ ?_);rfl;intro K hK;simp(disch:=omega) only[go_sem,W,Q1e Q5g];((repeat(refine ndI (by first|assumption|rfl) ?_));refine hK _ ?_;clear hK K))|(with_reducible first|(refine Q0c ?_;refine hR _ ?_;clear hR R)|((first|refine Q0e ?_);intro Ψ hΨ hΨ')|(refine Q0b ?_;intro R hR)|(refine hΨ _ ?_;clear hΨ hΨ' Ψ)|refine Q0l ?_|refine Q0v ?_)|((with_reducible refine hΨ' _ _ ?_ ?_);(focus(simp;done));clear hΨ hΨ' Ψ)|((with_reducible apply Q0f);rfl;rfl;all_goals(intro hc;first|(cases hc;done)|(try simp only at hc)))))))
   all_goals(refine⟨by simp,⟨_,?_,AV.le_refl _⟩,Q0i (by simp[leH,hget])⟩;simp only[Tryz.results64,resL,ldA,Q0z,go_sem])
end lg
namespace lg
open Go.RowKit
open Nat (reduceBEq)
set_option maxRecDepth 20000
set_option maxHeartbeats 2000000
def X0r(l:List Hd):Nat→Int
 |0=>0
 |i+1=>match l[i]? with|some y=>y.a|none=>0
def okR(l:List Hd)(i:Nat):Bool:=match l[i]? with|some y=>X1r y&&decide (X0r l i<y.a)|none=>false
def okU(l:List Hd):Nat→Bool
 |0=>true
 |i+1=>okU l i&&okR l i
def okL(l:List Hd):Bool:=decide (l.length≤24)&&(okU l l.length&&decide (tot l<WW))
theorem okU_false{l:List Hd}{i n:Nat}(h:okR l i=false)(hi:i<n):okU l n=false:=by
 induction n with
 |zero=>omega
 |succ n ih=>
  unfold okU
  rcases Nat.lt_or_ge i n with h1|h1
  · rw[ih h1];rfl
  · obtain rfl:i=n:=by omega
    rw[h,Bool.and_false]
theorem check_fn(ex:Bool)(l:List Hd)(hl:l.length≤maxLen)(ok:∀h∈l,h.ok):Fn Tryz.prog 56 [lg ex l] [] (vi .i64 (if okL l then 0 else 170)) []:=by
 unfold maxLen at hl
 by_cases h24:l.length≤24
 · have e0:(decide ((l.length:Int)>24))=false:=by simp;omega
   have al:=all_nil ex l (by omega) ok
   have hq:(decide (WW≤tot l)) = !decide (tot l<WW):=by
    rw[Bool.eq_iff_iff];simp
   rw[hq] at al
   have hres:okL l=(okU l l.length&&decide (tot l<WW)):=by unfold okL;rw[decide_eq_true h24,Bool.true_and]
   rw[hres]
   obtain⟨tn,htn⟩:∃n,tot l%WW=n:=⟨_,rfl⟩
   obtain⟨tq,htq⟩:∃q,decide (tot l<WW)=q:=⟨_,rfl⟩
   obtain⟨tu,htu⟩:∃q,okU l l.length=q:=⟨_,rfl⟩
   rw[htn,htq] at al
   rw[htq,htu]
   (refine Q1c Tryz.func56 rfl (by rfl) ?_;simp only[Tryz.ntmps56,List.length_cons,List.length_nil,Nat.reduceAdd,Nat.reduceSub,List.replicate,List.cons_append,List.nil_append])
   (repeat(any_goals(first|((with_reducible refine Q0d ?_ ?_);rfl;intro K hK;simp only[go_sem,e0];((repeat(refine ndI (by first|assumption) ?_));refine hK _ ?_;clear hK K))|(with_reducible first|(refine Q0c ?_;refine hR _ ?_;clear hR R)|((first|refine Q0e ?_|refine Q0g ?_);intro Ψ hΨ hΨ')|(refine Q0b ?_;intro R hR)|(refine hΨ _ ?_;clear hΨ hΨ' Ψ)|refine Q0h ?_)|((with_reducible apply Q0f);rfl;rfl;all_goals(intro hc;first|(cases hc;done)|(try simp only at hc))))))
   refine Q2n (α:={i:Nat // i≤l.length∧okU l i=true}) (fun p=>⟨[.any,.ptr 1 0,.any,vi .u64 (X0r l p.1),.any,.any,.any,.any,.any,.any,.any,.any,.any,hsl ex l,vi .i64 l.length,vi .i64 p.1,.any,.any,.any,.any,.any,.any,.any,.any,.any,.any,.any,.any,.any,.any,.any,.any,.any,.any,.any,.any,.any],[(1,[hsl ex l])]⟩) (fun p=>l.length-p.1) ⟨0,Nat.zero_le _,rfl⟩ (St.le_of (by simp[leT,X0r]) (by simp[leH,hget])) ?_
   rintro ⟨i,hi,hu⟩ Ψ hΨ hΨ'
   dsimp only at hi hu hΨ ⊢
   rcases Nat.lt_or_ge i l.length with hlt|hge
   · obtain⟨y,hy⟩:∃y,l[i]? = some y:=⟨l[i],List.getElem?_eq_getElem hlt⟩
     have k1:(decide ((i:Int)<(l.length:Int)))=true:=by simpa using hlt
     have k2:=X2m hy
     have k7:(i:Int)+1=((i+1:Nat):Int):=by omega
     obtain⟨_,op,os,_,_⟩:=ok y (List.mem_of_getElem? hy)
     have rf:=Q7w y.a y.p y.s y.d y.f op os
     have hR:okR l i=(X1r y&&decide (X0r l i<y.a)):=by unfold okR;rw[hy]
     have hnx:X0r l (i+1)=y.a:=by simp only[X0r,hy]
     have hnu:okR l i=true→okU l (i+1)=true:=fun h=>by unfold okU;rw[hu,h];rfl
     have hno:okR l i=false→tu=false:=fun h=>by rw[←htu];exact okU_false h hlt
     rw[show(⟨y.a,y.p,y.s,y.d,y.f⟩:Hd)=y from rfl] at rf
     rw[hR] at hnu hno
     generalize X1r y=rq at rf hnu hno
     have hle:(decide (X0r l i<y.a)) = !decide (y.a≤X0r l i):=by
      rw[Bool.eq_iff_iff];simp
     rw[hle] at hnu hno
     obtain⟨lq,hlb⟩:∃lq,decide (y.a≤X0r l i)=lq:=⟨_,rfl⟩
     rw[hlb] at hnu hno
     clear hR hle
     cases rq with
     |false=>
      (have W:=ndI k1 (ndI k2 (ndI k7 @wrI));(repeat(any_goals(first|((with_reducible refine Q0p ?_ ?_ ?_);rfl;rfl;intro K hK;((apply Q0k (rf);rfl;rfl;rfl;rfl;exact Tryz.func68);kernel_rfl;rfl;(focus((simp(disch:=omega) only[go_sem,W,hlb]);(try rfl);done));(first|rfl));(simp(disch:=omega) only[go_sem,W,hlb];refine hK _ ?_;clear hK K))|((with_reducible refine Q0d ?_ ?_);rfl;intro K hK;simp(disch:=omega) only[go_sem,W,hlb];((repeat(refine ndI (by first|assumption|omega|rfl) ?_));refine hK _ ?_;clear hK K))|(with_reducible first|(refine Q0c ?_;refine hR _ ?_;clear hR R)|((first|refine Q0e ?_|refine Q0g ?_);intro Ψ hΨ hΨ')|(refine Q0b ?_;intro R hR)|(refine hΨ _ ?_;clear hΨ hΨ' Ψ)|refine Q0h ?_|refine Q0l ?_)|((with_reducible refine hΨ' _ _ ?_ ?_);(focus(simp;done));clear hΨ hΨ' Ψ)|((with_reducible apply Q1i);rfl;rfl;rfl;all_goals(intro hb;first|(cases hb;done)|((try simp only[Bool.not_true,Bool.not_false] at hb);(first|((fail_if_success (with_reducible intro _));simp(disch:=omega) only[go_sem,W,hlb])))))|((with_reducible apply Q0f);rfl;rfl;all_goals(intro hc;first|(cases hc;done)|(try simp only at hc)))))))
      all_goals(refine⟨by simp,⟨_,?_,AV.le_refl _⟩,Q0i (by simp[leH,hget])⟩;simp only[Tryz.results56,resL,ldA,Q0z,go_sem])
      all_goals rw[hno rfl]
      all_goals rfl
     |true=>
      cases lq with
      |true=>
       (have W:=ndI k1 (ndI k2 (ndI k7 @wrI));(repeat(any_goals(first|((with_reducible refine Q0p ?_ ?_ ?_);rfl;rfl;intro K hK;((apply Q0k (rf);rfl;rfl;rfl;rfl;exact Tryz.func68);kernel_rfl;rfl;(focus((simp(disch:=omega) only[go_sem,W,hlb]);(try rfl);done));(first|rfl));(simp(disch:=omega) only[go_sem,W,hlb];refine hK _ ?_;clear hK K))|((with_reducible refine Q0d ?_ ?_);rfl;intro K hK;simp(disch:=omega) only[go_sem,W,hlb];((repeat(refine ndI (by first|assumption|omega|rfl) ?_));refine hK _ ?_;clear hK K))|(with_reducible first|(refine Q0c ?_;refine hR _ ?_;clear hR R)|((first|refine Q0e ?_|refine Q0g ?_);intro Ψ hΨ hΨ')|(refine Q0b ?_;intro R hR)|(refine hΨ _ ?_;clear hΨ hΨ' Ψ)|refine Q0h ?_|refine Q0l ?_)|((with_reducible refine hΨ' _ _ ?_ ?_);(focus(simp;done));clear hΨ hΨ' Ψ)|((with_reducible apply Q1i);rfl;rfl;rfl;all_goals(intro hb;first|(cases hb;done)|((try simp only[Bool.not_true,Bool.not_false] at hb);(first|((with_reducible intro K hK);simp(disch:=omega) only[go_sem,W,hlb];((repeat(refine ndI (by first|assumption|rfl) ?_));refine hK _ ?_;clear hK K))))))|((with_reducible apply Q0f);rfl;rfl;all_goals(intro hc;first|(cases hc;done)|(try simp only at hc)))))))
       all_goals(refine⟨by simp,⟨_,?_,AV.le_refl _⟩,Q0i (by simp[leH,hget])⟩;simp only[Tryz.results56,resL,ldA,Q0z,go_sem])
       all_goals rw[hno rfl]
       all_goals rfl
      |false=>
       (have W:=ndI k1 (ndI k2 (ndI k7 @wrI));(repeat(any_goals(first|((with_reducible refine Q0p ?_ ?_ ?_);rfl;rfl;intro K hK;((apply Q0k (rf);rfl;rfl;rfl;rfl;exact Tryz.func68);kernel_rfl;rfl;(focus((simp(disch:=omega) only[go_sem,W,hlb]);(try rfl);done));(first|rfl));(simp(disch:=omega) only[go_sem,W,hlb];refine hK _ ?_;clear hK K))|((with_reducible refine Q0d ?_ ?_);rfl;intro K hK;simp(disch:=omega) only[go_sem,W,hlb];((repeat(refine ndI (by first|assumption|omega|rfl) ?_));refine hK _ ?_;clear hK K))|(with_reducible first|(refine Q0c ?_;refine hR _ ?_;clear hR R)|((first|refine Q0e ?_|refine Q0g ?_);intro Ψ hΨ hΨ')|(refine Q0b ?_;intro R hR)|(refine hΨ _ ?_;clear hΨ hΨ' Ψ)|refine Q0h ?_)|((with_reducible refine hΨ' _ _ ?_ ?_);(focus(simp;done));clear hΨ hΨ' Ψ)|((with_reducible apply Q1i);rfl;rfl;rfl;all_goals(intro hb;first|(cases hb;done)|((try simp only[Bool.not_true,Bool.not_false] at hb);(first|((with_reducible intro K hK);simp(disch:=omega) only[go_sem,W,hlb];((repeat(refine ndI (by first|assumption|rfl) ?_));refine hK _ ?_;clear hK K))))))|((with_reducible apply Q0f);rfl;rfl;all_goals(intro hc;first|(cases hc;done)|(try simp only at hc)))))))
       exact hΨ _ ⟨i+1,hlt,hnu rfl⟩ (by simp only;omega) (St.le_of (by simp[leT,hnx]) (by simp[leH,hget]))
   · have k1:(decide ((i:Int)<(l.length:Int)))=false:=by simpa using hge
     have htu':tu=true:=by rw[←htu,←hu];congr 1;omega
     (repeat(any_goals(first|((with_reducible refine Q0p ?_ ?_ ?_);rfl;rfl;intro K hK;((apply Q0k (al);rfl;rfl;rfl;rfl;exact Tryz.func64);kernel_rfl;rfl;(focus((simp only[go_sem,k1]);(try rfl);done));(first|rfl));(simp only[go_sem,k1];refine hK _ ?_;clear hK K))|((with_reducible refine Q0d ?_ ?_);rfl;intro K hK;simp only[go_sem,k1];((repeat(refine ndI (by first|assumption) ?_));refine hK _ ?_;clear hK K))|(with_reducible first|(refine Q0c ?_;refine hR _ ?_;clear hR R)|((first|refine Q0e ?_);intro Ψ hΨ hΨ')|(refine Q0b ?_;intro R hR)|(refine hΨ _ ?_;clear hΨ hΨ' Ψ)|refine Q0h ?_|refine Q0l ?_|refine Q0v ?_)|((with_reducible refine hΨ' _ _ ?_ ?_);(focus(simp;done));clear hΨ hΨ' Ψ)|((with_reducible apply Q0f);rfl;rfl;all_goals(intro hc;first|(cases hc;done)|(try simp only at hc))))))
     all_goals(refine⟨by simp,⟨_,?_,AV.le_refl _⟩,Q0i (by simp[leH,hget])⟩;simp only[Tryz.results56,resL,ldA,Q0z,go_sem])
     all_goals rw[htu']
     all_goals simp_all
 · have e0:(decide ((l.length:Int)>24))=true:=by simp;omega
   have hres:okL l=false:=by unfold okL;rw[decide_eq_false h24];rfl
   rw[hres]
   (refine Q1c Tryz.func56 rfl (by rfl) ?_;simp only[Tryz.ntmps56,List.length_cons,List.length_nil,Nat.reduceAdd,Nat.reduceSub,List.replicate,List.cons_append,List.nil_append])
   (repeat(any_goals(first|((with_reducible refine Q0d ?_ ?_);rfl;intro K hK;simp only[go_sem,e0];((repeat(refine ndI (by first|assumption) ?_));refine hK _ ?_;clear hK K))|(with_reducible first|(refine Q0c ?_;refine hR _ ?_;clear hR R)|((first|refine Q0e ?_);intro Ψ hΨ hΨ')|(refine Q0b ?_;intro R hR)|(refine hΨ _ ?_;clear hΨ hΨ' Ψ)|refine Q0l ?_)|((with_reducible refine hΨ' _ _ ?_ ?_);(focus(simp;done));clear hΨ hΨ' Ψ)|((with_reducible apply Q0f);rfl;rfl;all_goals(intro hc;first|(cases hc;done)|(try simp only at hc))))))
   all_goals(refine⟨by simp,⟨_,?_,AV.le_refl _⟩,Q0i (by simp[leH,hget])⟩;simp only[Tryz.results56,resL,ldA,Q0z,go_sem])
   all_goals rfl
end lg
namespace nz
open Go.RowKit
open Nat (reduceBEq)
abbrev vi(k:IntKind)(n:Int):AV:=.c (.v (.int k n))
abbrev vb(b:Bool):AV:=.c (.v (.bool b))
abbrev w4(a b c d:Int):AV:=.agg [vi .u64 a,vi .u64 b,vi .u64 c,vi .u64 d]
set_option maxRecDepth 20000
theorem Q7w(a b c d e:Int):Fn Tryz.prog 85 [.agg [vi .u64 a,vi .u64 b,vi .u64 c,vi .u64 d,vi .u64 e]] [] (vb ((a != 0)&&(e==0))) []:=by
 (refine Q1c Tryz.func85 rfl (by rfl) ?_;simp only[Tryz.ntmps85,List.length_cons,List.length_nil,Nat.reduceAdd,Nat.reduceSub,List.replicate,List.cons_append,List.nil_append])
 (repeat(any_goals(first|((with_reducible refine Q0d ?_ ?_);rfl;intro K hK;simp only[go_sem];((repeat(refine ndI (by first|assumption) ?_));refine hK _ ?_;clear hK K))|(with_reducible first|(refine Q0c ?_;refine hR _ ?_;clear hR R)|((first|refine Q0e ?_);intro Ψ hΨ hΨ')|(refine Q0b ?_;intro R hR)|(refine hΨ _ ?_;clear hΨ hΨ' Ψ)|refine Q0l ?_)|((with_reducible apply Q1i);rfl;rfl;rfl;all_goals(intro hb;first|(cases hb;done)|((try simp only[Bool.not_true,Bool.not_false] at hb);(first|((with_reducible intro K hK);simp only[go_sem];((repeat(refine ndI (by first|assumption|omega) ?_));refine hK _ ?_;clear hK K))|((fail_if_success (with_reducible intro _));simp only[go_sem]))))))))
 all_goals(refine⟨by simp,⟨_,?_,AV.le_refl _⟩,Q0i (by simp[leH,hget])⟩;simp only[Tryz.results85,resL,ldA,Q0z,go_sem])
 all_goals simp[*]
theorem Q6t(a:Int):Fn Tryz.prog 99 [vi .u64 a] [] (vb false) []:=by
 (refine Q1c Tryz.func99 rfl (by rfl) ?_;simp only[Tryz.ntmps99,List.length_cons,List.length_nil,Nat.reduceAdd,Nat.reduceSub,List.replicate,List.cons_append,List.nil_append])
 (repeat(any_goals(first|((with_reducible refine Q0d ?_ ?_);rfl;intro K hK;simp only[go_sem];((repeat(refine ndI (by first|assumption) ?_));refine hK _ ?_;clear hK K))|(with_reducible first|(refine Q0c ?_;refine hR _ ?_;clear hR R)|((first|refine Q0e ?_);intro Ψ hΨ hΨ')|(refine Q0b ?_;intro R hR)|(refine hΨ _ ?_;clear hΨ hΨ' Ψ)|refine Q0l ?_))))
 all_goals(refine⟨by simp,⟨_,?_,AV.le_refl _⟩,Q0i (by simp[leH,hget])⟩;simp only[Tryz.results99,resL,ldA,Q0z,go_sem])
 all_goals simp
def cmpI(a b:Int):Int:=if a<b then -1 else if b<a then 1 else 0
theorem Q7k(a b:Int):Fn Tryz.prog 101 [vi .u64 a,vi .u64 b] [] (vi .i64 (cmpI a b)) []:=by
 (refine Q1c Tryz.func101 rfl (by rfl) ?_;simp only[Tryz.ntmps101,List.length_cons,List.length_nil,Nat.reduceAdd,Nat.reduceSub,List.replicate,List.cons_append,List.nil_append])
 (repeat(any_goals(first|((with_reducible refine Q0p ?_ ?_ ?_);rfl;rfl;intro K hK;((apply Q0k (Q6t _);rfl;rfl;rfl;rfl;exact Tryz.func99);kernel_rfl;rfl;(focus((simp only[go_sem]);(try rfl);done));(first|rfl));(simp only[go_sem];refine hK _ ?_;clear hK K))|((with_reducible refine Q0d ?_ ?_);rfl;intro K hK;simp only[go_sem];((repeat(refine ndI (by first|assumption) ?_));refine hK _ ?_;clear hK K))|(with_reducible first|(refine Q0c ?_;refine hR _ ?_;clear hR R)|((first|refine Q0e ?_);intro Ψ hΨ hΨ')|(refine Q0b ?_;intro R hR)|(refine hΨ _ ?_;clear hΨ hΨ' Ψ)|refine Q0h ?_|refine Q0l ?_)|((with_reducible refine hΨ' _ _ ?_ ?_);(focus(simp;done));clear hΨ hΨ' Ψ)|((with_reducible apply Q0f);rfl;rfl;all_goals(intro hc;first|(cases hc;done)|(try simp only at hc))))))
 all_goals(refine⟨by simp,⟨_,?_,AV.le_refl _⟩,Q0i (by simp[leH,hget])⟩;simp only[Tryz.results101,resL,ldA,Q0z,go_sem])
 all_goals simp_all [cmpI]
 all_goals omega
end nz
namespace nz
open Go.RowKit
set_option maxRecDepth 20000
theorem wrI{x:Int}(h1:-9223372036854775808≤x)(h2:x≤9223372036854775807):IntKind.i64.wrap x=x:=by
 unfold IntKind.wrap;simp[IntKind.bits,IntKind.signed];omega
theorem wrU{x:Int}(h1:0≤x)(h2:x≤18446744073709551615):IntKind.u64.wrap x=x:=by
 unfold IntKind.wrap;simp[IntKind.bits,IntKind.signed];omega
end nz
namespace nz
open Go.RowKit
set_option maxRecDepth 20000
set_option maxHeartbeats 1000000
theorem X5l:IntKind.u64.bits=64:=rfl
end nz
namespace nz
open Go.RowKit
set_option maxRecDepth 20000
set_option maxHeartbeats 1000000
abbrev U(a:Int):Prop:=0≤a∧a≤18446744073709551615
end nz
namespace nz
open Go.RowKit
open Nat (reduceBEq)
set_option maxRecDepth 20000
set_option maxHeartbeats 1000000
def lbit(x:Int)(k:Nat):Int:=x/2 ^ k%2
theorem Q5a{x:Int}(h:U x)(k:Nat)(hk:k<64):IntKind.i64.wrap (IntKind.u64.wrap ((BitVec.ofInt IntKind.u64.bits (x.fdiv (2 ^ (min k IntKind.u64.bits))) &&& BitVec.ofInt IntKind.u64.bits 1).toNat:Nat))=lbit x k:=by
 obtain⟨h1,h2⟩:=h
 obtain⟨N,rfl⟩:=Int.eq_ofNat_of_zero_le h1
 have hm:min k IntKind.u64.bits=k:=Nat.min_eq_left (show k≤64 by omega)
 have hd:((N:Int)).fdiv (2 ^ k)=((N/2 ^ k:Nat):Int):=by
  rw[Int.fdiv_eq_ediv_of_nonneg _ (Int.le_of_lt (Int.pow_pos (by decide)))]
  simp
 rw[hm,hd]
 have hle:N/2 ^ k≤N:=Nat.div_le_self _ _
 generalize hq:N/2 ^ k=q at hle
 have e:(BitVec.ofInt IntKind.u64.bits (q:Int) &&& BitVec.ofInt IntKind.u64.bits 1).toNat=q%2:=by
  show(BitVec.ofInt 64 (q:Int) &&& BitVec.ofInt 64 1).toNat=q%2
  rw[BitVec.toNat_and]
  have e1:(BitVec.ofInt 64 (q:Int)).toNat=q:=by rw[BitVec.toNat_ofInt];omega
  have e2:(BitVec.ofInt 64 1).toNat=1:=by decide
  rw[e1,e2,Nat.and_one_is_mod]
 rw[e,wrU (by omega) (by omega),wrI (by omega) (by omega)]
 unfold lbit
 have:(N:Int)/2 ^ k=(q:Int):=by rw[←hq];simp
 rw[this];omega
def bitW(a b c d:Int)(n:Nat):Int:=if n<64 then lbit a n else if n<128 then lbit b (n-64) else if n<192 then lbit c (n-128) else lbit d (n-192)
theorem bit_fn(a b c d:Int)(u1:U a)(u2:U b)(u3:U c)(u4:U d)(n:Nat)(hn:n≤255):Fn Tryz.prog 63 [w4 a b c d,vi .i64 n] [] (vi .i64 (bitW a b c d n)) []:=by
 have e1:(decide ((n:Int)<0))=false:=by simp
 have e2:(decide ((n:Int)>255))=false:=by simp;omega
 have e3:(n:Int).tdiv 64=((n/64:Nat):Int):=rfl
 have e4:(n:Int).tmod 64=((n%64:Nat):Int):=rfl
 have hq:n/64=0∨n/64=1∨n/64=2∨n/64=3:=by omega
 rcases hq with hq|hq|hq|hq
 · (refine Q1c Tryz.func63 rfl (by rfl) ?_;simp only[Tryz.ntmps63,List.length_cons,List.length_nil,Nat.reduceAdd,Nat.reduceSub,List.replicate,List.cons_append,List.nil_append])
   (have W:=ndI e1 (ndI e2 (ndI e3 (ndI e4 @wrI)));(repeat(any_goals(first|((with_reducible refine Q0d ?_ ?_);rfl;intro K hK;simp(disch:=omega) only[go_sem,W,hq,Int.cast_ofNat_Int,Int.reduceEq,Int.toNat_natCast,Int.natCast_nonneg];((repeat(refine ndI (by first|assumption|rfl) ?_));refine hK _ ?_;clear hK K))|(with_reducible first|(refine Q0c ?_;refine hR _ ?_;clear hR R)|((first|refine Q0e ?_);intro Ψ hΨ hΨ')|(refine Q0b ?_;intro R hR)|(refine hΨ _ ?_;clear hΨ hΨ' Ψ)|refine Q0h ?_|refine Q0l ?_)|((with_reducible apply Q1i);rfl;rfl;rfl;all_goals(intro hb;first|(cases hb;done)|((try simp only[Bool.not_true,Bool.not_false] at hb);(first|((with_reducible intro K hK);simp(disch:=omega) only[go_sem,W,hq,Int.cast_ofNat_Int,Int.reduceEq,Int.toNat_natCast,Int.natCast_nonneg];((repeat(refine ndI (by first|assumption|rfl) ?_));refine hK _ ?_;clear hK K))))))|((with_reducible apply Q0f);rfl;rfl;all_goals(intro hc;first|(cases hc;done)|(try simp only at hc)))))))
   all_goals(refine⟨by simp,⟨_,?_,AV.le_refl _⟩,Q0i (by simp[leH,hget])⟩;simp only[Tryz.results63,resL,ldA,Q0z,go_sem])
   show vi .i64 (IntKind.i64.wrap (IntKind.u64.wrap ((BitVec.ofInt IntKind.u64.bits (a.fdiv (2 ^ (min (n%64) IntKind.u64.bits))) &&& BitVec.ofInt IntKind.u64.bits 1).toNat:Nat)))=_
   rw[Q5a u1 _ (Nat.mod_lt _ (by decide))]
   simp only[bitW,if_pos (show n<64 by omega),Nat.mod_eq_of_lt (show n<64 by omega)]
 · (refine Q1c Tryz.func63 rfl (by rfl) ?_;simp only[Tryz.ntmps63,List.length_cons,List.length_nil,Nat.reduceAdd,Nat.reduceSub,List.replicate,List.cons_append,List.nil_append])
   (have W:=ndI e1 (ndI e2 (ndI e3 (ndI e4 @wrI)));(repeat(any_goals(first|((with_reducible refine Q0d ?_ ?_);rfl;intro K hK;simp(disch:=omega) only[go_sem,W,hq,Int.cast_ofNat_Int,Int.natCast_one,Int.reduceEq,Int.toNat_natCast,Int.natCast_nonneg];((repeat(refine ndI (by first|assumption|rfl) ?_));refine hK _ ?_;clear hK K))|(with_reducible first|(refine Q0c ?_;refine hR _ ?_;clear hR R)|((first|refine Q0e ?_);intro Ψ hΨ hΨ')|(refine Q0b ?_;intro R hR)|(refine hΨ _ ?_;clear hΨ hΨ' Ψ)|refine Q0h ?_|refine Q0l ?_)|((with_reducible apply Q1i);rfl;rfl;rfl;all_goals(intro hb;first|(cases hb;done)|((try simp only[Bool.not_true,Bool.not_false] at hb);(first|((with_reducible intro K hK);simp(disch:=omega) only[go_sem,W,hq,Int.cast_ofNat_Int,Int.natCast_one,Int.reduceEq,Int.toNat_natCast,Int.natCast_nonneg];((repeat(refine ndI (by first|assumption|rfl) ?_));refine hK _ ?_;clear hK K))))))|((with_reducible apply Q0f);rfl;rfl;all_goals(intro hc;first|(cases hc;done)|(try simp only at hc)))))))
   all_goals(refine⟨by simp,⟨_,?_,AV.le_refl _⟩,Q0i (by simp[leH,hget])⟩;simp only[Tryz.results63,resL,ldA,Q0z,go_sem])
   show vi .i64 (IntKind.i64.wrap (IntKind.u64.wrap ((BitVec.ofInt IntKind.u64.bits (b.fdiv (2 ^ (min (n%64) IntKind.u64.bits))) &&& BitVec.ofInt IntKind.u64.bits 1).toNat:Nat)))=_
   rw[Q5a u2 _ (Nat.mod_lt _ (by decide)),show n%64=n-64 by omega]
   simp only[bitW,if_neg (show ¬n<64 by omega),if_pos (show n<128 by omega)]
 · (refine Q1c Tryz.func63 rfl (by rfl) ?_;simp only[Tryz.ntmps63,List.length_cons,List.length_nil,Nat.reduceAdd,Nat.reduceSub,List.replicate,List.cons_append,List.nil_append])
   (have W:=ndI e1 (ndI e2 (ndI e3 (ndI e4 @wrI)));(repeat(any_goals(first|((with_reducible refine Q0d ?_ ?_);rfl;intro K hK;simp(disch:=omega) only[go_sem,W,hq,Int.cast_ofNat_Int,Int.natCast_one,Int.reduceEq,Int.toNat_natCast,Int.natCast_nonneg];((repeat(refine ndI (by first|assumption|rfl) ?_));refine hK _ ?_;clear hK K))|(with_reducible first|(refine Q0c ?_;refine hR _ ?_;clear hR R)|((first|refine Q0e ?_);intro Ψ hΨ hΨ')|(refine Q0b ?_;intro R hR)|(refine hΨ _ ?_;clear hΨ hΨ' Ψ)|refine Q0h ?_|refine Q0l ?_)|((with_reducible apply Q1i);rfl;rfl;rfl;all_goals(intro hb;first|(cases hb;done)|((try simp only[Bool.not_true,Bool.not_false] at hb);(first|((with_reducible intro K hK);simp(disch:=omega) only[go_sem,W,hq,Int.cast_ofNat_Int,Int.natCast_one,Int.reduceEq,Int.toNat_natCast,Int.natCast_nonneg];((repeat(refine ndI (by first|assumption|rfl) ?_));refine hK _ ?_;clear hK K))))))|((with_reducible apply Q0f);rfl;rfl;all_goals(intro hc;first|(cases hc;done)|(try simp only at hc)))))))
   all_goals(refine⟨by simp,⟨_,?_,AV.le_refl _⟩,Q0i (by simp[leH,hget])⟩;simp only[Tryz.results63,resL,ldA,Q0z,go_sem])
   show vi .i64 (IntKind.i64.wrap (IntKind.u64.wrap ((BitVec.ofInt IntKind.u64.bits (c.fdiv (2 ^ (min (n%64) IntKind.u64.bits))) &&& BitVec.ofInt IntKind.u64.bits 1).toNat:Nat)))=_
   rw[Q5a u3 _ (Nat.mod_lt _ (by decide)),show n%64=n-128 by omega]
   simp only[bitW,if_neg (show ¬n<64 by omega),if_neg (show ¬n<128 by omega),if_pos (show n<192 by omega)]
 · (refine Q1c Tryz.func63 rfl (by rfl) ?_;simp only[Tryz.ntmps63,List.length_cons,List.length_nil,Nat.reduceAdd,Nat.reduceSub,List.replicate,List.cons_append,List.nil_append])
   (have W:=ndI e1 (ndI e2 (ndI e3 (ndI e4 @wrI)));(repeat(any_goals(first|((with_reducible refine Q0d ?_ ?_);rfl;intro K hK;simp(disch:=omega) only[go_sem,W,hq,Int.cast_ofNat_Int,Int.natCast_one,Int.reduceEq,Int.toNat_natCast,Int.natCast_nonneg];((repeat(refine ndI (by first|assumption|rfl) ?_));refine hK _ ?_;clear hK K))|(with_reducible first|(refine Q0c ?_;refine hR _ ?_;clear hR R)|((first|refine Q0e ?_);intro Ψ hΨ hΨ')|(refine Q0b ?_;intro R hR)|(refine hΨ _ ?_;clear hΨ hΨ' Ψ)|refine Q0h ?_|refine Q0l ?_)|((with_reducible apply Q1i);rfl;rfl;rfl;all_goals(intro hb;first|(cases hb;done)|((try simp only[Bool.not_true,Bool.not_false] at hb);(first|((with_reducible intro K hK);simp(disch:=omega) only[go_sem,W,hq,Int.cast_ofNat_Int,Int.natCast_one,Int.reduceEq,Int.toNat_natCast,Int.natCast_nonneg];((repeat(refine ndI (by first|assumption|rfl) ?_));refine hK _ ?_;clear hK K))))))|((with_reducible apply Q0f);rfl;rfl;all_goals(intro hc;first|(cases hc;done)|(try simp only at hc)))))))
   all_goals(refine⟨by simp,⟨_,?_,AV.le_refl _⟩,Q0i (by simp[leH,hget])⟩;simp only[Tryz.results63,resL,ldA,Q0z,go_sem])
   show vi .i64 (IntKind.i64.wrap (IntKind.u64.wrap ((BitVec.ofInt IntKind.u64.bits (d.fdiv (2 ^ (min (n%64) IntKind.u64.bits))) &&& BitVec.ofInt IntKind.u64.bits 1).toNat:Nat)))=_
   rw[Q5a u4 _ (Nat.mod_lt _ (by decide)),show n%64=n-192 by omega]
   simp only[bitW,if_neg (show ¬n<64 by omega),if_neg (show ¬n<128 by omega),if_neg (show ¬n<192 by omega)]
def VW(a b c d:Int):Nat:=a.toNat+18446744073709551616*(b.toNat+18446744073709551616*(c.toNat+18446744073709551616*d.toNat))
theorem Q9c(A R k:Nat)(hk:k<64):(A+18446744073709551616*R)/2 ^ k%2=A/2 ^ k%2:=by
 have e:(18446744073709551616:Nat)=2 ^ k*(2*2 ^ (63-k)):=by
  rw[←Nat.pow_succ',←Nat.pow_add,show k+(63-k).succ=64 by omega]
 rw[e,Nat.mul_assoc,Nat.add_mul_div_left _ _ (Nat.pos_of_ne_zero (by simp)),Nat.mul_assoc 2,Nat.add_mul_mod_self_left]
theorem Q9d(A R k:Nat)(hA:A<18446744073709551616)(hk:64≤k):(A+18446744073709551616*R)/2 ^ k=R/2 ^ (k-64):=by
 have e:(2:Nat) ^ k=18446744073709551616*2 ^ (k-64):=by
  rw[show(18446744073709551616:Nat)=2 ^ 64 by decide,←Nat.pow_add,show 64+(k-64)=k by omega]
 rw[e,←Nat.div_div_eq_div_mul,Nat.add_mul_div_left _ _ (by decide),Nat.div_eq_of_lt hA,Nat.zero_add]
theorem Q4b{x:Int}(h:U x)(k:Nat):lbit x k=((x.toNat/2 ^ k%2:Nat):Int):=by
 obtain⟨N,rfl⟩:=Int.eq_ofNat_of_zero_le h.1
 unfold lbit
 have:(N:Int)/2 ^ k=((N/2 ^ k:Nat):Int):=by simp
 rw[this];simp
theorem X5m{a b c d:Int}(u1:U a)(u2:U b)(u3:U c)(u4:U d)(n:Nat)(hn:n≤255):bitW a b c d n=((VW a b c d/2 ^ n%2:Nat):Int):=by
 unfold bitW VW
 have h1:a.toNat<18446744073709551616:=by have:=u1.2;omega
 have h2:b.toNat<18446744073709551616:=by have:=u2.2;omega
 have h3:c.toNat<18446744073709551616:=by have:=u3.2;omega
 split
 · rw[Q4b u1,Q9c _ _ _ (by omega)]
 · rw[Q9d _ _ _ h1 (by omega)]
   split
   · rw[Q4b u2,Q9c _ _ _ (by omega)]
   · rw[Q9d _ _ _ h2 (by omega)]
     split
     · rw[Q4b u3,show n-64-64=n-128 by omega,Q9c _ _ _ (by omega)]
     · rw[show n-64-64=n-128 by omega,Q9d _ _ _ h3 (by omega),Q4b u4,show n-128-64=n-192 by omega]
end nz
namespace nz
open Go.RowKit
open Nat (reduceBEq)
set_option maxRecDepth 20000
set_option maxHeartbeats 1000000
theorem wcmp_fn(a b c d e f g h:Int):Fn Tryz.prog 36 [w4 a b c d,w4 e f g h] [] (vi .i64 (if d<h then -1 else if h<d then 1 else if c<g then -1 else if g<c then 1 else if b<f then -1 else if f<b then 1 else if a<e then -1 else if e<a then 1 else 0)) []:=by
 (refine Q1c Tryz.func36 rfl (by rfl) ?_;simp only[Tryz.ntmps36,List.length_cons,List.length_nil,Nat.reduceAdd,Nat.reduceSub,List.replicate,List.cons_append,List.nil_append])
 (repeat(any_goals(first|((with_reducible refine Q0d ?_ ?_);rfl;intro K hK;simp(disch:=omega) only[go_sem,wrI,Int.reduceSub,Int.reduceNeg,Int.reduceGE,decide_true,decide_false,ge_iff_le,gt_iff_lt];((repeat(refine ndI (by first|assumption|rfl) ?_));refine hK _ ?_;clear hK K))|(with_reducible first|(refine Q0c ?_;refine hR _ ?_;clear hR R)|((first|refine Q0e ?_|refine Q0g ?_);intro Ψ hΨ hΨ')|(refine Q0b ?_;intro R hR)|(refine hΨ _ ?_;clear hΨ hΨ' Ψ)|refine Q0h ?_|refine Q0l ?_|refine Q0v ?_)|((with_reducible refine hΨ' _ _ ?_ ?_);(focus(simp;done));clear hΨ hΨ' Ψ)|((with_reducible apply Q0f);rfl;rfl;all_goals(intro hc;first|(cases hc;done)|(try simp only at hc)))|(with_reducible refine Q4h 5 ?_)|((with_reducible refine Q5c ?_);intro Ψ hΨ hΨ')|((with_reducible refine Q0w ?_ ?_);kernel_rfl;(with_reducible refine hR _ ?_);clear hR R)|(((with_reducible apply Q0u);rfl;rfl;(simp(disch:=omega) only[rdE,rdOf,go_sem,wrI,Int.reduceSub,Int.reduceNeg,Int.reduceGE,decide_true,decide_false,ge_iff_le,gt_iff_lt];rfl);(intro τ hA hQ hN;((try simp only[Q1g,Op.operands,Call.operands,go_sem,wrI,Int.reduceSub,Int.reduceNeg,Int.reduceGE,decide_true,decide_false,ge_iff_le,gt_iff_lt,go_sem,List.mem_cons,List.not_mem_nil,forall_eq_or_imp,forall_eq,List.append_toArray,Option.toArray] at hA);(try simp only[go_sem,wrI,Int.reduceSub,Int.reduceNeg,Int.reduceGE,decide_true,decide_false,ge_iff_le,gt_iff_lt,List.mem_cons,List.not_mem_nil,forall_eq_or_imp,forall_eq] at hQ hN);(first|(revert hA;intro hA));(first|(revert hQ;intro hQ));(first|(revert hN;intro hN));simp(disch:=omega) only[go_sem,wrI,Int.reduceSub,Int.reduceNeg,Int.reduceGE,decide_true,decide_false,ge_iff_le,gt_iff_lt,go_sem,hA,hQ,hN];(repeat(refine ndI (by first|assumption|omega|rfl) ?_));(first|apply Q1d))));(simp(disch:=omega) only[St.eff,setO,Q0x,go_sem,wrI,Int.reduceSub,Int.reduceNeg,Int.reduceGE,decide_true,decide_false,ge_iff_le,gt_iff_lt]))|((with_reducible refine Q0r ?_ ?_ ?_ ?_);kernel_rfl;kernel_rfl;(first|kernel_rfl);intro R hR))))
 all_goals(refine⟨by simp,⟨_,?_,AV.le_refl _⟩,Q0i (by simp[leH,hget])⟩;simp only[Tryz.results36,resL,ldA,Q0z,go_sem])
 all_goals simp_all
 all_goals(repeat' split)<;>first|rfl|omega
end nz
namespace nz
open Go.RowKit
open Nat (reduceBEq)
set_option maxRecDepth 20000
set_option maxHeartbeats 1000000
theorem cmpor_fn(x y:Int):Fn Tryz.prog 100 [.c (.sl false 1 2 [.v (.int .i64 x),.v (.int .i64 y)])] [] (vi .i64 (if x=0 then y else x)) []:=by
 (refine Q1c Tryz.func100 rfl (by rfl) ?_;simp only[Tryz.ntmps100,List.length_cons,List.length_nil,Nat.reduceAdd,Nat.reduceSub,List.replicate,List.cons_append,List.nil_append])
 (repeat(any_goals(first|((with_reducible refine Q0d ?_ ?_);rfl;intro K hK;simp(disch:=omega) only[go_sem,wrI,Int.reduceAdd];((repeat(refine ndI (by first|assumption|omega|rfl) ?_));refine hK _ ?_;clear hK K))|(with_reducible first|(refine Q0c ?_;refine hR _ ?_;clear hR R)|((first|refine Q0e ?_|refine Q0g ?_);intro Ψ hΨ hΨ')|(refine Q0b ?_;intro R hR)|(refine hΨ _ ?_;clear hΨ hΨ' Ψ)|refine Q0h ?_|refine Q0l ?_|refine Q0v ?_)|((with_reducible refine hΨ' _ _ ?_ ?_);(focus(simp;done));clear hΨ hΨ' Ψ)|((with_reducible apply Q0f);rfl;rfl;all_goals(intro hc;first|(cases hc;done)|(try simp only at hc)))|(with_reducible refine Q4h 3 ?_)|((with_reducible refine Q5c ?_);intro Ψ hΨ hΨ'))))
 all_goals(refine⟨by simp,⟨_,?_,AV.le_refl _⟩,Q0i (by simp[leH,hget])⟩;simp only[Tryz.results100,resL,ldA,Q0z,go_sem])
 all_goals simp_all
def cmpW(a b c d e f g h:Int):Int:=if d<h then -1 else if h<d then 1 else if c<g then -1 else if g<c then 1 else if b<f then -1 else if f<b then 1 else if a<e then -1 else if e<a then 1 else 0
abbrev n6(a b c d e x:Int):AV:=.agg [vi .u64 a,vi .u64 b,vi .u64 c,vi .u64 d,vi .u64 e,vi .u64 x]
abbrev k5(a b c d e:Int):AV:=.agg [vi .u64 a,vi .u64 b,vi .u64 c,vi .u64 d,vi .u64 e]
theorem X3t(a b c d e x a' b' c' d' e':Int):Fn Tryz.prog 86 [n6 a b c d e x,k5 a' b' c' d' e'] [] (vi .i64 (if cmpI a a'=0 then cmpW b c d e b' c' d' e' else cmpI a a')) []:=by
 (refine Q1c Tryz.func86 rfl (by rfl) ?_;simp only[Tryz.ntmps86,List.length_cons,List.length_nil,Nat.reduceAdd,Nat.reduceSub,List.replicate,List.cons_append,List.nil_append])
 (repeat(any_goals(first|((with_reducible refine Q0d ?_ ?_);rfl;intro K hK;simp only[go_sem];((repeat(refine ndI (by first|assumption) ?_));refine hK _ ?_;clear hK K))|(with_reducible first|(refine Q0c ?_;refine hR _ ?_;clear hR R)|((first|refine Q0e ?_);intro Ψ hΨ hΨ')|(refine Q0b ?_;intro R hR)|(refine hΨ _ ?_;clear hΨ hΨ' Ψ)|refine Q0l ?_)|((with_reducible refine Q0w ?_ ?_);kernel_rfl;(with_reducible refine hR _ ?_);clear hR R)|((first|((with_reducible apply Q1m);rfl;rfl;(first|((first|(apply Q0s (Q7k _ _);rfl;rfl;rfl;rfl;exact Tryz.func101)|(apply Q0s (wcmp_fn _ _ _ _ _ _ _ _);rfl;rfl;rfl;rfl;exact Tryz.func36));kernel_rfl;rfl;(focus((simp only[go_sem]);(try rfl);done));(first|rfl))|((apply X1y (cmpor_fn _ _);rfl;rfl;rfl;rfl;exact Tryz.func100);kernel_rfl;rfl;(focus((simp only[AV.viewL,AV.view,Q4a,unC,Option.map_some,go_sem]);(try rfl)));rfl;(simp only[AV.rowsL,AV.rows,go_sem];rfl))))|((with_reducible apply Q0u);rfl;rfl;(simp only[rdE,rdOf,go_sem];rfl);(intro τ hA hQ hN;((try simp only[Q1g,Op.operands,Call.operands,go_sem,List.mem_cons,List.not_mem_nil,forall_eq_or_imp,forall_eq,List.append_toArray,Option.toArray] at hA);(try simp only[go_sem,List.mem_cons,List.not_mem_nil,forall_eq_or_imp,forall_eq] at hQ hN);(first|(revert hA;intro hA));(first|(revert hQ;intro hQ));(first|(revert hN;intro hN));simp only[go_sem,hA,hQ,hN];(repeat(refine ndI (by first|assumption) ?_));(first|apply Q1d))))|((first|((with_reducible apply X0w);rfl;rfl;rfl));(intro τ hA hQ hN;((try simp only[Q1g,Op.operands,Call.operands,go_sem,List.mem_cons,List.not_mem_nil,forall_eq_or_imp,forall_eq,List.append_toArray,Option.toArray] at hA);(try simp only[go_sem,List.mem_cons,List.not_mem_nil,forall_eq_or_imp,forall_eq] at hQ);(first|(revert hA;intro hA));(first|(revert hQ;intro hQ));simp only[go_sem,hA,hQ,hN];(repeat(refine ndI (by first|assumption) ?_));exact X5g _ _ _ _))));(simp only[St.eff,setO,Q0x,go_sem]))|((with_reducible refine Q0r ?_ ?_ ?_ ?_);kernel_rfl;kernel_rfl;(first|kernel_rfl);intro R hR))))
 all_goals(refine⟨by simp,⟨_,?_,AV.le_refl _⟩,Q0i (by simp[leH,hget])⟩;simp only[Tryz.results86,resL,ldA,Q0z,go_sem])
 all_goals simp_all [cmpW]
end nz
namespace nz
open Go.RowKit
open Nat (reduceBEq)
set_option maxRecDepth 20000
set_option maxHeartbeats 1000000
structure N6 where
 a:Int
 b:Int
 c:Int
 d:Int
 e:Int
 x:Int
def N6.pv(n:N6):List PV:=[.v (.int .u64 n.a),.v (.int .u64 n.b),.v (.int .u64 n.c),.v (.int .u64 n.d),.v (.int .u64 n.e),.v (.int .u64 n.x)]
theorem pv_len(n:N6):n.pv.length=6:=rfl
abbrev nsl(ex:Bool)(l:List N6):AV:=.c (.sl ex 6 l.length (l.flatMap N6.pv))
theorem nsl_at{l:List N6}{i:Nat}{y:N6}(h:l[i]? = some y):((l.flatMap N6.pv).drop (i*6)).take 6=[.v (.int .u64 y.a),.v (.int .u64 y.b),.v (.int .u64 y.c),.v (.int .u64 y.d),.v (.int .u64 y.e),.v (.int .u64 y.x)]:=Q4m pv_len h
def cN(z y:N6):Int:=if cmpI z.a y.a=0 then cmpW z.b z.c z.d z.e y.b y.c y.d y.e else cmpI z.a y.a
def okS(l:List N6)(i:Nat):Bool:=match l[i]? with
 |some y=>(y.a != 0)&&(y.e==0)&&decide (y.x>0)&&(i==0||match l[i-1]? with|some z=>decide (cN z y<0)|none=>false)
 |none=>false
def okTo(l:List N6):Nat→Bool
 |0=>decide ((l.length:Int)≤48)
 |i+1=>okTo l i&&okS l i
theorem check_fn(ex:Bool)(l:List N6)(hl:l.length≤4611686018427387904):Fn Tryz.prog 66 [nsl ex l] [] (vi .i64 (if okTo l l.length then 0 else 180)) []:=by
 (refine Q1c Tryz.func66 rfl (by rfl) ?_;simp only[Tryz.ntmps66,List.length_cons,List.length_nil,Nat.reduceAdd,Nat.reduceSub,List.replicate,List.cons_append,List.nil_append])
 (repeat(any_goals(first|((with_reducible refine Q0d ?_ ?_);rfl;intro K hK;simp only[go_sem];((repeat(refine ndI (by first|assumption) ?_));refine hK _ ?_;clear hK K))|(with_reducible first|(refine Q0c ?_;refine hR _ ?_;clear hR R)|((first|refine Q0e ?_|refine Q0g ?_);intro Ψ hΨ hΨ')|(refine Q0b ?_;intro R hR)|(refine hΨ _ ?_;clear hΨ hΨ' Ψ)))))
 refine Q3f l.length (fun i=>⟨[nsl ex l,.any,.any,vb (okTo l i),.any,.any,.any,.any,.any,.any,nsl ex l,vi .i64 l.length,vi .i64 i,.any,.any,.any,.any,.any,.any,.any,.any,.any,.any,.any,.any,.any,.any,.any,.any,.any,.any,.any,.any,.any,.any,.any,.any,.any,.any,.any,.any,.any,.any,.any,.any,.any,.any,.any,.any],[]⟩) (St.le_of (by simp[leT,okTo]) (by simp[leH])) ?_
 intro i hi Ψ hΨ hΨ'
 rcases Nat.lt_or_ge i l.length with hlt|hge
 · obtain⟨y,hy⟩:∃y,l[i]? = some y:=⟨l[i],List.getElem?_eq_getElem hlt⟩
   have e1:(decide ((i:Int)<(l.length:Int)))=true:=by simpa using hlt
   have e2:=nsl_at hy
   dsimp only at hΨ ⊢
   rw[show okTo l (i+1)=(okTo l i&&okS l i) from rfl] at hΨ
   generalize okTo l i=b at hΨ ⊢
   rcases i with _|j
   · simp only[Nat.zero_mul,List.drop_zero] at e2
     rw[show okS l 0=((y.a != 0)&&(y.e==0)&&decide (y.x>0)) by simp[okS,hy]] at hΨ
     (repeat(any_goals(first|((with_reducible refine Q0d ?_ ?_);rfl;intro K hK;simp(disch:=omega) only[go_sem,e1,e2];((repeat(refine ndI (by first|assumption|omega|rfl) ?_));refine hK _ ?_;clear hK K))|(with_reducible first|(refine Q0c ?_;refine hR _ ?_;clear hR R)|((first|refine Q0e ?_|refine Q0g ?_);intro Ψ hΨ hΨ')|(refine Q0b ?_;intro R hR)|(refine hΨ _ ?_;clear hΨ hΨ' Ψ)|refine Q0h ?_)|((with_reducible refine hΨ' _ _ ?_ ?_);(focus(simp;done));clear hΨ hΨ' Ψ)|((with_reducible apply Q0f);rfl;rfl;all_goals(intro hc;first|(cases hc;done)|(try simp only at hc)))|((with_reducible refine Q0w ?_ ?_);kernel_rfl;(with_reducible refine hR _ ?_);clear hR R)|((first|((with_reducible apply Q1w);rfl;rfl;rfl;rfl)|((with_reducible apply Q3c);rfl;rfl;rfl)|((first|((with_reducible apply Q1k);rfl;rfl;rfl;rfl;rfl));((apply Q0s (Q7w _ _ _ _ _);rfl;rfl;rfl;rfl;exact Tryz.func85);kernel_rfl;rfl;(focus((simp(disch:=omega) only[go_sem,e1,e2]);(try rfl);done));(first|rfl)))|((first|((with_reducible apply Q0u);rfl;rfl)|((with_reducible apply Q1l);rfl;rfl;rfl;rfl;rfl));(simp(disch:=omega) only[rdE,rdOf,go_sem,e1,e2];rfl);(intro τ hA hQ hN;((try simp only[Q1g,Op.operands,Call.operands,go_sem,e1,e2,go_sem,List.mem_cons,List.not_mem_nil,forall_eq_or_imp,forall_eq,List.append_toArray,Option.toArray] at hA);(try simp only[go_sem,e1,e2,List.mem_cons,List.not_mem_nil,forall_eq_or_imp,forall_eq] at hQ hN);(first|(revert hA;intro hA));(first|(revert hQ;intro hQ));(first|(revert hN;intro hN));simp(disch:=omega) only[go_sem,e1,e2,go_sem,hA,hQ,hN];(repeat(refine ndI (by first|assumption|rfl) ?_));(first|apply Q1d)))));(simp(disch:=omega) only[St.eff,setO,Q0x,go_sem,e1,e2]))|((with_reducible apply Q8y);rfl;rfl;rfl;all_goals intro hb;all_goals(simp(disch:=omega) only[St.eff,setO,Q0x,go_sem,e1,e2]))|((with_reducible refine Q0r ?_ ?_ ?_ ?_);kernel_rfl;kernel_rfl;(first|kernel_rfl);intro R hR))))
     all_goals refine hΨ _ (by omega) (St.le_of ?_ (by simp[leH]))
     all_goals simp only[leT,Q3o]
     all_goals simp_all [wrI]
   · obtain⟨z,hz⟩:∃z,l[j]? = some z:=⟨l[j],List.getElem?_eq_getElem (by omega)⟩
     have e3:=nsl_at hz
     have e4:(((j+1:Nat):Int)==0)=false:=by simp;omega
     have e5:IntKind.i64.wrap (((j+1:Nat):Int)-1)=(j:Int):=by rw[wrI (by omega) (by omega)];omega
     have e7:IntKind.i64.wrap (((j+1:Nat):Int)+1)=((j+1+1:Nat):Int):=by rw[wrI (by omega) (by omega)];omega
     rw[show okS l (j+1)=((y.a != 0)&&(y.e==0)&&decide (y.x>0)&&decide (cN z y<0)) by simp[okS,hy,hz]] at hΨ
     (have W:=ndI e1 (ndI e2 (ndI e3 (ndI e4 (ndI e5 e7))));(repeat(any_goals(first|((with_reducible refine Q0d ?_ ?_);rfl;intro K hK;simp(disch:=omega) only[go_sem,W];((repeat(refine ndI (by first|assumption|omega|rfl) ?_));refine hK _ ?_;clear hK K))|(with_reducible first|(refine Q0c ?_;refine hR _ ?_;clear hR R)|((first|refine Q0e ?_|refine Q0g ?_);intro Ψ hΨ hΨ')|(refine Q0b ?_;intro R hR)|(refine hΨ _ ?_;clear hΨ hΨ' Ψ)|refine Q0h ?_)|((with_reducible refine hΨ' _ _ ?_ ?_);(focus(simp;done));clear hΨ hΨ' Ψ)|((with_reducible apply Q0f);rfl;rfl;all_goals(intro hc;first|(cases hc;done)|(try simp only at hc)))|((with_reducible refine Q0w ?_ ?_);kernel_rfl;(with_reducible refine hR _ ?_);clear hR R)|((first|((with_reducible apply Q1w);rfl;rfl;rfl;rfl)|((with_reducible apply Q3c);rfl;rfl;rfl)|((first|((with_reducible apply Q1k);rfl;rfl;rfl;rfl;rfl));((first|(apply Q0s (Q7w _ _ _ _ _);rfl;rfl;rfl;rfl;exact Tryz.func85)|(apply Q0s (X3t _ _ _ _ _ _ _ _ _ _ _);rfl;rfl;rfl;rfl;exact Tryz.func86));kernel_rfl;rfl;(focus((simp(disch:=omega) only[go_sem,W]);(try rfl);done));(first|rfl)))|((first|((with_reducible apply Q0u);rfl;rfl)|((with_reducible apply Q1l);rfl;rfl;rfl;rfl;rfl));(simp(disch:=omega) only[rdE,rdOf,go_sem,W];rfl);(intro τ hA hQ hN;((try simp only[Q1g,Op.operands,Call.operands,go_sem,W,go_sem,List.mem_cons,List.not_mem_nil,forall_eq_or_imp,forall_eq,List.append_toArray,Option.toArray] at hA);(try simp only[go_sem,W,List.mem_cons,List.not_mem_nil,forall_eq_or_imp,forall_eq] at hQ hN);(first|(revert hA;intro hA));(first|(revert hQ;intro hQ));(first|(revert hN;intro hN));simp(disch:=omega) only[go_sem,W,go_sem,hA,hQ,hN];(repeat(refine ndI (by first|assumption|omega|rfl) ?_));(first|apply Q1d)))));(simp(disch:=omega) only[St.eff,setO,Q0x,go_sem,W]))|((with_reducible apply Q8y);rfl;rfl;rfl;all_goals intro hb;all_goals(simp(disch:=omega) only[St.eff,setO,Q0x,go_sem,W]))|((with_reducible refine Q0r ?_ ?_ ?_ ?_);kernel_rfl;kernel_rfl;(first|kernel_rfl);intro R hR)))))
     all_goals refine hΨ _ (by omega) (St.le_of ?_ (by simp[leH]))
     all_goals simp only[leT,Q3o]
     all_goals simp_all [cN]
     all_goals(intro h;omega)
 · have e1:(decide ((i:Int)<(l.length:Int)))=false:=by simpa using hge
   obtain rfl:i=l.length:=by omega
   (repeat(any_goals(first|((with_reducible refine Q0d ?_ ?_);rfl;intro K hK;simp only[go_sem,e1];((repeat(refine ndI (by first|assumption) ?_));refine hK _ ?_;clear hK K))|(with_reducible first|(refine Q0c ?_;refine hR _ ?_;clear hR R)|((first|refine Q0e ?_);intro Ψ hΨ hΨ')|(refine Q0b ?_;intro R hR)|(refine hΨ _ ?_;clear hΨ hΨ' Ψ)|refine Q0h ?_|refine Q0l ?_|refine Q0v ?_)|((with_reducible refine hΨ' _ _ ?_ ?_);(focus(simp;done));clear hΨ hΨ' Ψ)|((with_reducible apply Q0f);rfl;rfl;all_goals(intro hc;first|(cases hc;done)|(try simp only at hc))))))
   all_goals(refine⟨by simp,⟨_,?_,AV.le_refl _⟩,Q0i (by simp[leH,hget])⟩;simp only[Tryz.results66,resL,ldA,Q0z,go_sem])
   all_goals simp_all
end nz
namespace nz
open Go.RowKit
set_option maxRecDepth 20000
set_option maxHeartbeats 1000000
def bsr(lt:Nat→Bool):Nat→Nat→Nat→Nat
 |0,i,_=>i
 |f+1,i,j=>if i<j then(if lt ((i+j)/2) then bsr lt f ((i+j)/2+1) j else bsr lt f i ((i+j)/2)) else i
theorem Q3a(lt:Nat→Bool):∀(f g i j:Nat),j-i≤f→j-i≤g→bsr lt f i j=bsr lt g i j
 |0,0,_,_,_,_=>rfl
 |0,g+1,i,j,h,_=>by unfold bsr;rw[if_neg (by omega)]
 |f+1,0,i,j,_,h=>by
  conv=>lhs;unfold bsr
  rw[if_neg (by omega)];rfl
 |f+1,g+1,i,j,h1,h2=>by
  unfold bsr
  by_cases h:i<j
  · rw[if_pos h,if_pos h,Q3a lt f g _ j (by omega) (by omega),Q3a lt f g i _ (by omega) (by omega)]
  · rw[if_neg h,if_neg h]
theorem bsr_up{lt:Nat→Bool}{i j r:Nat}(h:i<j)(hl:lt ((i+j)/2)=true)(hr:bsr lt (j-i) i j=r):bsr lt (j-((i+j)/2+1)) ((i+j)/2+1) j=r:=by
 rw[Q3a lt (j-i) (j-i-1+1) i j (by omega) (by omega)] at hr
 unfold bsr at hr
 rw[if_pos h,if_pos hl] at hr
 rw[←hr];exact Q3a lt _ _ _ _ (by omega) (by omega)
theorem bsr_dn{lt:Nat→Bool}{i j r:Nat}(h:i<j)(hl:lt ((i+j)/2)=false)(hr:bsr lt (j-i) i j=r):bsr lt ((i+j)/2-i) i ((i+j)/2)=r:=by
 rw[Q3a lt (j-i) (j-i-1+1) i j (by omega) (by omega)] at hr
 unfold bsr at hr
 rw[if_pos h,hl] at hr
 rw[←hr];exact Q3a lt _ _ _ _ (by omega) (by omega)
theorem Q9v(lt:Nat→Bool):∀(f i j:Nat),i≤j→bsr lt f i j≤j
 |0,i,j,h=>h
 |f+1,i,j,h=>by
  unfold bsr
  split
  · split
    · exact Q9v lt f _ j (by omega)
    · exact Nat.le_trans (Q9v lt f i _ (by omega)) (by omega)
  · exact h
theorem half{i j:Nat}:((i:Int)+(j:Int)).fdiv (2 ^ (min 1 64))=(((i+j)/2:Nat):Int):=by
 show((i:Int)+(j:Int)).fdiv 2=_
 rw[Int.fdiv_eq_ediv_of_nonneg _ (by omega)];omega
end nz
namespace nz
open Go.RowKit
set_option maxRecDepth 20000
set_option maxHeartbeats 1000000
abbrev c4(a b c d:Int):List AV:=[vi .u64 a,vi .u64 b,vi .u64 c,vi .u64 d]
end nz
namespace nz
open Go.RowKit
set_option maxRecDepth 20000
set_option maxHeartbeats 1000000
abbrev nilS:AV:=.c (.v (.slice none 0 0))
end nz
namespace nz
open Go.RowKit
set_option maxRecDepth 20000
set_option maxHeartbeats 1000000
def N6.ok(n:N6):Prop:=U n.a∧U n.b∧U n.c∧U n.d∧U n.e∧U n.x
end nz
section
open Go.RowKit
open Nat (reduceBEq)
set_option maxRecDepth 20000
set_option maxHeartbeats 2000000
structure Wl where
 S:List Ac
 L:List lg.Hd
 N:List nz.N6
abbrev acV(l:List Ac):PV:=.sl false 8 l.length (l.flatMap Ac.pv)
abbrev hdV(l:List lg.Hd):PV:=.sl false 11 l.length (l.flatMap lg.Hd.pv)
abbrev noV(l:List nz.N6):PV:=.sl false 6 l.length (l.flatMap nz.N6.pv)
def Wl.pv(w:Wl):List PV:=[acV w.S,hdV w.L,noV w.N]
abbrev wlA(w:Wl):AV:=.agg [.c (acV w.S),.c (hdV w.L),.c (noV w.N)]
structure Wl.ok (w:Wl):Prop where
 s:w.S.length≤60∧∀x∈w.S,x.ok∧x.code.length≤300∧x.store.length≤40
 l:w.L.length≤60∧∀h∈w.L,h.ok
 n:w.N.length≤70∧∀x∈w.N,x.ok
def Q1u(w:Wl):Bool:=okSt w.S&&lg.okL w.L&&nz.okTo w.N w.N.length
theorem checkW_fn(w:Wl)(hw:w.ok):Fn Tryz.prog 53 [wlA w] [] (vi .i64 (if Q1u w then 0 else 200)) []:=by
 obtain⟨S,L,N⟩:=w
 obtain⟨⟨hs,os⟩,⟨hl,ol⟩,⟨hn,on'⟩⟩:=hw
 dsimp only at hs os hl ol hn on'
 have h6:(600:Nat)≤maxLen:=by decide
 have f1:=Q9a false S (by omega) fun x hx=>⟨(os x hx).1,by have:=(os x hx).2;omega⟩
 have f2:=lg.check_fn false L (Nat.le_trans hl (by decide)) ol
 have f3:=nz.check_fn false N (Nat.le_trans hn (by decide))
 unfold Q1u
 dsimp only
 cases e1:okSt S<;>cases e2:lg.okL L<;>cases e3:nz.okTo N N.length<;>simp only[e1,e2,e3,if_true,if_false,Bool.false_eq_true] at f1 f2 f3 ⊢
 all_goals(refine Q1c Tryz.func53 rfl (by rfl) ?_;simp only[Tryz.ntmps53,List.length_cons,List.length_nil,Nat.reduceAdd,Nat.reduceSub,List.replicate,List.cons_append,List.nil_append])
 all_goals(repeat(any_goals(first|((with_reducible refine Q0p ?_ ?_ ?_);rfl;rfl;intro K hK;((apply Q0k (f1);rfl;rfl;rfl;rfl;exact Tryz.func58);kernel_rfl;rfl;(focus((simp only[go_sem]);(try rfl);done));(first|rfl));(simp only[go_sem];refine hK _ ?_;clear hK K))|((with_reducible refine Q0d ?_ ?_);rfl;intro K hK;simp only[go_sem];((repeat(refine ndI (by first|assumption) ?_));refine hK _ ?_;clear hK K))|(with_reducible first|(refine Q0c ?_;refine hR _ ?_;clear hR R)|((first|refine Q0e ?_);intro Ψ hΨ hΨ')|(refine Q0b ?_;intro R hR)|(refine hΨ _ ?_;clear hΨ hΨ' Ψ)|refine Q0h ?_|refine Q0l ?_)|((with_reducible refine hΨ' _ _ ?_ ?_);(focus(simp;done));clear hΨ hΨ' Ψ)|((with_reducible apply Q1i);rfl;rfl;rfl;all_goals(intro hb;first|(cases hb;done)|((try simp only[Bool.not_true,Bool.not_false] at hb);(first|((with_reducible intro K hK);(first|((first|(apply Q0k (f2);rfl;rfl;rfl;rfl;exact Tryz.func56)|(apply Q0k (f3);rfl;rfl;rfl;rfl;exact Tryz.func66));kernel_rfl;rfl;(focus((simp only[go_sem]);(try rfl);done));(first|rfl))|skip);simp only[go_sem];((repeat(refine ndI (by first|assumption) ?_));refine hK _ ?_;clear hK K))|((fail_if_success (with_reducible intro _));simp only[go_sem])))))|((with_reducible apply Q0f);rfl;rfl;all_goals(intro hc;first|(cases hc;done)|(try simp only at hc))))))
 all_goals(refine⟨by simp,⟨_,?_,AV.le_refl _⟩,Q0i (by simp[leH,hget])⟩;simp only[Tryz.results53,resL,ldA,Q0z,go_sem])
 all_goals rfl
end
section
open Go.RowKit
open Nat (reduceBEq)
set_option maxRecDepth 20000
set_option maxHeartbeats 2000000
def ixB{α : Type}(p:α→Bool)(l:List α):Int:=match l.findIdx? p with|some i=>(i:Int)|none=>-1
theorem ixB_at{α : Type}{p:α→Bool}{l:List α}{i:Nat}{y:α}(hno:∀j,j<i→∀n,l[j]? = some n→p n=false)(hy:l[i]? = some y)(hp:p y=true):ixB p l=(i:Int):=by
 have h:l.findIdx? p=some i:=by
  rw[List.findIdx?_eq_some_iff_getElem]
  obtain⟨hi,e⟩:=List.getElem?_eq_some_iff.1 hy
  refine⟨hi,by rw[e];exact hp,fun j hj=>?_⟩
  rw[hno j hj _ (List.getElem?_eq_getElem (by omega))]
  decide
 unfold ixB
 rw[h]
theorem X4x{α : Type}{p:α→Bool}{l:List α}(hno:∀j,j<l.length→∀n,l[j]? = some n→p n=false):ixB p l = -1:=by
 have h:l.findIdx? p=none:=by
  rw[List.findIdx?_eq_none_iff]
  intro x hx
  obtain⟨j,hj⟩:=List.getElem?_of_mem hx
  exact hno j (List.getElem?_eq_some_iff.1 hj).1 x hj
 unfold ixB
 rw[h]
theorem ixB_any{α : Type}(p:α→Bool)(l:List α):decide (ixB p l≥0)=l.any p:=by
 unfold ixB
 cases h:l.findIdx? p with
 |none=>
  rw[List.findIdx?_eq_none_iff] at h
  have:l.any p=false:=by
   rw[List.any_eq_false]
   intro x hx
   rw[h x hx];decide
  rw[this];rfl
 |some i=>
  rw[List.findIdx?_eq_some_iff_getElem] at h
  obtain⟨hi,hp,_⟩:=h
  have:l.any p=true:=by
   rw[List.any_eq_true]
   exact⟨_,List.getElem_mem hi,hp⟩
  rw[this]
  simp
theorem mayl_fn(w:Wl)(hw:w.ok):Fn Tryz.prog 52 [wlA w] [] (vb (!Q1u w)) []:=by
 have f:=checkW_fn w hw
 cases e:Q1u w<;>simp only[e,if_true,if_false,Bool.false_eq_true] at f ⊢
 all_goals(refine Q1c Tryz.func52 rfl (by rfl) ?_;simp only[Tryz.ntmps52,List.length_cons,List.length_nil,Nat.reduceAdd,Nat.reduceSub,List.replicate,List.cons_append,List.nil_append])
 all_goals(repeat(any_goals(first|((with_reducible refine Q0p ?_ ?_ ?_);rfl;rfl;intro K hK;((apply Q0k (f);rfl;rfl;rfl;rfl;exact Tryz.func53);kernel_rfl;rfl;(focus((simp only[go_sem]);(try rfl);done));(first|rfl));(simp only[go_sem];refine hK _ ?_;clear hK K))|((with_reducible refine Q0d ?_ ?_);rfl;intro K hK;simp only[go_sem];((repeat(refine ndI (by first|assumption) ?_));refine hK _ ?_;clear hK K))|(with_reducible first|(refine Q0c ?_;refine hR _ ?_;clear hR R)|((first|refine Q0e ?_);intro Ψ hΨ hΨ')|(refine Q0b ?_;intro R hR)|(refine hΨ _ ?_;clear hΨ hΨ' Ψ)|refine Q0l ?_))))
 all_goals(refine⟨by simp,⟨_,?_,AV.le_refl _⟩,Q0i (by simp[leH,hget])⟩;simp only[Tryz.results52,resL,ldA,Q0z,go_sem])
 all_goals rfl
theorem wl_len(w:Wl):w.pv.length=3:=rfl
abbrev wls(ex:Bool)(l:List Wl):AV:=.c (.sl ex 3 l.length (l.flatMap Wl.pv))
theorem wls_at{l:List Wl}{i:Nat}{w:Wl}(h:l[i]? = some w):((l.flatMap Wl.pv).drop (i*3)).take 3=[acV w.S,hdV w.L,noV w.N]:=Q4m wl_len h
theorem indexW_fn(ex:Bool)(l:List Wl)(hl:l.length≤1000)(ok:∀w∈l,w.ok):Fn Tryz.prog 65 [wls ex l,.fn 52 []] [] (vi .i64 (ixB (fun w=>!Q1u w) l)) []:=by
 obtain⟨tr,htr⟩:∃r:Int,ixB (fun w=>!Q1u w) l=r:=⟨_,rfl⟩
 rw[htr]
 (refine Q1c Tryz.func65 rfl (by rfl) ?_;simp only[Tryz.ntmps65,List.length_cons,List.length_nil,Nat.reduceAdd,Nat.reduceSub,List.replicate,List.cons_append,List.nil_append])
 (repeat(any_goals(first|((with_reducible refine Q0d ?_ ?_);rfl;intro K hK;simp only[go_sem];((repeat(refine ndI (by first|assumption) ?_));refine hK _ ?_;clear hK K))|(with_reducible first|(refine Q0c ?_;refine hR _ ?_;clear hR R)|((first|refine Q0e ?_|refine Q0g ?_);intro Ψ hΨ hΨ')|(refine Q0b ?_;intro R hR)|(refine hΨ _ ?_;clear hΨ hΨ' Ψ)))))
 refine Q2n (α:={i:Nat // i≤l.length∧∀j,j<i→∀n,l[j]? = some n→(!Q1u n)=false}) (fun p=>⟨[wls ex l,.fn 52 [],.any,.any,.any,.any,wls ex l,vi .i64 l.length,vi .i64 p.1,.any,.any,.any,.any,.any,.any,.any,.any,.any,.any],[]⟩) (fun p=>l.length-p.1) ⟨0,Nat.zero_le _,fun j hj=>by omega⟩ (St.le_of (by simp[leT]) (by simp[leH,hget])) ?_
 rintro ⟨i,hi,hno⟩ Ψ hΨ hΨ'
 dsimp only at hi hΨ ⊢
 rcases Nat.lt_or_ge i l.length with hlt|hge
 · obtain⟨y,hy⟩:∃y,l[i]? = some y:=⟨l[i],List.getElem?_eq_getElem hlt⟩
   have k1:(decide ((i:Int)<(l.length:Int)))=true:=by simpa using hlt
   have k2:=wls_at hy
   have k7:(i:Int)+1=((i+1:Nat):Int):=by omega
   have pl:=mayl_fn y (ok y (List.mem_of_getElem? hy))
   cases hm:(!Q1u y)
   · rw[hm] at pl
     (have W:=ndI k1 (ndI k2 (ndI k7 @wrI));(repeat(any_goals(first|((with_reducible refine Q0p ?_ ?_ ?_);rfl;rfl;intro K hK;((apply Q0k (pl);rfl;rfl;rfl;rfl;exact Tryz.func52);kernel_rfl;rfl;(focus((simp(disch:=omega) only[go_sem,W]);(try rfl);done));(first|rfl));(simp(disch:=omega) only[go_sem,W];refine hK _ ?_;clear hK K))|((with_reducible refine Q0d ?_ ?_);rfl;intro K hK;simp(disch:=omega) only[go_sem,W];((repeat(refine ndI (by first|assumption|omega|rfl) ?_));refine hK _ ?_;clear hK K))|(with_reducible first|(refine Q0c ?_;refine hR _ ?_;clear hR R)|((first|refine Q0e ?_|refine Q0g ?_);intro Ψ hΨ hΨ')|(refine Q0b ?_;intro R hR)|(refine hΨ _ ?_;clear hΨ hΨ' Ψ)|refine Q0h ?_)|((with_reducible refine hΨ' _ _ ?_ ?_);(focus(simp;done));clear hΨ hΨ' Ψ)|((with_reducible apply Q0f);rfl;rfl;all_goals(intro hc;first|(cases hc;done)|(try simp only at hc)))))))
     refine hΨ _ ⟨i+1,hlt,fun j hj n hn=>?_⟩ (by simp only;omega) (St.le_of (by simp[leT]) (by simp[leH,hget]))
     rcases Nat.lt_or_ge j i with h'|h'
     · exact hno j h' n hn
     · obtain rfl:j=i:=by omega
       rw[hy] at hn;cases hn;exact hm
   · rw[hm] at pl
     have hp:=ixB_at (p:=fun w=>!Q1u w) hno hy hm
     rw[hp] at htr
     (have W:=ndI k1 (ndI k2 (ndI k7 @wrI));(repeat(any_goals(first|((with_reducible refine Q0p ?_ ?_ ?_);rfl;rfl;intro K hK;((apply Q0k (pl);rfl;rfl;rfl;rfl;exact Tryz.func52);kernel_rfl;rfl;(focus((simp(disch:=omega) only[go_sem,W]);(try rfl);done));(first|rfl));(simp(disch:=omega) only[go_sem,W];refine hK _ ?_;clear hK K))|((with_reducible refine Q0d ?_ ?_);rfl;intro K hK;simp(disch:=omega) only[go_sem,W];((repeat(refine ndI (by first|assumption|omega|rfl) ?_));refine hK _ ?_;clear hK K))|(with_reducible first|(refine Q0c ?_;refine hR _ ?_;clear hR R)|((first|refine Q0e ?_|refine Q0g ?_);intro Ψ hΨ hΨ')|(refine Q0b ?_;intro R hR)|(refine hΨ _ ?_;clear hΨ hΨ' Ψ)|refine Q0h ?_|refine Q0l ?_)|((with_reducible refine hΨ' _ _ ?_ ?_);(focus(simp;done));clear hΨ hΨ' Ψ)|((with_reducible apply Q0f);rfl;rfl;all_goals(intro hc;first|(cases hc;done)|(try simp only at hc)))))))
     all_goals(refine⟨by simp,⟨_,?_,AV.le_refl _⟩,Q0i (by simp[leH,hget])⟩;simp only[Tryz.results65,resL,ldA,Q0z,go_sem])
     all_goals rw[htr]
 · have k1:(decide ((i:Int)<(l.length:Int)))=false:=by simpa using hge
   have hp:=X4x (p:=fun w=>!Q1u w) (l:=l) fun j hj=>hno j (by omega)
   rw[hp] at htr
   (repeat(any_goals(first|((with_reducible refine Q0d ?_ ?_);rfl;intro K hK;simp only[go_sem,k1];((repeat(refine ndI (by first|assumption) ?_));refine hK _ ?_;clear hK K))|(with_reducible first|(refine Q0c ?_;refine hR _ ?_;clear hR R)|((first|refine Q0e ?_);intro Ψ hΨ hΨ')|(refine Q0b ?_;intro R hR)|(refine hΨ _ ?_;clear hΨ hΨ' Ψ)|refine Q0l ?_|refine Q0v ?_)|((with_reducible refine hΨ' _ _ ?_ ?_);(focus(simp;done));clear hΨ hΨ' Ψ)|((with_reducible apply Q0f);rfl;rfl;all_goals(intro hc;first|(cases hc;done)|(try simp only at hc))))))
   all_goals(refine⟨by simp,⟨_,?_,AV.le_refl _⟩,Q0i (by simp[leH,hget])⟩;simp only[Tryz.results65,resL,ldA,Q0z,go_sem])
   all_goals rw[←htr]
theorem X3a(ex:Bool)(l:List Wl)(hl:l.length≤1000)(ok:∀w∈l,w.ok):Fn Tryz.prog 51 [wls ex l,.fn 52 []] [] (vb (l.any fun w=>!Q1u w)) []:=by
 have f:=indexW_fn ex l hl ok
 have e:=ixB_any (fun w=>!Q1u w) l
 (refine Q1c Tryz.func51 rfl (by rfl) ?_;simp only[Tryz.ntmps51,List.length_cons,List.length_nil,Nat.reduceAdd,Nat.reduceSub,List.replicate,List.cons_append,List.nil_append])
 (repeat(any_goals(first|((with_reducible refine Q0p ?_ ?_ ?_);rfl;rfl;intro K hK;((apply Q0k (f);rfl;rfl;rfl;rfl;exact Tryz.func65);kernel_rfl;rfl;(focus((simp only[go_sem,e]);(try rfl);done));(first|rfl));(simp only[go_sem,e];refine hK _ ?_;clear hK K))|((with_reducible refine Q0d ?_ ?_);rfl;intro K hK;simp only[go_sem,e];((repeat(refine ndI (by first|assumption) ?_));refine hK _ ?_;clear hK K))|(with_reducible first|(refine Q0c ?_;refine hR _ ?_;clear hR R)|((first|refine Q0e ?_);intro Ψ hΨ hΨ')|(refine Q0b ?_;intro R hR)|(refine hΨ _ ?_;clear hΨ hΨ' Ψ)|refine Q0l ?_))))
 all_goals(refine⟨by simp,⟨_,?_,AV.le_refl _⟩,Q0i (by simp[leH,hget])⟩;simp only[Tryz.results51,resL,ldA,Q0z,go_sem])
theorem may_fn(ex:Bool)(l:List Wl)(hl:l.length≤1000)(ok:∀w∈l,w.ok):Fn Tryz.prog 28 [wls ex l] [] (vb (l.all Q1u)) []:=by
 have f:=X3a ex l hl ok
 have e:(!l.any fun w=>!Q1u w)=l.all Q1u:=by rw[List.not_any_eq_all_not];simp
 rw[←e]
 (refine Q1c Tryz.func28 rfl (by rfl) ?_;simp only[Tryz.ntmps28,List.length_cons,List.length_nil,Nat.reduceAdd,Nat.reduceSub,List.replicate,List.cons_append,List.nil_append])
 (repeat(any_goals(first|((with_reducible refine Q0p ?_ ?_ ?_);rfl;rfl;intro K hK;((apply Q0k (f);rfl;rfl;rfl;rfl;exact Tryz.func51);kernel_rfl;rfl;(focus((simp only[go_sem]);(try rfl);done));(first|rfl));(simp only[go_sem];refine hK _ ?_;clear hK K))|((with_reducible refine Q0d ?_ ?_);rfl;intro K hK;simp only[go_sem];((repeat(refine ndI (by first|assumption) ?_));refine hK _ ?_;clear hK K))|(with_reducible first|(refine Q0c ?_;refine hR _ ?_;clear hR R)|((first|refine Q0e ?_);intro Ψ hΨ hΨ')|(refine Q0b ?_;intro R hR)|(refine hΨ _ ?_;clear hΨ hΨ' Ψ)|refine Q0l ?_))))
 all_goals(refine⟨by simp,⟨_,?_,AV.le_refl _⟩,Q0i (by simp[leH,hget])⟩;simp only[Tryz.results28,resL,ldA,Q0z,go_sem])
theorem Q8v(ex:Bool)(w:Wl)(hw:w.ok):Fn Tryz.prog 28 [.c (.sl ex 3 1 [acV w.S,hdV w.L,noV w.N])] [] (vb (Q1u w)) []:=by
 have f:=may_fn ex [w] (by simp) (by simpa using hw)
 have e:[w].all Q1u=Q1u w:=by simp
 rw[e] at f
 exact f
theorem may2_fn(ex:Bool)(w v:Wl)(hw:w.ok)(hv:v.ok):Fn Tryz.prog 28 [.c (.sl ex 3 2 [acV w.S,hdV w.L,noV w.N,acV v.S,hdV v.L,noV v.N])] [] (vb (Q1u w&&Q1u v)) []:=by
 have f:=may_fn ex [w,v] (by simp) (by simp[hw,hv])
 have e:[w,v].all Q1u=(Q1u w&&Q1u v):=by simp
 rw[e] at f
 exact f
end
section
open Go.RowKit
def bsr(lt:Nat→Bool):Nat→Nat→Nat→Nat
 |0,i,_=>i
 |f+1,i,j=>if i<j then(if lt ((i+j)/2) then bsr lt f ((i+j)/2+1) j else bsr lt f i ((i+j)/2)) else i
theorem Q3a(lt:Nat→Bool):∀(f g i j:Nat),j-i≤f→j-i≤g→bsr lt f i j=bsr lt g i j
 |0,0,_,_,_,_=>rfl
 |0,g+1,i,j,h,_=>by unfold bsr;rw[if_neg (by omega)]
 |f+1,0,i,j,_,h=>by
  conv=>lhs;unfold bsr
  rw[if_neg (by omega)];rfl
 |f+1,g+1,i,j,h1,h2=>by
  unfold bsr
  by_cases h:i<j
  · rw[if_pos h,if_pos h,Q3a lt f g _ j (by omega) (by omega),Q3a lt f g i _ (by omega) (by omega)]
  · rw[if_neg h,if_neg h]
theorem bsr_up{lt:Nat→Bool}{i j r:Nat}(h:i<j)(hl:lt ((i+j)/2)=true)(hr:bsr lt (j-i) i j=r):bsr lt (j-((i+j)/2+1)) ((i+j)/2+1) j=r:=by
 rw[Q3a lt (j-i) (j-i-1+1) i j (by omega) (by omega)] at hr
 unfold bsr at hr
 rw[if_pos h,if_pos hl] at hr
 rw[←hr];exact Q3a lt _ _ _ _ (by omega) (by omega)
theorem bsr_dn{lt:Nat→Bool}{i j r:Nat}(h:i<j)(hl:lt ((i+j)/2)=false)(hr:bsr lt (j-i) i j=r):bsr lt ((i+j)/2-i) i ((i+j)/2)=r:=by
 rw[Q3a lt (j-i) (j-i-1+1) i j (by omega) (by omega)] at hr
 unfold bsr at hr
 rw[if_pos h,hl] at hr
 rw[←hr];exact Q3a lt _ _ _ _ (by omega) (by omega)
theorem Q9v(lt:Nat→Bool):∀(f i j:Nat),i≤j→bsr lt f i j≤j
 |0,i,j,h=>h
 |f+1,i,j,h=>by
  unfold bsr
  split
  · split
    · exact Q9v lt f _ j (by omega)
    · exact Nat.le_trans (Q9v lt f i _ (by omega)) (by omega)
  · exact h
theorem X5l:IntKind.u64.bits=64:=rfl
theorem half{i j:Nat}:((i:Int)+(j:Int)).fdiv (2 ^ (min 1 64))=(((i+j)/2:Nat):Int):=by
 show((i:Int)+(j:Int)).fdiv 2=_
 rw[Int.fdiv_eq_ediv_of_nonneg _ (by omega)];omega
section
variable {α : Type} (key:α→Int)
def Rises(L:List α):Prop:=L.Pairwise fun x y=>key x<key y
def fnd(k:Int):List α→Option α
 |[]=>none
 |y::L=>if key y=k then some y else fnd k L
variable {key}
theorem fnd_key{k:Int}:∀{L:List α} {x:α},fnd key k L=some x→key x=k∧x∈L
 |y::L,x,h=>by
  unfold fnd at h
  split at h
  · rename_i e;cases h;exact⟨e,by simp⟩
  · have:=fnd_key h;exact⟨this.1,by simp[this.2]⟩
theorem fnd_mem{L:List α}(hr:Rises key L){x:α}(hx:x∈L):fnd key (key x) L=some x:=by
 induction L with
 |nil=>cases hx
 |cons y L ih=>
  obtain⟨l1,l2⟩:=List.pairwise_cons.1 hr
  unfold fnd
  rcases List.mem_cons.1 hx with rfl|hx
  · rw[if_pos rfl]
  · rw[if_neg (by have:=l1 x hx;omega)];exact ih l2 hx
theorem mem_iff{L:List α}(hr:Rises key L){x:α}:x∈L↔fnd key (key x) L=some x:=⟨fnd_mem hr,fun h=>(fnd_key h).2⟩
structure Parts (key:α→Int) (L:List α) (k:Int) (p:Nat):Prop where
 le:p≤L.length
 lo:∀(i:Nat) (h:i<L.length),i<p→key L[i]<k
 hi:∀(i:Nat) (h:i<L.length),p≤i→k≤key L[i]
theorem Parts.tail{y:α}{L:List α}{k:Int}{p:Nat}(h:Parts key (y::L) k (p+1)):Parts key L k p:=
 ⟨by have:=h.le;simpa using this,fun i hi hp=>by have:=h.lo (i+1) (by simpa using hi) (by omega);simpa using this,fun i hi hp=>by have:=h.hi (i+1) (by simpa using hi) (by omega);simpa using this⟩
end
end
section
open Go.RowKit
open Nat (reduceBEq)
set_option maxRecDepth 20000
set_option maxHeartbeats 2000000
def cmpI(a b:Int):Int:=if a<b then -1 else if b<a then 1 else 0
theorem Q7k(a b:Int):Fn Tryz.prog 101 [vi .u64 a,vi .u64 b] [] (vi .i64 (cmpI a b)) []:=by
 (refine Q1c Tryz.func101 rfl (by rfl) ?_;simp only[Tryz.ntmps101,List.length_cons,List.length_nil,Nat.reduceAdd,Nat.reduceSub,List.replicate,List.cons_append,List.nil_append])
 (repeat(any_goals(first|((with_reducible refine Q0p ?_ ?_ ?_);rfl;rfl;intro K hK;((apply Q0k (Q6t _);rfl;rfl;rfl;rfl;exact Tryz.func99);kernel_rfl;rfl;(focus((simp only[go_sem]);(try rfl);done));(first|rfl));(simp only[go_sem];refine hK _ ?_;clear hK K))|((with_reducible refine Q0d ?_ ?_);rfl;intro K hK;simp only[go_sem];((repeat(refine ndI (by first|assumption) ?_));refine hK _ ?_;clear hK K))|(with_reducible first|(refine Q0c ?_;refine hR _ ?_;clear hR R)|((first|refine Q0e ?_);intro Ψ hΨ hΨ')|(refine Q0b ?_;intro R hR)|(refine hΨ _ ?_;clear hΨ hΨ' Ψ)|refine Q0h ?_|refine Q0l ?_)|((with_reducible refine hΨ' _ _ ?_ ?_);(focus(simp;done));clear hΨ hΨ' Ψ)|((with_reducible apply Q0f);rfl;rfl;all_goals(intro hc;first|(cases hc;done)|(try simp only at hc))))))
 all_goals(refine⟨by simp,⟨_,?_,AV.le_refl _⟩,Q0i (by simp[leH,hget])⟩;simp only[Tryz.results101,resL,ldA,Q0z,go_sem])
 all_goals simp_all [cmpI]
 all_goals omega
def cmpK(x y:Nat):Int:=if x<y then -1 else if y<x then 1 else 0
def ltA(L:List Ac)(a:Int)(h:Nat):Bool:=match L[h]? with|some z=>decide (cmpI z.a a<0)|none=>false
def eqA(L:List Ac)(a:Int)(h:Nat):Bool:=match L[h]? with|some z=>cmpI z.a a==0|none=>false
def ltP(l:List Pr)(k:Nat)(h:Nat):Bool:=match l[h]? with|some z=>decide (cmpK z.k k<0)|none=>false
def eqP(l:List Pr)(k:Nat)(h:Nat):Bool:=match l[h]? with|some z=>cmpK z.k k==0|none=>false
theorem Q6p(x:Ac)(a:Int):Fn Tryz.prog 103 [acA x,vi .u64 a] [] (vi .i64 (cmpI x.a a)) []:=by
 (refine Q1c Tryz.func103 rfl (by rfl) ?_;simp only[Tryz.ntmps103,List.length_cons,List.length_nil,Nat.reduceAdd,Nat.reduceSub,List.replicate,List.cons_append,List.nil_append])
 (repeat(any_goals(first|((with_reducible refine Q0p ?_ ?_ ?_);rfl;rfl;intro K hK;((apply Q0k (Q7k _ _);rfl;rfl;rfl;rfl;exact Tryz.func101);kernel_rfl;rfl;(focus((simp only[go_sem]);(try rfl);done));(first|rfl));(simp only[go_sem];refine hK _ ?_;clear hK K))|((with_reducible refine Q0d ?_ ?_);rfl;intro K hK;simp only[go_sem];((repeat(refine ndI (by first|assumption) ?_));refine hK _ ?_;clear hK K))|(with_reducible first|(refine Q0c ?_;refine hR _ ?_;clear hR R)|((first|refine Q0e ?_);intro Ψ hΨ hΨ')|(refine Q0b ?_;intro R hR)|(refine hΨ _ ?_;clear hΨ hΨ' Ψ)|refine Q0l ?_))))
 all_goals(refine⟨by simp,⟨_,?_,AV.le_refl _⟩,Q0i (by simp[leH,hget])⟩;simp only[Tryz.results103,resL,ldA,Q0z,go_sem])
theorem bsfA_fn(ex:Bool)(l:List Ac)(hl:l.length≤4611686018427387903)(a:Int):Fn Tryz.prog 102 [acS ex l,vi .u64 a,.fn 103 []] []
 (.tup [vi .i64 (bsr (ltA l a) l.length 0 l.length:Nat),vb (eqA l a (bsr (ltA l a) l.length 0 l.length))]) []:=by
 (refine Q1c Tryz.func102 rfl (by rfl) ?_;simp only[Tryz.ntmps102,List.length_cons,List.length_nil,Nat.reduceAdd,Nat.reduceSub,List.replicate,List.cons_append,List.nil_append])
 (repeat(any_goals(first|((with_reducible refine Q0d ?_ ?_);rfl;intro K hK;simp only[go_sem];((repeat(refine ndI (by first|assumption) ?_));refine hK _ ?_;clear hK K))|(with_reducible first|(refine Q0c ?_;refine hR _ ?_;clear hR R)|((first|refine Q0e ?_|refine Q0g ?_);intro Ψ hΨ hΨ')|(refine Q0b ?_;intro R hR)|(refine hΨ _ ?_;clear hΨ hΨ' Ψ)))))
 generalize hr:bsr (ltA l a) l.length 0 l.length=r
 have hrl:r≤l.length:=by rw[←hr];exact Q9v _ _ _ _ (Nat.zero_le _)
 refine Q2n (α:={p:Nat×Nat // p.1≤p.2∧p.2≤l.length∧bsr (ltA l a) (p.2-p.1) p.1 p.2=r}) (fun p=>⟨[acS ex l,vi .u64 a,.fn 103 [],.any,.any,.any,.any,.any,vi .i64 l.length,vi .i64 p.1.1,vi .i64 p.1.2,.any,.any,.any,.any,.any,.any,.any,.any,.any,.any,.any,.any,.any,.any,.any,.any,.any,.any,.any,.any,.any,.any,.any,.any,.any,.any,.any,.any,.any,.any,.any,.any,.any,.any,.any,.any,.any,.any],[]⟩) (fun p=>p.1.2-p.1.1) ⟨(0,l.length),by simp,by simp,hr⟩ (St.le_of (by simp[leT]) (by simp[leH,hget])) ?_
 rintro ⟨⟨i,j⟩,h1,h2,h3⟩ Ψ hΨ hΨ'
 dsimp only at h1 h2 h3 hΨ ⊢
 rcases Nat.lt_or_ge i j with hlt|hge
 · have e1:(decide ((i:Int)<(j:Int)))=true:=by simpa using hlt
   obtain⟨y,hy⟩:∃y,l[(i+j)/2]? = some y:=⟨l[(i+j)/2],List.getElem?_eq_getElem (by omega)⟩
   have e2:=X3d hy
   have e8:ltA l a ((i+j)/2)=decide (cmpI y.a a<0):=by simp[ltA,ltP,hy]
   (have W:=ndI e1 (ndI e2 (ndI @wrI (ndI @wrU (ndI @half X5l))));(repeat(any_goals(first|((with_reducible refine Q0p ?_ ?_ ?_);rfl;rfl;intro K hK;((apply Q0k (Q6p y a);rfl;rfl;rfl;rfl;exact Tryz.func103);kernel_rfl;rfl;(focus((simp(disch:=omega) only[go_sem,W,Int.reduceToNat]);(try rfl);done));(first|rfl));(simp(disch:=omega) only[go_sem,W,Int.reduceToNat];refine hK _ ?_;clear hK K))|((with_reducible refine Q0d ?_ ?_);rfl;intro K hK;simp(disch:=omega) only[go_sem,W,Int.reduceToNat];((repeat(refine ndI (by first|assumption|omega|rfl) ?_));refine hK _ ?_;clear hK K))|(with_reducible first|(refine Q0c ?_;refine hR _ ?_;clear hR R)|((first|refine Q0e ?_|refine Q0g ?_);intro Ψ hΨ hΨ')|(refine Q0b ?_;intro R hR)|(refine hΨ _ ?_;clear hΨ hΨ' Ψ)|refine Q0h ?_)|((with_reducible refine hΨ' _ _ ?_ ?_);(focus(simp;done));clear hΨ hΨ' Ψ)|((with_reducible apply Q0f);rfl;rfl;all_goals(intro hc;first|(cases hc;done)|(try simp only at hc)))))))
   · exact hΨ _ ⟨((i+j)/2+1,j),by simp only;omega,h2,bsr_up hlt (by rw[e8];exact hc) h3⟩ (by simp only;omega) (St.le_of (by simp[leT]) (by simp[leH,hget]))
   · exact hΨ _ ⟨(i,(i+j)/2),by simp only;omega,by simp only;omega,bsr_dn hlt (by rw[e8];exact hc) h3⟩ (by simp only;omega) (St.le_of (by simp[leT]) (by simp[leH,hget]))
 · have e1:(decide ((i:Int)<(j:Int)))=false:=by simpa using hge
   obtain rfl:i=j:=by omega
   rw[Nat.sub_self] at h3
   obtain rfl:i=r:=h3
   rcases Nat.lt_or_ge i l.length with hlt|hge
   · have e3:(decide ((i:Int)<(l.length:Int)))=true:=by simpa using hlt
     obtain⟨y,hy⟩:∃y,l[i]? = some y:=⟨l[i],List.getElem?_eq_getElem hlt⟩
     have e2:=X3d hy
     (have W:=ndI e1 (ndI e2 e3);(repeat(any_goals(first|((with_reducible refine Q0d ?_ ?_);rfl;intro K hK;simp(disch:=omega) only[go_sem,W];((repeat(refine ndI (by first|assumption|rfl) ?_));refine hK _ ?_;clear hK K))|(with_reducible first|(refine Q0c ?_;refine hR _ ?_;clear hR R)|((first|refine Q0e ?_);intro Ψ hΨ hΨ')|(refine Q0b ?_;intro R hR)|(refine hΨ _ ?_;clear hΨ hΨ' Ψ)|refine Q0l ?_|refine Q0v ?_)|((with_reducible refine hΨ' _ _ ?_ ?_);(focus(simp;done));clear hΨ hΨ' Ψ)|((with_reducible apply Q1i);rfl;rfl;rfl;all_goals(intro hb;first|(cases hb;done)|((try simp only[Bool.not_true,Bool.not_false] at hb);(first|((with_reducible intro K hK);(first|((apply Q0k (Q6p y a);rfl;rfl;rfl;rfl;exact Tryz.func103);kernel_rfl;rfl;(focus((simp(disch:=omega) only[go_sem,W]);(try rfl);done));(first|rfl))|skip);simp(disch:=omega) only[go_sem,W];((repeat(refine ndI (by first|assumption|omega|rfl) ?_));refine hK _ ?_;clear hK K))))))|((with_reducible apply Q0f);rfl;rfl;all_goals(intro hc;first|(cases hc;done)|(try simp only at hc)))))))
     all_goals(refine⟨by simp,⟨_,?_,AV.le_refl _⟩,Q0i (by simp[leH,hget])⟩;simp only[Tryz.results102,resL,ldA,Q0z,go_sem])
     all_goals simp[eqA,eqP,hr,hy]
   · have e3:(decide ((i:Int)<(l.length:Int)))=false:=by simpa using hge
     have e4:l[i]? = none:=List.getElem?_eq_none hge
     (repeat(any_goals(first|((with_reducible refine Q0d ?_ ?_);rfl;intro K hK;simp(disch:=omega) only[go_sem,e1,e3];((repeat(refine ndI (by first|assumption|rfl) ?_));refine hK _ ?_;clear hK K))|(with_reducible first|(refine Q0c ?_;refine hR _ ?_;clear hR R)|((first|refine Q0e ?_);intro Ψ hΨ hΨ')|(refine Q0b ?_;intro R hR)|(refine hΨ _ ?_;clear hΨ hΨ' Ψ)|refine Q0l ?_|refine Q0v ?_)|((with_reducible refine hΨ' _ _ ?_ ?_);(focus(simp;done));clear hΨ hΨ' Ψ)|((with_reducible apply Q1i);rfl;rfl;rfl;all_goals(intro hb;first|(cases hb;done)|((try simp only[Bool.not_true,Bool.not_false] at hb);(first|((fail_if_success (with_reducible intro _));simp(disch:=omega) only[go_sem,e1,e3])))))|((with_reducible apply Q0f);rfl;rfl;all_goals(intro hc;first|(cases hc;done)|(try simp only at hc))))))
     all_goals(refine⟨by simp,⟨_,?_,AV.le_refl _⟩,Q0i (by simp[leH,hget])⟩;simp only[Tryz.results102,resL,ldA,Q0z,go_sem])
     all_goals simp[eqA,eqP,hr,e4]
theorem X0j(ex:Bool)(L:List Ac)(hl:L.length≤900)(a:Int):Fn Tryz.prog 87 [stA ex L,vi .u64 a] [] (.tup [vi .i64 (bsr (ltA L a) L.length 0 L.length:Nat),vb (eqA L a (bsr (ltA L a) L.length 0 L.length))]) []:=by
 (refine Q1c Tryz.func87 rfl (by rfl) ?_;simp only[Tryz.ntmps87,List.length_cons,List.length_nil,Nat.reduceAdd,Nat.reduceSub,List.replicate,List.cons_append,List.nil_append])
 (repeat(any_goals(first|((with_reducible refine Q0p ?_ ?_ ?_);rfl;rfl;intro K hK;((apply Q0k (bsfA_fn ex L (by omega) a);rfl;rfl;rfl;rfl;exact Tryz.func102);kernel_rfl;rfl;(focus((simp only[go_sem]);(try rfl);done));(first|rfl));(simp only[go_sem];refine hK _ ?_;clear hK K))|((with_reducible refine Q0d ?_ ?_);rfl;intro K hK;simp only[go_sem];((repeat(refine ndI (by first|assumption) ?_));refine hK _ ?_;clear hK K))|(with_reducible first|(refine Q0c ?_;refine hR _ ?_;clear hR R)|((first|refine Q0e ?_);intro Ψ hΨ hΨ')|(refine Q0b ?_;intro R hR)|(refine hΨ _ ?_;clear hΨ hΨ' Ψ)|refine Q0l ?_))))
 all_goals(refine⟨by simp,⟨_,?_,AV.le_refl _⟩,Q0i (by simp[leH,hget])⟩;simp only[Tryz.results87,resL,ldA,Q0z,go_sem])
end
section
open Go.RowKit
open Nat (reduceBEq)
set_option maxRecDepth 20000
set_option maxHeartbeats 2000000
def rcB(l:List Nat):List AV:=(l.flatMap bpv).map .c
theorem rcB_len(l:List Nat):(rcB l).length=l.length:=by unfold rcB;rw[List.length_map,Q1e X4g,Nat.mul_one]
def rcP(l:List Pr):List AV:=(l.flatMap Pr.pv).map .c
theorem rcP_len(l:List Pr):(rcP l).length=l.length*8:=by unfold rcP;rw[List.length_map,Q1e X4r]
theorem cloneB_fn(ex:Bool)(l:List Nat)(hl:l.length≤1000000):Fn Tryz.prog 104 [.c (.sl ex 1 l.length (l.flatMap bpv))] [] (.row 7 5 1 l.length) [(7,rcB l)]:=by
 have e1:=rcB_len l
 unfold rcB at e1 ⊢
 (refine Q1c Tryz.func104 rfl (by rfl) ?_;simp only[Tryz.ntmps104,List.length_cons,List.length_nil,Nat.reduceAdd,Nat.reduceSub,List.replicate,List.cons_append,List.nil_append])
 (repeat(any_goals(first|((have hz0:=hb0 hc);(with_reducible refine Q3p ?_ ?_);rfl;intro K hK;refine OpA.nilrow_after 2 7 5 1 (Q3z ?_);(simp(disch:=omega) only[go_sem,e1,Q0m,Nat.mul_one]);(repeat(refine And.intro (by first|assumption|rfl) ?_));refine hK _ ?_;clear hK K;clear hb0)|((with_reducible refine Q0d ?_ ?_);rfl;intro K hK;simp(disch:=omega) only[go_sem,e1,Q0m,Nat.mul_one];((repeat(refine ndI (by first|assumption|omega|rfl) ?_));refine hK _ ?_;clear hK K))|((with_reducible refine Q0d ?_ ?_);rfl;intro K hK;refine Q8x rfl rfl (by first|exact .inl rfl) ?_ rfl ?_;(focus(simp(disch:=omega) only[go_sem];try rfl));(intro b hb0;simp(disch:=omega) only[eq_self,go_sem,e1,Q0m,Nat.mul_one];(with_reducible refine hK _ ?_);clear hK K))|(with_reducible first|(refine Q0c ?_;refine hR _ ?_;clear hR R)|((first|refine Q0e ?_);intro Ψ hΨ hΨ')|(refine Q0b ?_;intro R hR)|(refine hΨ _ ?_;clear hΨ hΨ' Ψ)|refine Q0h ?_|refine Q0l ?_)|((with_reducible refine hΨ' _ _ ?_ ?_);(focus(simp;done));clear hΨ hΨ' Ψ)|((with_reducible apply Q0f);rfl;rfl;all_goals(intro hc;first|(try simp only at hc))))))
 all_goals(try(obtain rfl:=List.eq_nil_of_length_eq_zero hz0))
 all_goals exact⟨by simp,⟨_,rfl,AV.le_refl _⟩,Q0i (by simp[leH,hget])⟩
theorem cloneP_fn(ex:Bool)(l:List Pr)(hl:l.length≤1000000):Fn Tryz.prog 105 [.c (.sl ex 8 l.length (l.flatMap Pr.pv))] [] (.row 7 146 8 l.length) [(7,rcP l)]:=by
 have e1:=rcP_len l
 unfold rcP at e1 ⊢
 (refine Q1c Tryz.func105 rfl (by rfl) ?_;simp only[Tryz.ntmps105,List.length_cons,List.length_nil,Nat.reduceAdd,Nat.reduceSub,List.replicate,List.cons_append,List.nil_append])
 (repeat(any_goals(first|((have hz0:=hb0 hc);(with_reducible refine Q3p ?_ ?_);rfl;intro K hK;refine OpA.nilrow_after 2 7 146 8 (Q3z ?_);(simp(disch:=omega) only[go_sem,e1,Q0m]);(repeat(refine And.intro (by first|assumption|rfl) ?_));refine hK _ ?_;clear hK K;clear hb0)|((with_reducible refine Q0d ?_ ?_);rfl;intro K hK;simp(disch:=omega) only[go_sem,e1,Q0m];((repeat(refine ndI (by first|assumption|omega|rfl) ?_));refine hK _ ?_;clear hK K))|((with_reducible refine Q0d ?_ ?_);rfl;intro K hK;refine Q8x rfl rfl (by first|exact .inl rfl) ?_ rfl ?_;(focus(simp(disch:=omega) only[go_sem];try rfl));(intro b hb0;simp(disch:=omega) only[eq_self,go_sem,e1,Q0m];(with_reducible refine hK _ ?_);clear hK K))|(with_reducible first|(refine Q0c ?_;refine hR _ ?_;clear hR R)|((first|refine Q0e ?_);intro Ψ hΨ hΨ')|(refine Q0b ?_;intro R hR)|(refine hΨ _ ?_;clear hΨ hΨ' Ψ)|refine Q0h ?_|refine Q0l ?_)|((with_reducible refine hΨ' _ _ ?_ ?_);(focus(simp;done));clear hΨ hΨ' Ψ)|((with_reducible apply Q0f);rfl;rfl;all_goals(intro hc;first|(try simp only at hc))))))
 all_goals(try(obtain rfl:=List.eq_nil_of_length_eq_zero hz0))
 all_goals exact⟨by simp,⟨_,rfl,AV.le_refl _⟩,Q0i (by simp[leH,hget])⟩
theorem X6c(x:Ac)(hc:x.code.length≤1000000)(hs:x.store.length≤1000000):Fn Tryz.prog 88 [acA x] [] (.agg [vi .u64 x.a,vi .u64 (l0 x.b),vi .u64 (l1 x.b),vi .u64 (l2 x.b),vi .u64 (l3 x.b),vi .u64 x.n,.row 5 5 1 x.code.length,.row 8 146 8 x.store.length]) [(5,rcB x.code),(8,rcP x.store)]:=by
 have c1:=cloneB_fn false x.code hc
 have c2:=cloneP_fn false x.store hs
 obtain⟨a,b,n,code,store⟩:=x
 dsimp only at hc hs c1 c2 ⊢
 have r1:∀d,AV.refsL d ((code.flatMap bpv).map AV.c)=false:=fun d=>Q0m d _
 have r2:∀d,AV.refsL d ((store.flatMap Pr.pv).map AV.c)=false:=fun d=>Q0m d _
 have e1:((code.flatMap bpv).map AV.c).length=code.length:=by rw[List.length_map,Q1e X4g,Nat.mul_one]
 have e2:((store.flatMap Pr.pv).map AV.c).length=store.length*8:=by rw[List.length_map,Q1e X4r]
 unfold rcB at c1 ⊢
 unfold rcP at c2 ⊢
 (refine Q1c Tryz.func88 rfl (by rfl) ?_;simp only[Tryz.ntmps88,List.length_cons,List.length_nil,Nat.reduceAdd,Nat.reduceSub,List.replicate,List.cons_append,List.nil_append])
 (repeat(any_goals(first|((with_reducible refine Q0d ?_ ?_);rfl;intro K hK;simp only[go_sem];((repeat(refine ndI (by first|assumption) ?_));refine hK _ ?_;clear hK K))|(with_reducible first|(refine Q0c ?_;refine hR _ ?_;clear hR R)|((first|refine Q0e ?_);intro Ψ hΨ hΨ')|(refine Q0b ?_;intro R hR)|(refine hΨ _ ?_;clear hΨ hΨ' Ψ)))))
 refine X4b 10 (by decide) (by kernel_rfl) (by kernel_rfl) (by kernel_rfl) (by kernel_rfl) (by simp[Q0y,Q1z,St.free,Q1j,AV.refsL,AV.refs]) ?_
 intro R hR
 simp only[List.take_succ_cons,List.take_zero,List.drop_succ_cons,List.drop_zero] at hR ⊢
 (repeat(any_goals(first|(((with_reducible apply Q0u);rfl;rfl;(simp only[rdE,rdOf,go_sem];rfl);(intro τ hA hQ hN;((try simp only[Q1g,Op.operands,Call.operands,go_sem,List.mem_cons,List.not_mem_nil,forall_eq_or_imp,forall_eq,List.append_toArray,Option.toArray] at hA);(try simp only[go_sem,List.mem_cons,List.not_mem_nil,forall_eq_or_imp,forall_eq] at hQ hN);(first|(revert hA;intro hA));(first|(revert hQ;intro hQ));(first|(revert hN;intro hN));simp only[go_sem,hA,hQ,hN];(repeat(refine ndI (by first|assumption) ?_));(first|apply Q1d))));(simp only[St.eff,setO,Q0x,go_sem])))))
 refine Q7p c1 rfl rfl rfl rfl rfl Tryz.func104 (by kernel_rfl) rfl ?_ rfl (by omega) ?_
 · simp only[Q1f,Q1y,AV.ren,go_sem]
 simp only[St.eff,setO,Q0x,go_sem]
 (repeat(any_goals(first|(((with_reducible apply Q0u);rfl;rfl;(simp only[rdE,rdOf,go_sem,r1,r2];rfl);(intro τ hA hQ hN;((try simp only[Q1g,Op.operands,Call.operands,go_sem,r1,r2,go_sem,List.mem_cons,List.not_mem_nil,forall_eq_or_imp,forall_eq,List.append_toArray,Option.toArray] at hA);(try simp only[go_sem,r1,r2,List.mem_cons,List.not_mem_nil,forall_eq_or_imp,forall_eq] at hQ hN);(first|(revert hA;intro hA));(first|(revert hQ;intro hQ));(first|(revert hN;intro hN));simp only[go_sem,r1,r2,go_sem,hA,hQ,hN];(repeat(refine ndI (by first|assumption) ?_));(first|apply Q1d))));(simp only[St.eff,setO,Q0x,go_sem,r1,r2])))))
 refine Q7p c2 rfl rfl rfl rfl rfl Tryz.func105 (by kernel_rfl) rfl ?_ rfl (by omega) ?_
 · simp only[Q1f,Q1y,AV.ren,go_sem]
 simp only[St.eff,setO,Q0x,go_sem]
 (have W:=ndI r1 (ndI r2 (ndI e1 e2));(repeat(any_goals(first|((with_reducible refine Q0w ?_ ?_);(apply Q0t);(focus(repeat(first|exact Sims.nil|((apply Sims.cons);(focus(first|((apply Ef.sim_row);assumption)|exact Ef.sim_refl _))))));kernel_rfl;(with_reducible refine hR _ ?_);clear hR R)|(((with_reducible apply Q0u);rfl;rfl;(simp only[rdE,rdOf,go_sem,W];rfl);(intro τ hA hQ hN;((try simp only[Q1g,Op.operands,Call.operands,go_sem,W,go_sem,List.mem_cons,List.not_mem_nil,forall_eq_or_imp,forall_eq,List.append_toArray,Option.toArray] at hA);(try simp only[go_sem,W,List.mem_cons,List.not_mem_nil,forall_eq_or_imp,forall_eq] at hQ hN);(first|(revert hA;intro hA));(first|(revert hQ;intro hQ));(first|(revert hN;intro hN));simp only[go_sem,W,go_sem,hA,hQ,hN];(repeat(refine ndI (by first|assumption) ?_));(first|apply Q1d|apply Q2o))));(simp only[St.eff,setO,Q0x,go_sem,W]))))))
 refine Q0c ?_
 (repeat(any_goals(first|((with_reducible refine Q0d ?_ ?_);rfl;intro K hK;simp only[go_sem,r1,r2];((repeat(refine ndI (by first|assumption) ?_));refine hK _ ?_;clear hK K))|(with_reducible first|(refine Q0c ?_;refine hR _ ?_;clear hR R)|((first|refine Q0e ?_);intro Ψ hΨ hΨ')|(refine Q0b ?_;intro R hR)|(refine hΨ _ ?_;clear hΨ hΨ' Ψ)|refine Q0l ?_))))
 all_goals(refine⟨by simp,⟨_,?_,AV.le_refl _⟩,Q0i (by simp[leH,hget])⟩;simp only[Tryz.results88,resL,ldA,Q0z,go_sem])
end
section
open Go.RowKit
open Nat (reduceBEq)
set_option maxRecDepth 20000
set_option maxHeartbeats 2000000
def posS(L:List Ac)(a:Int):Nat:=bsr (ltA L a) L.length 0 L.length
def isS(L:List Ac)(a:Int):Bool:=eqA L a (posS L a)
theorem isS_at{L:List Ac}{a:Int}(h:isS L a=true):∃x,L[posS L a]? = some x∧x.a=a:=by
 unfold isS eqA at h
 cases hx:L[posS L a]? with
 |none=>rw[hx] at h;cases h
 |some x=>
  rw[hx] at h
  refine⟨x,rfl,?_⟩
  simp only[cmpI,beq_iff_eq] at h
  split at h
  · cases h
  · split at h
    · cases h
    · omega
def ofS(L:List Ac)(a:Int):Ac:=if isS L a then(L[posS L a]?).getD ⟨a,0,0,[],[]⟩ else⟨a,0,0,[],[]⟩
theorem posS_fn(ex:Bool)(L:List Ac)(hl:L.length≤900)(a:Int):Fn Tryz.prog 87 [stA ex L,vi .u64 a] [] (.tup [vi .i64 (posS L a:Nat),vb (isS L a)]) []:=X0j ex L hl a
abbrev acR(x:Ac)(r s:Nat):AV:=.agg [vi .u64 x.a,vi .u64 (l0 x.b),vi .u64 (l1 x.b),vi .u64 (l2 x.b),vi .u64 (l3 x.b),vi .u64 x.n,.row r 5 1 x.code.length,.row s 146 8 x.store.length]
theorem of_row(ex:Bool)(L:List Ac)(hl:L.length≤900)(ok:∀x∈L,x.code.length≤1000000∧x.store.length≤1000000)(a:Int)(h:isS L a=true):Fn Tryz.prog 67 [stA ex L,vi .u64 a] [] (acR (ofS L a) 5 8) [(5,rcB (ofS L a).code),(8,rcP (ofS L a).store)]:=by
 have pl:=posS_fn ex L hl a
 obtain⟨x,hx,rfl⟩:=isS_at h
 have hof:ofS L x.a=x:=by unfold ofS;rw[if_pos h,hx];rfl
 rw[hof]
 rw[h] at pl
 generalize posS L x.a=p at pl hx
 have hp:=(List.getElem?_eq_some_iff.1 hx).1
 have k2:=X3d hx
 obtain⟨g1,g2⟩:=ok x (List.mem_of_getElem? hx)
 have cp:=X6c x g1 g2
 unfold rcB rcP at cp ⊢
 (refine Q1c Tryz.func67 rfl (by rfl) ?_;simp only[Tryz.ntmps67,List.length_cons,List.length_nil,Nat.reduceAdd,Nat.reduceSub,List.replicate,List.cons_append,List.nil_append])
 (repeat(any_goals(first|((with_reducible refine Q0p ?_ ?_ ?_);rfl;rfl;intro K hK;(first|((apply Q0k (pl);rfl;rfl;rfl;rfl;exact Tryz.func87);kernel_rfl;rfl;(focus((simp(disch:=omega) only[go_sem,k2,Q0m]);(try rfl);done));(first|rfl))|(apply Q1b (cp) (fun r=>r);rfl;rfl;rfl;rfl;exact Tryz.func88;kernel_rfl;rfl;rfl;(intro r hr q hq h;simp(disch:=omega) only[List.map_cons,List.map_nil,List.cons_append,List.nil_append,List.mem_cons,List.not_mem_nil,or_false] at hr hq;(try dsimp only at h);first|omega);(simp(disch:=omega) only[Q1f,Q1y,AV.ren,AV.renL,Q0q,List.mem_cons,List.not_mem_nil,forall_eq_or_imp,forall_eq,Q1t,List.contains_cons,List.contains_nil,AV.refsL,AV.refs,Q0m,AV.inN,AV.inNL,inH,Q1a,go_sem,k2,Q0m])));(simp(disch:=omega) only[Q0x,Q2c,renH,AV.ren,AV.renL,Q0q,go_sem,k2,Q0m];refine hK _ ?_;clear hK K))|((with_reducible refine Q0d ?_ ?_);rfl;intro K hK;simp(disch:=omega) only[go_sem,k2,Q0m];((repeat(refine ndI (by first|assumption|omega|rfl) ?_));refine hK _ ?_;clear hK K))|(with_reducible first|(refine Q0c ?_;refine hR _ ?_;clear hR R)|((first|refine Q0e ?_);intro Ψ hΨ hΨ')|(refine Q0b ?_;intro R hR)|(refine hΨ _ ?_;clear hΨ hΨ' Ψ)|refine Q0l ?_)|((with_reducible refine hΨ' _ _ ?_ ?_);(focus(simp;done));clear hΨ hΨ' Ψ)|((with_reducible apply Q0f);rfl;rfl;all_goals(intro hc;first|(cases hc;done)|(try simp only at hc))))))
 all_goals(refine⟨by simp,⟨_,?_,AV.le_refl _⟩,Q0i (by simp[leH,hget])⟩;simp only[Tryz.results67,resL,ldA,Q0z,go_sem])
theorem of_nil(ex:Bool)(L:List Ac)(hl:L.length≤900)(a:Int)(h:isS L a=false):Fn Tryz.prog 67 [stA ex L,vi .u64 a] [] (.agg [vi .u64 a,vi .u64 0,vi .u64 0,vi .u64 0,vi .u64 0,vi .u64 0,.c (.v (.slice none 0 0)),.c (.v (.slice none 0 0))]) []:=by
 have pl:=posS_fn ex L hl a
 rw[h] at pl
 generalize posS L a=p at pl
 (refine Q1c Tryz.func67 rfl (by rfl) ?_;simp only[Tryz.ntmps67,List.length_cons,List.length_nil,Nat.reduceAdd,Nat.reduceSub,List.replicate,List.cons_append,List.nil_append])
 (repeat(any_goals(first|((with_reducible refine Q0p ?_ ?_ ?_);rfl;rfl;intro K hK;((apply Q0k (pl);rfl;rfl;rfl;rfl;exact Tryz.func87);kernel_rfl;rfl;(focus((simp only[go_sem]);(try rfl);done));(first|rfl));(simp only[go_sem];refine hK _ ?_;clear hK K))|((with_reducible refine Q0d ?_ ?_);rfl;intro K hK;simp only[go_sem];((repeat(refine ndI (by first|assumption) ?_));refine hK _ ?_;clear hK K))|(with_reducible first|(refine Q0c ?_;refine hR _ ?_;clear hR R)|((first|refine Q0e ?_);intro Ψ hΨ hΨ')|(refine Q0b ?_;intro R hR)|(refine hΨ _ ?_;clear hΨ hΨ' Ψ)|refine Q0h ?_|refine Q0l ?_)|((with_reducible apply Q0f);rfl;rfl;all_goals(intro hc;first|(cases hc;done)|(try simp only at hc))))))
 all_goals(refine⟨by simp,⟨_,?_,AV.le_refl _⟩,Q0i (by simp[leH,hget])⟩;simp only[Tryz.results67,resL,ldA,Q0z,go_sem])
theorem of_none(ex:Bool)(L:List Ac)(hl:L.length≤900)(a:Int)(h:isS L a=false):Fn Tryz.prog 67 [stA ex L,vi .u64 a] [] (acA (ofS L a)) []:=by
 have hof:ofS L a=⟨a,0,0,[],[]⟩:=by unfold ofS;rw[h];rfl
 rw[hof]
 have z:=AV.le_agg (a:=[vi .u64 a,vi .u64 0,vi .u64 0,vi .u64 0,vi .u64 0,vi .u64 0,.c (.v (.slice none 0 0)),.c (.v (.slice none 0 0))]) (b:=ac8 a 0 0 (bsV []) (psV [])) ⟨AV.le_refl _,AV.le_of (by rw[Q3w]),AV.le_of (by rw[Q3v]),AV.le_of (by rw[Q3u]),AV.le_of (by rw[Q3t]),AV.le_refl _,AV.le_nil _ _,AV.le_nil _ _,trivial⟩
 exact(of_nil ex L hl a h).weaken z fun r cs h=>by cases h
theorem of_fn(ex:Bool)(L:List Ac)(hl:L.length≤900)(ok:∀x∈L,x.code.length≤1000000∧x.store.length≤1000000)(a:Int):Fn Tryz.prog 67 [stA ex L,vi .u64 a] [] (acA (ofS L a)) []:=by
 cases h:isS L a with
 |false=>exact of_none ex L hl a h
 |true=>
  have k:=of_row ex L hl ok a h
  generalize ofS L a=x at k ⊢
  have k1:=k.frzN (d:=5) (pcs:=x.code.flatMap bpv) rfl
  have k2:=k1.frzN (d:=8) (pcs:=x.store.flatMap Pr.pv) (by simp[frzH,Q2y,rcP,rcB])
  have e1:(x.code.flatMap bpv).length=x.code.length*1:=Q1e X4g _
  have e2:(x.store.flatMap Pr.pv).length=x.store.length*8:=Q1e X4r _
  simpa [-List.length_flatMap,e1,e2,ac8,AV.frz,AV.frzL,frzH,acA,vi,bsV,psV] using k2
def Okl(L:List Ac):Prop:=L.length≤800∧∀x∈L,x.ok∧x.code.length≤1000000∧x.store.length≤1000000
def Okx(x:Ac):Prop:=x.ok∧x.code.length≤1000000∧x.store.length≤1000000
end
section
open Go.RowKit
set_option maxRecDepth 20000
set_option maxHeartbeats 2000000
theorem X4t{L:List Ac}(h:Okl L):∀x∈L,x.fine:=fun x hx=>⟨(h.2 x hx).1,Nat.le_trans (Nat.add_le_add (h.2 x hx).2.1 (h.2 x hx).2.2) (by decide)⟩
theorem X0p{a:Int}(ha:U a):Okx ⟨a,0,0,[],[]⟩:=
 ⟨⟨ha,(by decide:0<WW),⟨Int.le_refl 0,by show(0:Int)≤_;decide⟩,⟨Nat.zero_le _,fun c h=>by cases h⟩,Nat.zero_le _,fun c h=>by cases h⟩,Nat.zero_le _,Nat.zero_le _⟩
theorem okx_of{L:List Ac}(hL:Okl L){a:Int}(ha:U a):Okx (ofS L a):=by
 unfold ofS
 split
 · cases hx:L[posS L a]? with
   |none=>exact X0p ha
   |some x=>exact hL.2 x (List.mem_of_getElem? hx)
 · exact X0p ha
end
section
open Go.RowKit
open Nat (reduceBEq)
set_option maxRecDepth 20000
set_option maxHeartbeats 2000000
def X1k(L:List Ac):Nat:=if okSt L then(L.map Ac.b).sum%WW else 0
theorem totalS_fn(ex:Bool)(L:List Ac)(hL:Okl L):Fn Tryz.prog 40 [stA ex L] [] (wN (X1k L)) []:=by
 have ck:=Q9a ex L (by have:=hL.1;omega) (X4t hL)
 have tn:=X1j ex L (by have:=hL.1;omega) fun y hy=>(hL.2 y hy).1.2.1
 unfold X1k
 generalize okSt L=q at ck ⊢
 generalize (L.map Ac.b).sum%WW=m at tn ⊢
 generalize decide (WW≤(L.map Ac.b).sum)=q2 at tn
 cases q
 all_goals simp only[Bool.false_eq_true,if_true,if_false] at ck ⊢
 all_goals(refine Q1c Tryz.func40 rfl (by rfl) ?_;simp only[Tryz.ntmps40,List.length_cons,List.length_nil,Nat.reduceAdd,Nat.reduceSub,List.replicate,List.cons_append,List.nil_append])
 all_goals(repeat(any_goals(first|((with_reducible refine Q0p ?_ ?_ ?_);rfl;rfl;intro K hK;((first|(apply Q0k (ck);rfl;rfl;rfl;rfl;exact Tryz.func58)|(apply Q0k (tn);rfl;rfl;rfl;rfl;exact Tryz.func59));kernel_rfl;rfl;(focus((simp only[go_sem]);(try rfl);done));(first|rfl));(simp only[go_sem];refine hK _ ?_;clear hK K))|((with_reducible refine Q0d ?_ ?_);rfl;intro K hK;simp only[go_sem];((repeat(refine ndI (by first|assumption) ?_));refine hK _ ?_;clear hK K))|(with_reducible first|(refine Q0c ?_;refine hR _ ?_;clear hR R)|((first|refine Q0e ?_);intro Ψ hΨ hΨ')|(refine Q0b ?_;intro R hR)|(refine hΨ _ ?_;clear hΨ hΨ' Ψ)|refine Q0h ?_|refine Q0l ?_)|((with_reducible refine hΨ' _ _ ?_ ?_);(focus(simp;done));clear hΨ hΨ' Ψ)|((with_reducible apply Q0f);rfl;rfl;all_goals(intro hc;first|(cases hc;done)|(try simp only at hc))))))
 all_goals(refine⟨by simp,⟨_,?_,AV.le_refl _⟩,Q0i (by simp[leH,hget])⟩;simp only[Tryz.results40,resL,ldA,Q0z,go_sem])
 all_goals simp only[wN,Q3w,Q3v,Q3u,Q3t]
def OfS(L:List Ac)(a:Int):Ac:=if okSt L then ofS L a else⟨a,0,0,[],[]⟩
theorem OfS_fn(ex:Bool)(L:List Ac)(hL:Okl L)(a:Int):Fn Tryz.prog 55 [stA ex L,vi .u64 a] [] (acA (OfS L a)) []:=by
 have ck:=Q9a ex L (by have:=hL.1;omega) (X4t hL)
 have of:=of_fn ex L (by have:=hL.1;omega) (fun y hy=>⟨(hL.2 y hy).2.1,(hL.2 y hy).2.2⟩) a
 unfold OfS
 generalize ofS L a=x at of ⊢
 generalize okSt L=q at ck ⊢
 cases q
 · simp only[Bool.false_eq_true,if_false] at ck ⊢
   have z:=AV.le_agg (a:=[vi .u64 a,vi .u64 0,vi .u64 0,vi .u64 0,vi .u64 0,vi .u64 0,.c (.v (.slice none 0 0)),.c (.v (.slice none 0 0))]) (b:=ac8 a 0 0 (bsV []) (psV [])) ⟨AV.le_refl _,AV.le_of (by rw[Q3w]),AV.le_of (by rw[Q3v]),AV.le_of (by rw[Q3u]),AV.le_of (by rw[Q3t]),AV.le_refl _,AV.le_nil _ _,AV.le_nil _ _,trivial⟩
   have k:Fn Tryz.prog 55 [stA ex L,vi .u64 a] [] (.agg [vi .u64 a,vi .u64 0,vi .u64 0,vi .u64 0,vi .u64 0,vi .u64 0,.c (.v (.slice none 0 0)),.c (.v (.slice none 0 0))]) []:=by
    (refine Q1c Tryz.func55 rfl (by rfl) ?_;simp only[Tryz.ntmps55,List.length_cons,List.length_nil,Nat.reduceAdd,Nat.reduceSub,List.replicate,List.cons_append,List.nil_append])
    (repeat(any_goals(first|((with_reducible refine Q0p ?_ ?_ ?_);rfl;rfl;intro K hK;((apply Q0k (ck);rfl;rfl;rfl;rfl;exact Tryz.func58);kernel_rfl;rfl;(focus((simp only[go_sem]);(try rfl);done));(first|rfl));(simp only[go_sem];refine hK _ ?_;clear hK K))|((with_reducible refine Q0d ?_ ?_);rfl;intro K hK;simp only[go_sem];((repeat(refine ndI (by first|assumption) ?_));refine hK _ ?_;clear hK K))|(with_reducible first|(refine Q0c ?_;refine hR _ ?_;clear hR R)|((first|refine Q0e ?_);intro Ψ hΨ hΨ')|(refine Q0b ?_;intro R hR)|(refine hΨ _ ?_;clear hΨ hΨ' Ψ)|refine Q0l ?_)|((with_reducible refine hΨ' _ _ ?_ ?_);(focus(simp;done));clear hΨ hΨ' Ψ)|((with_reducible apply Q0f);rfl;rfl;all_goals(intro hc;first|(cases hc;done)|(try simp only at hc))))))
    all_goals(refine⟨by simp,⟨_,?_,AV.le_refl _⟩,Q0i (by simp[leH,hget])⟩;simp only[Tryz.results55,resL,ldA,Q0z,go_sem])
   exact k.weaken z fun r cs h=>by cases h
 · simp only[if_true] at ck ⊢
   (refine Q1c Tryz.func55 rfl (by rfl) ?_;simp only[Tryz.ntmps55,List.length_cons,List.length_nil,Nat.reduceAdd,Nat.reduceSub,List.replicate,List.cons_append,List.nil_append])
   (repeat(any_goals(first|((with_reducible refine Q0p ?_ ?_ ?_);rfl;rfl;intro K hK;((first|(apply Q0k (ck);rfl;rfl;rfl;rfl;exact Tryz.func58)|(apply Q0k (of);rfl;rfl;rfl;rfl;exact Tryz.func67));kernel_rfl;rfl;(focus((simp only[go_sem]);(try rfl);done));(first|rfl));(simp only[go_sem];refine hK _ ?_;clear hK K))|((with_reducible refine Q0d ?_ ?_);rfl;intro K hK;simp only[go_sem];((repeat(refine ndI (by first|assumption) ?_));refine hK _ ?_;clear hK K))|(with_reducible first|(refine Q0c ?_;refine hR _ ?_;clear hR R)|((first|refine Q0e ?_);intro Ψ hΨ hΨ')|(refine Q0b ?_;intro R hR)|(refine hΨ _ ?_;clear hΨ hΨ' Ψ)|refine Q0h ?_|refine Q0l ?_)|((with_reducible apply Q0f);rfl;rfl;all_goals(intro hc;first|(cases hc;done)|(try simp only at hc))))))
   all_goals(refine⟨by simp,⟨_,?_,AV.le_refl _⟩,Q0i (by simp[leH,hget])⟩;simp only[Tryz.results55,resL,ldA,Q0z,go_sem])
theorem OfS_ok{L:List Ac}(hL:Okl L){a:Int}(ha:U a):Okx (OfS L a):=by
 unfold OfS
 split
 · exact okx_of hL ha
 · exact X0p ha
end
end Go.Proofs.YtbmcdemnnbndeaaGreat
