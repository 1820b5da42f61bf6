/-
  Receipts in memory of their own; reckoned.
-/
import Derived.Test.YtbmcdemnnbndeaaNc
import Derived.Test.YtbmcdemnnbndeaaAvW
import Derived.Test.YtbmcdemnnbndeaaAvI
import Derived.Test.YtbmcdemnnbndeaaPqf
namespace Go.Proofs.Ytbmcdemnnbndeaa
set_option linter.unusedSimpArgs false
set_option linter.unusedVariables false
namespace nz
open Go.RowKit
open Nat (reduceBEq)
set_option maxRecDepth 20000
set_option maxHeartbeats 1000000
theorem cmpor_fn(x y:Int):Fn Try.prog 90 [.c (.sl false 1 2 [.v (.int .i64 x),.v (.int .i64 y)])] [] (vi .i64 (if x=0 then y else x)) []:=by
 (refine Q1q Try.func90 rfl (by rfl) ?_;simp only[Try.ntmps90,List.length_cons,List.length_nil,Nat.reduceAdd,Nat.reduceSub,List.replicate,List.cons_append,List.nil_append])
 (repeat(any_goals(first|((with_reducible refine Q0g ?_ ?_);rfl;intro K hK;simp(disch:=omega) only[go_sem,wrI,Int.reduceAdd];((repeat(refine ndI (by first|assumption|omega|rfl) ?_));refine hK _ ?_;clear hK K))|(with_reducible first|(refine Q0i ?_;refine hR _ ?_;clear hR R)|((first|refine Q0h ?_|refine Q0c ?_);intro Ψ hΨ hΨ')|(refine Q0b ?_;intro R hR)|(refine hΨ _ ?_;clear hΨ hΨ' Ψ)|refine Q0d ?_|refine Q0j ?_|refine Q0e ?_)|((with_reducible refine hΨ' _ _ ?_ ?_);(focus(simp;done));clear hΨ hΨ' Ψ)|((with_reducible apply Q0f);rfl;rfl;all_goals(intro hc;first|(cases hc;done)|(try simp only at hc)))|(with_reducible refine Q3u 3 ?_)|((with_reducible refine Q4z ?_);intro Ψ hΨ hΨ'))))
 all_goals(refine⟨by simp,⟨_,?_,AV.le_refl _⟩,Q0y (by simp[leH,hget])⟩;simp only[Try.results90,resL,ldA,Q1o,go_sem])
 all_goals simp_all
def cmpW(a b c d e f g h:Int):Int:=if d<h then -1 else if h<d then 1 else if c<g then -1 else if g<c then 1 else if b<f then -1 else if f<b then 1 else if a<e then -1 else if e<a then 1 else 0
abbrev n6(a b c d e x:Int):AV:=.agg [vi .u64 a,vi .u64 b,vi .u64 c,vi .u64 d,vi .u64 e,vi .u64 x]
abbrev k5(a b c d e:Int):AV:=.agg [vi .u64 a,vi .u64 b,vi .u64 c,vi .u64 d,vi .u64 e]
theorem X3l(a b c d e x a' b' c' d' e':Int):Fn Try.prog 76 [n6 a b c d e x,k5 a' b' c' d' e'] [] (vi .i64 (if cmpI a a'=0 then cmpW b c d e b' c' d' e' else cmpI a a')) []:=by
 (refine Q1q Try.func76 rfl (by rfl) ?_;simp only[Try.ntmps76,List.length_cons,List.length_nil,Nat.reduceAdd,Nat.reduceSub,List.replicate,List.cons_append,List.nil_append])
 (repeat(any_goals(first|((with_reducible refine Q0g ?_ ?_);rfl;intro K hK;simp only[go_sem];((repeat(refine ndI (by first|assumption|omega|rfl) ?_));refine hK _ ?_;clear hK K))|(with_reducible first|(refine Q0i ?_;refine hR _ ?_;clear hR R)|((first|refine Q0h ?_|refine Q0c ?_);intro Ψ hΨ hΨ')|(refine Q0b ?_;intro R hR)|(refine hΨ _ ?_;clear hΨ hΨ' Ψ)|refine Q0d ?_|refine Q0j ?_|refine Q0e ?_)|((with_reducible refine hΨ' _ _ ?_ ?_);(focus(simp;done));clear hΨ hΨ' Ψ)|((with_reducible apply Q0f);rfl;rfl;all_goals(intro hc;first|(cases hc;done)|(try simp only at hc)))|((with_reducible refine Q0t ?_ ?_);kernel_rfl;(with_reducible refine hR _ ?_);clear hR R)|((first|((with_reducible apply Q1m);rfl;rfl;(first|((first|(apply Q1g (Q7n _ _);rfl;rfl;rfl;rfl;exact Try.func91)|(apply Q1g (wcmp_fn _ _ _ _ _ _ _ _);rfl;rfl;rfl;rfl;exact Try.func32));kernel_rfl;rfl;(focus((simp only[go_sem]);(try rfl);done));(first|rfl|simp[AV.inNL,AV.inN]))|((apply X1t (cmpor_fn _ _);rfl;rfl;rfl;rfl;exact Try.func90);kernel_rfl;rfl;(focus((simp only[AV.viewL,AV.view,Q3w,unC,Option.map_some,go_sem]);(try rfl)));rfl;(simp only[AV.rowsL,AV.rows,go_sem];rfl))))|((with_reducible apply Q0u);rfl;rfl;(simp only[rdE,rdOf,go_sem];rfl);(intro τ hA hQ hN;((try simp only[Q1h,Op.operands,Call.operands,go_sem,List.mem_cons,List.not_mem_nil,forall_eq_or_imp,forall_eq,List.append_toArray,Option.toArray] at hA);(try simp only[go_sem,List.mem_cons,List.not_mem_nil,forall_eq_or_imp,forall_eq] at hQ hN);(first|(revert hA;intro hA)|have hA:=trivial);(first|(revert hQ;intro hQ)|have hQ:=trivial);(first|(revert hN;intro hN)|have hN:=trivial);simp only[go_sem,hA,hQ,hN];(repeat(refine ndI (by first|assumption|omega|rfl) ?_));(first|apply Q1b|apply Q1a|apply Q0w))))|((first|((with_reducible apply Q2l);rfl;rfl;rfl)|((with_reducible apply Q1r);rfl;rfl;rfl;rfl;rfl;rfl));(intro τ hA hQ hN;((try simp only[Q1h,Op.operands,Call.operands,go_sem,List.mem_cons,List.not_mem_nil,forall_eq_or_imp,forall_eq,List.append_toArray,Option.toArray] at hA);(try simp only[go_sem,List.mem_cons,List.not_mem_nil,forall_eq_or_imp,forall_eq] at hQ);(first|(revert hA;intro hA)|have hA:=trivial);(first|(revert hQ;intro hQ)|have hQ:=trivial);simp only[go_sem,hA,hQ,hN];(repeat(refine ndI (by first|assumption|omega|rfl) ?_));exact Q0w _ _ _ _))));(simp only[St.eff,setO,Q0q,go_sem]))|((with_reducible refine Q0p ?_ ?_ ?_ ?_);kernel_rfl;kernel_rfl;(first|kernel_rfl|simp[Q0m,Q1j,St.free,Q1i,AV.refsL,AV.refs]);intro R hR))))
 all_goals(refine⟨by simp,⟨_,?_,AV.le_refl _⟩,Q0y (by simp[leH,hget])⟩;simp only[Try.results76,resL,ldA,Q1o,go_sem])
 all_goals simp_all [cmpW]
end nz
namespace nz
open Go.RowKit
open Nat (reduceBEq)
set_option maxRecDepth 20000
set_option maxHeartbeats 1000000
structure N6 where
 a:Int
 b:Int
 c:Int
 d:Int
 e:Int
 x:Int
def N6.pv(n:N6):List PV:=[.v (.int .u64 n.a),.v (.int .u64 n.b),.v (.int .u64 n.c),.v (.int .u64 n.d),.v (.int .u64 n.e),.v (.int .u64 n.x)]
theorem pv_len(n:N6):n.pv.length=6:=rfl
abbrev nsl(ex:Bool)(l:List N6):AV:=.c (.sl ex 6 l.length (l.flatMap N6.pv))
theorem nsl_at{l:List N6}{i:Nat}{y:N6}(h:l[i]? = some y):((l.flatMap N6.pv).drop (i*6)).take 6=[.v (.int .u64 y.a),.v (.int .u64 y.b),.v (.int .u64 y.c),.v (.int .u64 y.d),.v (.int .u64 y.e),.v (.int .u64 y.x)]:=Q4y pv_len h
def cN(z y:N6):Int:=if cmpI z.a y.a=0 then cmpW z.b z.c z.d z.e y.b y.c y.d y.e else cmpI z.a y.a
def okS(l:List N6)(i:Nat):Bool:=match l[i]? with
 |some y=>(y.a != 0)&&(y.e==0)&&decide (y.x>0)&&(i==0||match l[i-1]? with|some z=>decide (cN z y<0)|none=>false)
 |none=>false
def okTo(l:List N6):Nat→Bool
 |0=>decide ((l.length:Int)≤48)
 |i+1=>okTo l i&&okS l i
theorem check_fn(ex:Bool)(l:List N6)(hl:l.length≤4611686018427387904):Fn Try.prog 56 [nsl ex l] [] (vi .i64 (if okTo l l.length then 0 else 180)) []:=by
 (refine Q1q Try.func56 rfl (by rfl) ?_;simp only[Try.ntmps56,List.length_cons,List.length_nil,Nat.reduceAdd,Nat.reduceSub,List.replicate,List.cons_append,List.nil_append])
 (repeat(any_goals(first|((with_reducible refine Q0g ?_ ?_);rfl;intro K hK;simp only[go_sem];((repeat(refine ndI (by first|assumption|omega|rfl) ?_));refine hK _ ?_;clear hK K))|(with_reducible first|(refine Q0i ?_;refine hR _ ?_;clear hR R)|((first|refine Q0h ?_|refine Q0c ?_);intro Ψ hΨ hΨ')|(refine Q0b ?_;intro R hR)|(refine hΨ _ ?_;clear hΨ hΨ' Ψ)|refine Q0d ?_|refine Q0j ?_|refine Q0e ?_)|((with_reducible refine hΨ' _ _ ?_ ?_);(focus(simp;done));clear hΨ hΨ' Ψ)|((with_reducible apply Q0f);rfl;rfl;all_goals(intro hc;first|(cases hc;done)|(try simp only at hc)))|((with_reducible refine Q0t ?_ ?_);kernel_rfl;(with_reducible refine hR _ ?_);clear hR R)|((first|((with_reducible apply Q0r);rfl;rfl;rfl;rfl)|((with_reducible apply Q0n);rfl;rfl;rfl)|((first|((with_reducible apply Q0u);rfl;rfl)|((with_reducible apply Q0s);rfl;rfl;rfl;rfl;rfl));(simp only[rdE,rdOf,go_sem];rfl);(intro τ hA hQ hN;((try simp only[Q1h,Op.operands,Call.operands,go_sem,List.mem_cons,List.not_mem_nil,forall_eq_or_imp,forall_eq,List.append_toArray,Option.toArray] at hA);(try simp only[go_sem,List.mem_cons,List.not_mem_nil,forall_eq_or_imp,forall_eq] at hQ hN);(first|(revert hA;intro hA)|have hA:=trivial);(first|(revert hQ;intro hQ)|have hQ:=trivial);(first|(revert hN;intro hN)|have hN:=trivial);simp only[go_sem,hA,hQ,hN];(repeat(refine ndI (by first|assumption|omega|rfl) ?_));(first|apply Q1b|apply Q1a|apply Q0w)))));(simp only[St.eff,setO,Q0q,go_sem]))|((with_reducible apply Q0o);rfl;rfl;rfl;all_goals intro hb;all_goals(simp only[St.eff,setO,Q0q,go_sem]))|((with_reducible refine Q0p ?_ ?_ ?_ ?_);kernel_rfl;kernel_rfl;(first|kernel_rfl|simp[Q0m,Q1j,St.free,Q1i,AV.refsL,AV.refs]);intro R hR))))
 refine Q5a l.length (fun i=>⟨[nsl ex l,.any,.any,vb (okTo l i),.any,.any,.any,.any,.any,.any,nsl ex l,vi .i64 l.length,vi .i64 i,.any,.any,.any,.any,.any,.any,.any,.any,.any,.any,.any,.any,.any,.any,.any,.any,.any,.any,.any,.any,.any,.any,.any,.any,.any,.any,.any,.any,.any,.any,.any,.any,.any,.any,.any,.any],[]⟩) (St.le_of (by simp[leT,okTo]) (by simp[leH])) ?_
 intro i hi Ψ hΨ hΨ'
 rcases Nat.lt_or_ge i l.length with hlt|hge
 · obtain⟨y,hy⟩:∃y,l[i]? = some y:=⟨l[i],List.getElem?_eq_getElem hlt⟩
   have e1:(decide ((i:Int)<(l.length:Int)))=true:=by simpa using hlt
   have e2:=nsl_at hy
   dsimp only at hΨ ⊢
   rw[show okTo l (i+1)=(okTo l i&&okS l i) from rfl] at hΨ
   generalize okTo l i=b at hΨ ⊢
   rcases i with _|j
   · simp only[Nat.zero_mul,List.drop_zero] at e2
     rw[show okS l 0=((y.a != 0)&&(y.e==0)&&decide (y.x>0)) by simp[okS,hy]] at hΨ
     (repeat(any_goals(first|((with_reducible refine Q0g ?_ ?_);rfl;intro K hK;simp(disch:=omega) only[go_sem,e1,e2];((repeat(refine ndI (by first|assumption|omega|rfl) ?_));refine hK _ ?_;clear hK K))|(with_reducible first|(refine Q0i ?_;refine hR _ ?_;clear hR R)|((first|refine Q0h ?_|refine Q0c ?_);intro Ψ hΨ hΨ')|(refine Q0b ?_;intro R hR)|(refine hΨ _ ?_;clear hΨ hΨ' Ψ)|refine Q0d ?_|refine Q0j ?_|refine Q0e ?_)|((with_reducible refine hΨ' _ _ ?_ ?_);(focus(simp;done));clear hΨ hΨ' Ψ)|((with_reducible apply Q0f);rfl;rfl;all_goals(intro hc;first|(cases hc;done)|(try simp only at hc)))|((with_reducible refine Q0t ?_ ?_);kernel_rfl;(with_reducible refine hR _ ?_);clear hR R)|((first|((with_reducible apply Q0r);rfl;rfl;rfl;rfl)|((with_reducible apply Q0n);rfl;rfl;rfl)|((first|((with_reducible apply Q1m);rfl;rfl)|((with_reducible apply Q1p);rfl;rfl;rfl;rfl;rfl));((apply Q1g (Q7z _ _ _ _ _);rfl;rfl;rfl;rfl;exact Try.func75);kernel_rfl;rfl;(focus((simp(disch:=omega) only[go_sem,e1,e2]);(try rfl);done));(first|rfl|simp[AV.inNL,AV.inN])))|((first|((with_reducible apply Q0u);rfl;rfl)|((with_reducible apply Q0s);rfl;rfl;rfl;rfl;rfl));(simp(disch:=omega) only[rdE,rdOf,go_sem,e1,e2];rfl);(intro τ hA hQ hN;((try simp only[Q1h,Op.operands,Call.operands,go_sem,e1,e2,go_sem,List.mem_cons,List.not_mem_nil,forall_eq_or_imp,forall_eq,List.append_toArray,Option.toArray] at hA);(try simp only[go_sem,e1,e2,List.mem_cons,List.not_mem_nil,forall_eq_or_imp,forall_eq] at hQ hN);(first|(revert hA;intro hA)|have hA:=trivial);(first|(revert hQ;intro hQ)|have hQ:=trivial);(first|(revert hN;intro hN)|have hN:=trivial);simp(disch:=omega) only[go_sem,e1,e2,go_sem,hA,hQ,hN];(repeat(refine ndI (by first|assumption|omega|rfl) ?_));(first|apply Q1b|apply Q1a|apply Q0w)))));(simp(disch:=omega) only[St.eff,setO,Q0q,go_sem,e1,e2]))|((with_reducible apply Q0o);rfl;rfl;rfl;all_goals intro hb;all_goals(simp(disch:=omega) only[St.eff,setO,Q0q,go_sem,e1,e2]))|((with_reducible refine Q0p ?_ ?_ ?_ ?_);kernel_rfl;kernel_rfl;(first|kernel_rfl|simp[Q0m,Q1j,St.free,Q1i,AV.refsL,AV.refs]);intro R hR))))
     all_goals refine hΨ _ (by omega) (St.le_of ?_ (by simp[leH]))
     all_goals simp only[leT,Q5l]
     all_goals simp_all [wrI]
   · obtain⟨z,hz⟩:∃z,l[j]? = some z:=⟨l[j],List.getElem?_eq_getElem (by omega)⟩
     have e3:=nsl_at hz
     have e4:(((j+1:Nat):Int)==0)=false:=by simp;omega
     have e5:IntKind.i64.wrap (((j+1:Nat):Int)-1)=(j:Int):=by rw[wrI (by omega) (by omega)];omega
     have e7:IntKind.i64.wrap (((j+1:Nat):Int)+1)=((j+1+1:Nat):Int):=by rw[wrI (by omega) (by omega)];omega
     rw[show okS l (j+1)=((y.a != 0)&&(y.e==0)&&decide (y.x>0)&&decide (cN z y<0)) by simp[okS,hy,hz]] at hΨ
     (have W:=ndI e1 (ndI e2 (ndI e3 (ndI e4 (ndI e5 e7))));(repeat(any_goals(first|((with_reducible refine Q0g ?_ ?_);rfl;intro K hK;simp(disch:=omega) only[go_sem,W];((repeat(refine ndI (by first|assumption|omega|rfl) ?_));refine hK _ ?_;clear hK K))|(with_reducible first|(refine Q0i ?_;refine hR _ ?_;clear hR R)|((first|refine Q0h ?_|refine Q0c ?_);intro Ψ hΨ hΨ')|(refine Q0b ?_;intro R hR)|(refine hΨ _ ?_;clear hΨ hΨ' Ψ)|refine Q0d ?_|refine Q0j ?_|refine Q0e ?_)|((with_reducible refine hΨ' _ _ ?_ ?_);(focus(simp;done));clear hΨ hΨ' Ψ)|((with_reducible apply Q0f);rfl;rfl;all_goals(intro hc;first|(cases hc;done)|(try simp only at hc)))|((with_reducible refine Q0t ?_ ?_);kernel_rfl;(with_reducible refine hR _ ?_);clear hR R)|((first|((with_reducible apply Q0r);rfl;rfl;rfl;rfl)|((with_reducible apply Q0n);rfl;rfl;rfl)|((first|((with_reducible apply Q1m);rfl;rfl)|((with_reducible apply Q1p);rfl;rfl;rfl;rfl;rfl));((first|(apply Q1g (Q7z _ _ _ _ _);rfl;rfl;rfl;rfl;exact Try.func75)|(apply Q1g (X3l _ _ _ _ _ _ _ _ _ _ _);rfl;rfl;rfl;rfl;exact Try.func76));kernel_rfl;rfl;(focus((simp(disch:=omega) only[go_sem,W]);(try rfl);done));(first|rfl|simp[AV.inNL,AV.inN])))|((first|((with_reducible apply Q0u);rfl;rfl)|((with_reducible apply Q0s);rfl;rfl;rfl;rfl;rfl));(simp(disch:=omega) only[rdE,rdOf,go_sem,W];rfl);(intro τ hA hQ hN;((try simp only[Q1h,Op.operands,Call.operands,go_sem,W,go_sem,List.mem_cons,List.not_mem_nil,forall_eq_or_imp,forall_eq,List.append_toArray,Option.toArray] at hA);(try simp only[go_sem,W,List.mem_cons,List.not_mem_nil,forall_eq_or_imp,forall_eq] at hQ hN);(first|(revert hA;intro hA)|have hA:=trivial);(first|(revert hQ;intro hQ)|have hQ:=trivial);(first|(revert hN;intro hN)|have hN:=trivial);simp(disch:=omega) only[go_sem,W,go_sem,hA,hQ,hN];(repeat(refine ndI (by first|assumption|omega|rfl) ?_));(first|apply Q1b|apply Q1a|apply Q0w)))));(simp(disch:=omega) only[St.eff,setO,Q0q,go_sem,W]))|((with_reducible apply Q0o);rfl;rfl;rfl;all_goals intro hb;all_goals(simp(disch:=omega) only[St.eff,setO,Q0q,go_sem,W]))|((with_reducible refine Q0p ?_ ?_ ?_ ?_);kernel_rfl;kernel_rfl;(first|kernel_rfl|simp[Q0m,Q1j,St.free,Q1i,AV.refsL,AV.refs]);intro R hR)))))
     all_goals refine hΨ _ (by omega) (St.le_of ?_ (by simp[leH]))
     all_goals simp only[leT,Q5l]
     all_goals simp_all [cN]
     all_goals(intro h;omega)
 · have e1:(decide ((i:Int)<(l.length:Int)))=false:=by simpa using hge
   obtain rfl:i=l.length:=by omega
   (repeat(any_goals(first|((with_reducible refine Q0g ?_ ?_);rfl;intro K hK;simp only[go_sem,e1];((repeat(refine ndI (by first|assumption|omega|rfl) ?_));refine hK _ ?_;clear hK K))|(with_reducible first|(refine Q0i ?_;refine hR _ ?_;clear hR R)|((first|refine Q0h ?_|refine Q0c ?_);intro Ψ hΨ hΨ')|(refine Q0b ?_;intro R hR)|(refine hΨ _ ?_;clear hΨ hΨ' Ψ)|refine Q0d ?_|refine Q0j ?_|refine Q0e ?_)|((with_reducible refine hΨ' _ _ ?_ ?_);(focus(simp;done));clear hΨ hΨ' Ψ)|((with_reducible apply Q0f);rfl;rfl;all_goals(intro hc;first|(cases hc;done)|(try simp only at hc)))|((with_reducible refine Q0t ?_ ?_);kernel_rfl;(with_reducible refine hR _ ?_);clear hR R)|((first|((with_reducible apply Q0r);rfl;rfl;rfl;rfl)|((with_reducible apply Q0n);rfl;rfl;rfl)|((first|((with_reducible apply Q0u);rfl;rfl)|((with_reducible apply Q0s);rfl;rfl;rfl;rfl;rfl));(simp only[rdE,rdOf,go_sem,e1];rfl);(intro τ hA hQ hN;((try simp only[Q1h,Op.operands,Call.operands,go_sem,e1,go_sem,List.mem_cons,List.not_mem_nil,forall_eq_or_imp,forall_eq,List.append_toArray,Option.toArray] at hA);(try simp only[go_sem,e1,List.mem_cons,List.not_mem_nil,forall_eq_or_imp,forall_eq] at hQ hN);(first|(revert hA;intro hA)|have hA:=trivial);(first|(revert hQ;intro hQ)|have hQ:=trivial);(first|(revert hN;intro hN)|have hN:=trivial);simp only[go_sem,e1,go_sem,hA,hQ,hN];(repeat(refine ndI (by first|assumption|omega|rfl) ?_));(first|apply Q1b|apply Q1a|apply Q0w)))));(simp only[St.eff,setO,Q0q,go_sem,e1]))|((with_reducible apply Q0o);rfl;rfl;rfl;all_goals intro hb;all_goals(simp only[St.eff,setO,Q0q,go_sem,e1]))|((with_reducible refine Q0p ?_ ?_ ?_ ?_);kernel_rfl;kernel_rfl;(first|kernel_rfl|simp[Q0m,Q1j,St.free,Q1i,AV.refsL,AV.refs]);intro R hR))))
   all_goals(refine⟨by simp,⟨_,?_,AV.le_refl _⟩,Q0y (by simp[leH,hget])⟩;simp only[Try.results56,resL,ldA,Q1o,go_sem])
   all_goals simp_all
end nz
namespace nz
open Go.RowKit
set_option maxRecDepth 20000
set_option maxHeartbeats 1000000
def bsr(lt:Nat→Bool):Nat→Nat→Nat→Nat
 |0,i,_=>i
 |f+1,i,j=>if i<j then(if lt ((i+j)/2) then bsr lt f ((i+j)/2+1) j else bsr lt f i ((i+j)/2)) else i
theorem Q3f(lt:Nat→Bool):∀(f g i j:Nat),j-i≤f→j-i≤g→bsr lt f i j=bsr lt g i j
 |0,0,_,_,_,_=>rfl
 |0,g+1,i,j,h,_=>by unfold bsr;rw[if_neg (by omega)]
 |f+1,0,i,j,_,h=>by
  conv=>lhs;unfold bsr
  rw[if_neg (by omega)];rfl
 |f+1,g+1,i,j,h1,h2=>by
  unfold bsr
  by_cases h:i<j
  · rw[if_pos h,if_pos h,Q3f lt f g _ j (by omega) (by omega),Q3f lt f g i _ (by omega) (by omega)]
  · rw[if_neg h,if_neg h]
theorem bsr_up{lt:Nat→Bool}{i j r:Nat}(h:i<j)(hl:lt ((i+j)/2)=true)(hr:bsr lt (j-i) i j=r):bsr lt (j-((i+j)/2+1)) ((i+j)/2+1) j=r:=by
 rw[Q3f lt (j-i) (j-i-1+1) i j (by omega) (by omega)] at hr
 unfold bsr at hr
 rw[if_pos h,if_pos hl] at hr
 rw[←hr];exact Q3f lt _ _ _ _ (by omega) (by omega)
theorem bsr_dn{lt:Nat→Bool}{i j r:Nat}(h:i<j)(hl:lt ((i+j)/2)=false)(hr:bsr lt (j-i) i j=r):bsr lt ((i+j)/2-i) i ((i+j)/2)=r:=by
 rw[Q3f lt (j-i) (j-i-1+1) i j (by omega) (by omega)] at hr
 unfold bsr at hr
 rw[if_pos h,hl] at hr
 rw[←hr];exact Q3f lt _ _ _ _ (by omega) (by omega)
theorem Q9s(lt:Nat→Bool):∀(f i j:Nat),i≤j→bsr lt f i j≤j
 |0,i,j,h=>h
 |f+1,i,j,h=>by
  unfold bsr
  split
  · split
    · exact Q9s lt f _ j (by omega)
    · exact Nat.le_trans (Q9s lt f i _ (by omega)) (by omega)
  · exact h
theorem half{i j:Nat}:((i:Int)+(j:Int)).fdiv (2 ^ (min 1 64))=(((i+j)/2:Nat):Int):=by
 show((i:Int)+(j:Int)).fdiv 2=_
 rw[Int.fdiv_eq_ediv_of_nonneg _ (by omega)];omega
end nz
namespace nz
open Go.RowKit
set_option maxRecDepth 20000
set_option maxHeartbeats 1000000
abbrev c4(a b c d:Int):List AV:=[vi .u64 a,vi .u64 b,vi .u64 c,vi .u64 d]
end nz
namespace nz
open Go.RowKit
set_option maxRecDepth 20000
set_option maxHeartbeats 1000000
abbrev nilS:AV:=.c (.v (.slice none 0 0))
end nz
namespace nz
open Go.RowKit
set_option maxRecDepth 20000
set_option maxHeartbeats 1000000
def N6.ok(n:N6):Prop:=U n.a∧U n.b∧U n.c∧U n.d∧U n.e∧U n.x
end nz
section
open Go.RowKit
open Nat (reduceBEq)
set_option maxRecDepth 20000
set_option maxHeartbeats 2000000
structure Wl where
 S:List Ac
 L:List lg.Hd
 N:List nz.N6
abbrev acV(l:List Ac):PV:=.sl false 8 l.length (l.flatMap Ac.pv)
abbrev hdV(l:List lg.Hd):PV:=.sl false 11 l.length (l.flatMap lg.Hd.pv)
abbrev noV(l:List nz.N6):PV:=.sl false 6 l.length (l.flatMap nz.N6.pv)
def Wl.pv(w:Wl):List PV:=[acV w.S,hdV w.L,noV w.N]
abbrev wlA(w:Wl):AV:=.agg [.c (acV w.S),.c (hdV w.L),.c (noV w.N)]
structure Wl.ok (w:Wl):Prop where
 s:w.S.length≤60∧∀x∈w.S,x.ok∧x.code.length≤300∧x.store.length≤40
 l:w.L.length≤60∧∀h∈w.L,h.ok
 n:w.N.length≤70∧∀x∈w.N,x.ok
def Q2e(w:Wl):Bool:=okSt w.S&&lg.okL w.L&&nz.okTo w.N w.N.length
theorem checkW_fn(w:Wl)(hw:w.ok):Fn Try.prog 44 [wlA w] [] (vi .i64 (if Q2e w then 0 else 200)) []:=by
 obtain⟨S,L,N⟩:=w
 obtain⟨⟨hs,os⟩,⟨hl,ol⟩,⟨hn,on'⟩⟩:=hw
 dsimp only at hs os hl ol hn on'
 have h6:(600:Nat)≤maxLen:=by decide
 have f1:=Q8z false S (by omega) fun x hx=>⟨(os x hx).1,by have:=(os x hx).2;omega⟩
 have f2:=lg.check_fn false L (Nat.le_trans hl (by decide)) ol
 have f3:=nz.check_fn false N (Nat.le_trans hn (by decide))
 unfold Q2e
 dsimp only
 cases e1:okSt S<;>cases e2:lg.okL L<;>cases e3:nz.okTo N N.length<;>simp only[e1,e2,e3,if_true,if_false,Bool.false_eq_true] at f1 f2 f3 ⊢
 all_goals(refine Q1q Try.func44 rfl (by rfl) ?_;simp only[Try.ntmps44,List.length_cons,List.length_nil,Nat.reduceAdd,Nat.reduceSub,List.replicate,List.cons_append,List.nil_append])
 all_goals(repeat(any_goals(first|((with_reducible refine Q1d ?_ ?_ ?_);rfl;rfl;intro K hK;((apply Q0x (f1);rfl;rfl;rfl;rfl;exact Try.func49);kernel_rfl;rfl;(focus((simp only[go_sem]);(try rfl);done));(first|rfl|simp[AV.inNL,AV.inN]));(simp only[go_sem];refine hK _ ?_;clear hK K))|((with_reducible refine Q0g ?_ ?_);rfl;intro K hK;simp only[go_sem];((repeat(refine ndI (by first|assumption|omega|rfl) ?_));refine hK _ ?_;clear hK K))|(with_reducible first|(refine Q0i ?_;refine hR _ ?_;clear hR R)|((first|refine Q0h ?_|refine Q0c ?_);intro Ψ hΨ hΨ')|(refine Q0b ?_;intro R hR)|(refine hΨ _ ?_;clear hΨ hΨ' Ψ)|refine Q0d ?_|refine Q0j ?_|refine Q0e ?_)|((with_reducible refine hΨ' _ _ ?_ ?_);(focus(simp;done));clear hΨ hΨ' Ψ)|((with_reducible apply Q1e);rfl;rfl;rfl;(try simp only[go_sem]))|((with_reducible apply Q1l);rfl;rfl;rfl;all_goals(intro hb;first|(cases hb;done)|((try simp only[Bool.not_true,Bool.not_false] at hb);(first|((with_reducible intro K hK);(first|((first|(apply Q0x (f2);rfl;rfl;rfl;rfl;exact Try.func47)|(apply Q0x (f3);rfl;rfl;rfl;rfl;exact Try.func56));kernel_rfl;rfl;(focus((simp only[go_sem]);(try rfl);done));(first|rfl|simp[AV.inNL,AV.inN]))|skip);simp only[go_sem];((repeat(refine ndI (by first|assumption|omega|rfl) ?_));refine hK _ ?_;clear hK K))|((fail_if_success (with_reducible intro _));simp only[go_sem])))))|((with_reducible apply Q0f);rfl;rfl;all_goals(intro hc;first|(cases hc;done)|(try simp only at hc))))))
 all_goals(refine⟨by simp,⟨_,?_,AV.le_refl _⟩,Q0y (by simp[leH,hget])⟩;simp only[Try.results44,resL,ldA,Q1o,go_sem])
 all_goals rfl
end
section
open Go.RowKit
open Nat (reduceBEq)
set_option maxRecDepth 20000
set_option maxHeartbeats 2000000
def ixB{α : Type}(p:α→Bool)(l:List α):Int:=match l.findIdx? p with|some i=>(i:Int)|none=>-1
theorem ixB_at{α : Type}{p:α→Bool}{l:List α}{i:Nat}{y:α}(hno:∀j,j<i→∀n,l[j]? = some n→p n=false)(hy:l[i]? = some y)(hp:p y=true):ixB p l=(i:Int):=by
 have h:l.findIdx? p=some i:=by
  rw[List.findIdx?_eq_some_iff_getElem]
  obtain⟨hi,e⟩:=List.getElem?_eq_some_iff.1 hy
  refine⟨hi,by rw[e];exact hp,fun j hj=>?_⟩
  rw[hno j hj _ (List.getElem?_eq_getElem (by omega))]
  decide
 unfold ixB
 rw[h]
theorem X4q{α : Type}{p:α→Bool}{l:List α}(hno:∀j,j<l.length→∀n,l[j]? = some n→p n=false):ixB p l = -1:=by
 have h:l.findIdx? p=none:=by
  rw[List.findIdx?_eq_none_iff]
  intro x hx
  obtain⟨j,hj⟩:=List.getElem?_of_mem hx
  exact hno j (List.getElem?_eq_some_iff.1 hj).1 x hj
 unfold ixB
 rw[h]
theorem ixB_any{α : Type}(p:α→Bool)(l:List α):decide (ixB p l≥0)=l.any p:=by
 unfold ixB
 cases h:l.findIdx? p with
 |none=>
  rw[List.findIdx?_eq_none_iff] at h
  have:l.any p=false:=by
   rw[List.any_eq_false]
   intro x hx
   rw[h x hx];decide
  rw[this];rfl
 |some i=>
  rw[List.findIdx?_eq_some_iff_getElem] at h
  obtain⟨hi,hp,_⟩:=h
  have:l.any p=true:=by
   rw[List.any_eq_true]
   exact⟨_,List.getElem_mem hi,hp⟩
  rw[this]
  simp
theorem mayl_fn(w:Wl)(hw:w.ok):Fn Try.prog 43 [wlA w] [] (vb (!Q2e w)) []:=by
 have f:=checkW_fn w hw
 cases e:Q2e w<;>simp only[e,if_true,if_false,Bool.false_eq_true] at f ⊢
 all_goals(refine Q1q Try.func43 rfl (by rfl) ?_;simp only[Try.ntmps43,List.length_cons,List.length_nil,Nat.reduceAdd,Nat.reduceSub,List.replicate,List.cons_append,List.nil_append])
 all_goals(repeat(any_goals(first|((with_reducible refine Q1d ?_ ?_ ?_);rfl;rfl;intro K hK;((apply Q0x (f);rfl;rfl;rfl;rfl;exact Try.func44);kernel_rfl;rfl;(focus((simp only[go_sem]);(try rfl);done));(first|rfl|simp[AV.inNL,AV.inN]));(simp only[go_sem];refine hK _ ?_;clear hK K))|((with_reducible refine Q0g ?_ ?_);rfl;intro K hK;simp only[go_sem];((repeat(refine ndI (by first|assumption|omega|rfl) ?_));refine hK _ ?_;clear hK K))|(with_reducible first|(refine Q0i ?_;refine hR _ ?_;clear hR R)|((first|refine Q0h ?_|refine Q0c ?_);intro Ψ hΨ hΨ')|(refine Q0b ?_;intro R hR)|(refine hΨ _ ?_;clear hΨ hΨ' Ψ)|refine Q0d ?_|refine Q0j ?_|refine Q0e ?_)|((with_reducible refine hΨ' _ _ ?_ ?_);(focus(simp;done));clear hΨ hΨ' Ψ)|((with_reducible apply Q0f);rfl;rfl;all_goals(intro hc;first|(cases hc;done)|(try simp only at hc))))))
 all_goals(refine⟨by simp,⟨_,?_,AV.le_refl _⟩,Q0y (by simp[leH,hget])⟩;simp only[Try.results43,resL,ldA,Q1o,go_sem])
 all_goals rfl
theorem wl_len(w:Wl):w.pv.length=3:=rfl
abbrev wls(ex:Bool)(l:List Wl):AV:=.c (.sl ex 3 l.length (l.flatMap Wl.pv))
theorem wls_at{l:List Wl}{i:Nat}{w:Wl}(h:l[i]? = some w):((l.flatMap Wl.pv).drop (i*3)).take 3=[acV w.S,hdV w.L,noV w.N]:=Q4y wl_len h
theorem indexW_fn(ex:Bool)(l:List Wl)(hl:l.length≤1000)(ok:∀w∈l,w.ok):Fn Try.prog 55 [wls ex l,.fn 43 []] [] (vi .i64 (ixB (fun w=>!Q2e w) l)) []:=by
 obtain⟨tr,htr⟩:∃r:Int,ixB (fun w=>!Q2e w) l=r:=⟨_,rfl⟩
 rw[htr]
 (refine Q1q Try.func55 rfl (by rfl) ?_;simp only[Try.ntmps55,List.length_cons,List.length_nil,Nat.reduceAdd,Nat.reduceSub,List.replicate,List.cons_append,List.nil_append])
 (repeat(any_goals(first|((with_reducible refine Q0g ?_ ?_);rfl;intro K hK;simp only[go_sem];((repeat(refine ndI (by first|assumption|omega|rfl) ?_));refine hK _ ?_;clear hK K))|(with_reducible first|(refine Q0i ?_;refine hR _ ?_;clear hR R)|((first|refine Q0h ?_|refine Q0c ?_);intro Ψ hΨ hΨ')|(refine Q0b ?_;intro R hR)|(refine hΨ _ ?_;clear hΨ hΨ' Ψ)|refine Q0d ?_|refine Q0j ?_|refine Q0e ?_)|((with_reducible refine hΨ' _ _ ?_ ?_);(focus(simp;done));clear hΨ hΨ' Ψ)|((with_reducible apply Q0f);rfl;rfl;all_goals(intro hc;first|(cases hc;done)|(try simp only at hc))))))
 refine Q2v (α:={i:Nat // i≤l.length∧∀j,j<i→∀n,l[j]? = some n→(!Q2e n)=false}) (fun p=>⟨[wls ex l,.fn 43 [],.any,.any,.any,.any,wls ex l,vi .i64 l.length,vi .i64 p.1,.any,.any,.any,.any,.any,.any,.any,.any,.any,.any],[]⟩) (fun p=>l.length-p.1) ⟨0,Nat.zero_le _,fun j hj=>by omega⟩ (St.le_of (by simp[leT]) (by simp[leH,hget])) ?_
 rintro ⟨i,hi,hno⟩ Ψ hΨ hΨ'
 dsimp only at hi hΨ ⊢
 rcases Nat.lt_or_ge i l.length with hlt|hge
 · obtain⟨y,hy⟩:∃y,l[i]? = some y:=⟨l[i],List.getElem?_eq_getElem hlt⟩
   have k1:(decide ((i:Int)<(l.length:Int)))=true:=by simpa using hlt
   have k2:=wls_at hy
   have k7:(i:Int)+1=((i+1:Nat):Int):=by omega
   have pl:=mayl_fn y (ok y (List.mem_of_getElem? hy))
   cases hm:(!Q2e y)
   · rw[hm] at pl
     (have W:=ndI k1 (ndI k2 (ndI k7 @wrI));(repeat(any_goals(first|((with_reducible refine Q1d ?_ ?_ ?_);rfl;rfl;intro K hK;((apply Q0x (pl);rfl;rfl;rfl;rfl;exact Try.func43);kernel_rfl;rfl;(focus((simp(disch:=omega) only[go_sem,W]);(try rfl);done));(first|rfl|simp[AV.inNL,AV.inN]));(simp(disch:=omega) only[go_sem,W];refine hK _ ?_;clear hK K))|((with_reducible refine Q0g ?_ ?_);rfl;intro K hK;simp(disch:=omega) only[go_sem,W];((repeat(refine ndI (by first|assumption|omega|rfl) ?_));refine hK _ ?_;clear hK K))|(with_reducible first|(refine Q0i ?_;refine hR _ ?_;clear hR R)|((first|refine Q0h ?_|refine Q0c ?_);intro Ψ hΨ hΨ')|(refine Q0b ?_;intro R hR)|(refine hΨ _ ?_;clear hΨ hΨ' Ψ)|refine Q0d ?_|refine Q0j ?_|refine Q0e ?_)|((with_reducible refine hΨ' _ _ ?_ ?_);(focus(simp;done));clear hΨ hΨ' Ψ)|((with_reducible apply Q0f);rfl;rfl;all_goals(intro hc;first|(cases hc;done)|(try simp only at hc)))))))
     refine hΨ _ ⟨i+1,hlt,fun j hj n hn=>?_⟩ (by simp only;omega) (St.le_of (by simp[leT]) (by simp[leH,hget]))
     rcases Nat.lt_or_ge j i with h'|h'
     · exact hno j h' n hn
     · obtain rfl:j=i:=by omega
       rw[hy] at hn;cases hn;exact hm
   · rw[hm] at pl
     have hp:=ixB_at (p:=fun w=>!Q2e w) hno hy hm
     rw[hp] at htr
     (have W:=ndI k1 (ndI k2 (ndI k7 @wrI));(repeat(any_goals(first|((with_reducible refine Q1d ?_ ?_ ?_);rfl;rfl;intro K hK;((apply Q0x (pl);rfl;rfl;rfl;rfl;exact Try.func43);kernel_rfl;rfl;(focus((simp(disch:=omega) only[go_sem,W]);(try rfl);done));(first|rfl|simp[AV.inNL,AV.inN]));(simp(disch:=omega) only[go_sem,W];refine hK _ ?_;clear hK K))|((with_reducible refine Q0g ?_ ?_);rfl;intro K hK;simp(disch:=omega) only[go_sem,W];((repeat(refine ndI (by first|assumption|omega|rfl) ?_));refine hK _ ?_;clear hK K))|(with_reducible first|(refine Q0i ?_;refine hR _ ?_;clear hR R)|((first|refine Q0h ?_|refine Q0c ?_);intro Ψ hΨ hΨ')|(refine Q0b ?_;intro R hR)|(refine hΨ _ ?_;clear hΨ hΨ' Ψ)|refine Q0d ?_|refine Q0j ?_|refine Q0e ?_)|((with_reducible refine hΨ' _ _ ?_ ?_);(focus(simp;done));clear hΨ hΨ' Ψ)|((with_reducible apply Q0f);rfl;rfl;all_goals(intro hc;first|(cases hc;done)|(try simp only at hc)))))))
     all_goals(refine⟨by simp,⟨_,?_,AV.le_refl _⟩,Q0y (by simp[leH,hget])⟩;simp only[Try.results55,resL,ldA,Q1o,go_sem])
     all_goals rw[htr]
 · have k1:(decide ((i:Int)<(l.length:Int)))=false:=by simpa using hge
   have hp:=X4q (p:=fun w=>!Q2e w) (l:=l) fun j hj=>hno j (by omega)
   rw[hp] at htr
   (repeat(any_goals(first|((with_reducible refine Q0g ?_ ?_);rfl;intro K hK;simp only[go_sem,k1];((repeat(refine ndI (by first|assumption|omega|rfl) ?_));refine hK _ ?_;clear hK K))|(with_reducible first|(refine Q0i ?_;refine hR _ ?_;clear hR R)|((first|refine Q0h ?_|refine Q0c ?_);intro Ψ hΨ hΨ')|(refine Q0b ?_;intro R hR)|(refine hΨ _ ?_;clear hΨ hΨ' Ψ)|refine Q0d ?_|refine Q0j ?_|refine Q0e ?_)|((with_reducible refine hΨ' _ _ ?_ ?_);(focus(simp;done));clear hΨ hΨ' Ψ)|((with_reducible apply Q0f);rfl;rfl;all_goals(intro hc;first|(cases hc;done)|(try simp only at hc))))))
   all_goals(refine⟨by simp,⟨_,?_,AV.le_refl _⟩,Q0y (by simp[leH,hget])⟩;simp only[Try.results55,resL,ldA,Q1o,go_sem])
   all_goals rw[←htr]
theorem X2t(ex:Bool)(l:List Wl)(hl:l.length≤1000)(ok:∀w∈l,w.ok):Fn Try.prog 42 [wls ex l,.fn 43 []] [] (vb (l.any fun w=>!Q2e w)) []:=by
 have f:=indexW_fn ex l hl ok
 have e:=ixB_any (fun w=>!Q2e w) l
 (refine Q1q Try.func42 rfl (by rfl) ?_;simp only[Try.ntmps42,List.length_cons,List.length_nil,Nat.reduceAdd,Nat.reduceSub,List.replicate,List.cons_append,List.nil_append])
 (repeat(any_goals(first|((with_reducible refine Q1d ?_ ?_ ?_);rfl;rfl;intro K hK;((apply Q0x (f);rfl;rfl;rfl;rfl;exact Try.func55);kernel_rfl;rfl;(focus((simp only[go_sem,e]);(try rfl);done));(first|rfl|simp[AV.inNL,AV.inN]));(simp only[go_sem,e];refine hK _ ?_;clear hK K))|((with_reducible refine Q0g ?_ ?_);rfl;intro K hK;simp only[go_sem,e];((repeat(refine ndI (by first|assumption|omega|rfl) ?_));refine hK _ ?_;clear hK K))|(with_reducible first|(refine Q0i ?_;refine hR _ ?_;clear hR R)|((first|refine Q0h ?_|refine Q0c ?_);intro Ψ hΨ hΨ')|(refine Q0b ?_;intro R hR)|(refine hΨ _ ?_;clear hΨ hΨ' Ψ)|refine Q0d ?_|refine Q0j ?_|refine Q0e ?_)|((with_reducible refine hΨ' _ _ ?_ ?_);(focus(simp;done));clear hΨ hΨ' Ψ)|((with_reducible apply Q0f);rfl;rfl;all_goals(intro hc;first|(cases hc;done)|(try simp only at hc))))))
 all_goals(refine⟨by simp,⟨_,?_,AV.le_refl _⟩,Q0y (by simp[leH,hget])⟩;simp only[Try.results42,resL,ldA,Q1o,go_sem])
theorem may_fn(ex:Bool)(l:List Wl)(hl:l.length≤1000)(ok:∀w∈l,w.ok):Fn Try.prog 24 [wls ex l] [] (vb (l.all Q2e)) []:=by
 have f:=X2t ex l hl ok
 have e:(!l.any fun w=>!Q2e w)=l.all Q2e:=by rw[List.not_any_eq_all_not];simp
 rw[←e]
 (refine Q1q Try.func24 rfl (by rfl) ?_;simp only[Try.ntmps24,List.length_cons,List.length_nil,Nat.reduceAdd,Nat.reduceSub,List.replicate,List.cons_append,List.nil_append])
 (repeat(any_goals(first|((with_reducible refine Q1d ?_ ?_ ?_);rfl;rfl;intro K hK;((apply Q0x (f);rfl;rfl;rfl;rfl;exact Try.func42);kernel_rfl;rfl;(focus((simp only[go_sem]);(try rfl);done));(first|rfl|simp[AV.inNL,AV.inN]));(simp only[go_sem];refine hK _ ?_;clear hK K))|((with_reducible refine Q0g ?_ ?_);rfl;intro K hK;simp only[go_sem];((repeat(refine ndI (by first|assumption|omega|rfl) ?_));refine hK _ ?_;clear hK K))|(with_reducible first|(refine Q0i ?_;refine hR _ ?_;clear hR R)|((first|refine Q0h ?_|refine Q0c ?_);intro Ψ hΨ hΨ')|(refine Q0b ?_;intro R hR)|(refine hΨ _ ?_;clear hΨ hΨ' Ψ)|refine Q0d ?_|refine Q0j ?_|refine Q0e ?_)|((with_reducible refine hΨ' _ _ ?_ ?_);(focus(simp;done));clear hΨ hΨ' Ψ)|((with_reducible apply Q0f);rfl;rfl;all_goals(intro hc;first|(cases hc;done)|(try simp only at hc))))))
 all_goals(refine⟨by simp,⟨_,?_,AV.le_refl _⟩,Q0y (by simp[leH,hget])⟩;simp only[Try.results24,resL,ldA,Q1o,go_sem])
theorem Q8v(ex:Bool)(w:Wl)(hw:w.ok):Fn Try.prog 24 [.c (.sl ex 3 1 [acV w.S,hdV w.L,noV w.N])] [] (vb (Q2e w)) []:=by
 have f:=may_fn ex [w] (by simp) (by simpa using hw)
 have e:[w].all Q2e=Q2e w:=by simp
 rw[e] at f
 exact f
theorem may2_fn(ex:Bool)(w v:Wl)(hw:w.ok)(hv:v.ok):Fn Try.prog 24 [.c (.sl ex 3 2 [acV w.S,hdV w.L,noV w.N,acV v.S,hdV v.L,noV v.N])] [] (vb (Q2e w&&Q2e v)) []:=by
 have f:=may_fn ex [w,v] (by simp) (by simp[hw,hv])
 have e:[w,v].all Q2e=(Q2e w&&Q2e v):=by simp
 rw[e] at f
 exact f
end
section
open Go.RowKit
def bsr(lt:Nat→Bool):Nat→Nat→Nat→Nat
 |0,i,_=>i
 |f+1,i,j=>if i<j then(if lt ((i+j)/2) then bsr lt f ((i+j)/2+1) j else bsr lt f i ((i+j)/2)) else i
theorem Q3f(lt:Nat→Bool):∀(f g i j:Nat),j-i≤f→j-i≤g→bsr lt f i j=bsr lt g i j
 |0,0,_,_,_,_=>rfl
 |0,g+1,i,j,h,_=>by unfold bsr;rw[if_neg (by omega)]
 |f+1,0,i,j,_,h=>by
  conv=>lhs;unfold bsr
  rw[if_neg (by omega)];rfl
 |f+1,g+1,i,j,h1,h2=>by
  unfold bsr
  by_cases h:i<j
  · rw[if_pos h,if_pos h,Q3f lt f g _ j (by omega) (by omega),Q3f lt f g i _ (by omega) (by omega)]
  · rw[if_neg h,if_neg h]
theorem bsr_up{lt:Nat→Bool}{i j r:Nat}(h:i<j)(hl:lt ((i+j)/2)=true)(hr:bsr lt (j-i) i j=r):bsr lt (j-((i+j)/2+1)) ((i+j)/2+1) j=r:=by
 rw[Q3f lt (j-i) (j-i-1+1) i j (by omega) (by omega)] at hr
 unfold bsr at hr
 rw[if_pos h,if_pos hl] at hr
 rw[←hr];exact Q3f lt _ _ _ _ (by omega) (by omega)
theorem bsr_dn{lt:Nat→Bool}{i j r:Nat}(h:i<j)(hl:lt ((i+j)/2)=false)(hr:bsr lt (j-i) i j=r):bsr lt ((i+j)/2-i) i ((i+j)/2)=r:=by
 rw[Q3f lt (j-i) (j-i-1+1) i j (by omega) (by omega)] at hr
 unfold bsr at hr
 rw[if_pos h,hl] at hr
 rw[←hr];exact Q3f lt _ _ _ _ (by omega) (by omega)
theorem Q9s(lt:Nat→Bool):∀(f i j:Nat),i≤j→bsr lt f i j≤j
 |0,i,j,h=>h
 |f+1,i,j,h=>by
  unfold bsr
  split
  · split
    · exact Q9s lt f _ j (by omega)
    · exact Nat.le_trans (Q9s lt f i _ (by omega)) (by omega)
  · exact h
theorem X4z:IntKind.u64.bits=64:=rfl
theorem half{i j:Nat}:((i:Int)+(j:Int)).fdiv (2 ^ (min 1 64))=(((i+j)/2:Nat):Int):=by
 show((i:Int)+(j:Int)).fdiv 2=_
 rw[Int.fdiv_eq_ediv_of_nonneg _ (by omega)];omega
section
variable {α : Type} (key:α→Int)
def Rises(L:List α):Prop:=L.Pairwise fun x y=>key x<key y
def fnd(k:Int):List α→Option α
 |[]=>none
 |y::L=>if key y=k then some y else fnd k L
variable {key}
theorem fnd_key{k:Int}:∀{L:List α} {x:α},fnd key k L=some x→key x=k∧x∈L
 |y::L,x,h=>by
  unfold fnd at h
  split at h
  · rename_i e;cases h;exact⟨e,by simp⟩
  · have:=fnd_key h;exact⟨this.1,by simp[this.2]⟩
theorem fnd_mem{L:List α}(hr:Rises key L){x:α}(hx:x∈L):fnd key (key x) L=some x:=by
 induction L with
 |nil=>cases hx
 |cons y L ih=>
  obtain⟨l1,l2⟩:=List.pairwise_cons.1 hr
  unfold fnd
  rcases List.mem_cons.1 hx with rfl|hx
  · rw[if_pos rfl]
  · rw[if_neg (by have:=l1 x hx;omega)];exact ih l2 hx
theorem mem_iff{L:List α}(hr:Rises key L){x:α}:x∈L↔fnd key (key x) L=some x:=⟨fnd_mem hr,fun h=>(fnd_key h).2⟩
structure Parts (key:α→Int) (L:List α) (k:Int) (p:Nat):Prop where
 le:p≤L.length
 lo:∀(i:Nat) (h:i<L.length),i<p→key L[i]<k
 hi:∀(i:Nat) (h:i<L.length),p≤i→k≤key L[i]
theorem Parts.tail{y:α}{L:List α}{k:Int}{p:Nat}(h:Parts key (y::L) k (p+1)):Parts key L k p:=
 ⟨by have:=h.le;simpa using this,fun i hi hp=>by have:=h.lo (i+1) (by simpa using hi) (by omega);simpa using this,fun i hi hp=>by have:=h.hi (i+1) (by simpa using hi) (by omega);simpa using this⟩
end
end
section
open Go.RowKit
open Nat (reduceBEq)
set_option maxRecDepth 20000
set_option maxHeartbeats 2000000
def cmpI(a b:Int):Int:=if a<b then -1 else if b<a then 1 else 0
theorem Q7n(a b:Int):Fn Try.prog 91 [vi .u64 a,vi .u64 b] [] (vi .i64 (cmpI a b)) []:=by
 (refine Q1q Try.func91 rfl (by rfl) ?_;simp only[Try.ntmps91,List.length_cons,List.length_nil,Nat.reduceAdd,Nat.reduceSub,List.replicate,List.cons_append,List.nil_append])
 (repeat(any_goals(first|((with_reducible refine Q1d ?_ ?_ ?_);rfl;rfl;intro K hK;((apply Q0x (Q6t _);rfl;rfl;rfl;rfl;exact Try.func89);kernel_rfl;rfl;(focus((simp only[go_sem]);(try rfl);done));(first|rfl|simp[AV.inNL,AV.inN]));(simp only[go_sem];refine hK _ ?_;clear hK K))|((with_reducible refine Q0g ?_ ?_);rfl;intro K hK;simp only[go_sem];((repeat(refine ndI (by first|assumption|omega|rfl) ?_));refine hK _ ?_;clear hK K))|(with_reducible first|(refine Q0i ?_;refine hR _ ?_;clear hR R)|((first|refine Q0h ?_|refine Q0c ?_);intro Ψ hΨ hΨ')|(refine Q0b ?_;intro R hR)|(refine hΨ _ ?_;clear hΨ hΨ' Ψ)|refine Q0d ?_|refine Q0j ?_|refine Q0e ?_)|((with_reducible refine hΨ' _ _ ?_ ?_);(focus(simp;done));clear hΨ hΨ' Ψ)|((with_reducible apply Q0f);rfl;rfl;all_goals(intro hc;first|(cases hc;done)|(try simp only at hc))))))
 all_goals(refine⟨by simp,⟨_,?_,AV.le_refl _⟩,Q0y (by simp[leH,hget])⟩;simp only[Try.results91,resL,ldA,Q1o,go_sem])
 all_goals simp_all [cmpI]
 all_goals omega
def cmpK(x y:Nat):Int:=if x<y then -1 else if y<x then 1 else 0
def ltA(L:List Ac)(a:Int)(h:Nat):Bool:=match L[h]? with|some z=>decide (cmpI z.a a<0)|none=>false
def eqA(L:List Ac)(a:Int)(h:Nat):Bool:=match L[h]? with|some z=>cmpI z.a a==0|none=>false
def ltP(l:List Pr)(k:Nat)(h:Nat):Bool:=match l[h]? with|some z=>decide (cmpK z.k k<0)|none=>false
def eqP(l:List Pr)(k:Nat)(h:Nat):Bool:=match l[h]? with|some z=>cmpK z.k k==0|none=>false
theorem Q5k(x:Ac)(a:Int):Fn Try.prog 93 [acA x,vi .u64 a] [] (vi .i64 (cmpI x.a a)) []:=by
 (refine Q1q Try.func93 rfl (by rfl) ?_;simp only[Try.ntmps93,List.length_cons,List.length_nil,Nat.reduceAdd,Nat.reduceSub,List.replicate,List.cons_append,List.nil_append])
 (repeat(any_goals(first|((with_reducible refine Q1d ?_ ?_ ?_);rfl;rfl;intro K hK;((apply Q0x (Q7n _ _);rfl;rfl;rfl;rfl;exact Try.func91);kernel_rfl;rfl;(focus((simp only[go_sem]);(try rfl);done));(first|rfl|simp[AV.inNL,AV.inN]));(simp only[go_sem];refine hK _ ?_;clear hK K))|((with_reducible refine Q0g ?_ ?_);rfl;intro K hK;simp only[go_sem];((repeat(refine ndI (by first|assumption|omega|rfl) ?_));refine hK _ ?_;clear hK K))|(with_reducible first|(refine Q0i ?_;refine hR _ ?_;clear hR R)|((first|refine Q0h ?_|refine Q0c ?_);intro Ψ hΨ hΨ')|(refine Q0b ?_;intro R hR)|(refine hΨ _ ?_;clear hΨ hΨ' Ψ)|refine Q0d ?_|refine Q0j ?_|refine Q0e ?_)|((with_reducible refine hΨ' _ _ ?_ ?_);(focus(simp;done));clear hΨ hΨ' Ψ)|((with_reducible apply Q0f);rfl;rfl;all_goals(intro hc;first|(cases hc;done)|(try simp only at hc))))))
 all_goals(refine⟨by simp,⟨_,?_,AV.le_refl _⟩,Q0y (by simp[leH,hget])⟩;simp only[Try.results93,resL,ldA,Q1o,go_sem])
theorem bsfA_fn(ex:Bool)(l:List Ac)(hl:l.length≤4611686018427387903)(a:Int):Fn Try.prog 92 [acS ex l,vi .u64 a,.fn 93 []] []
 (.tup [vi .i64 (bsr (ltA l a) l.length 0 l.length:Nat),vb (eqA l a (bsr (ltA l a) l.length 0 l.length))]) []:=by
 (refine Q1q Try.func92 rfl (by rfl) ?_;simp only[Try.ntmps92,List.length_cons,List.length_nil,Nat.reduceAdd,Nat.reduceSub,List.replicate,List.cons_append,List.nil_append])
 (repeat(any_goals(first|((with_reducible refine Q0g ?_ ?_);rfl;intro K hK;simp only[go_sem];((repeat(refine ndI (by first|assumption|omega|rfl) ?_));refine hK _ ?_;clear hK K))|(with_reducible first|(refine Q0i ?_;refine hR _ ?_;clear hR R)|((first|refine Q0h ?_|refine Q0c ?_);intro Ψ hΨ hΨ')|(refine Q0b ?_;intro R hR)|(refine hΨ _ ?_;clear hΨ hΨ' Ψ)|refine Q0d ?_|refine Q0j ?_|refine Q0e ?_)|((with_reducible refine hΨ' _ _ ?_ ?_);(focus(simp;done));clear hΨ hΨ' Ψ)|((with_reducible apply Q1e);rfl;rfl;rfl;(try simp only[go_sem]))|((with_reducible apply Q1l);rfl;rfl;rfl;all_goals(intro hb;first|(cases hb;done)|((try simp only[Bool.not_true,Bool.not_false] at hb);(first|((with_reducible intro K hK);simp only[go_sem];((repeat(refine ndI (by first|assumption|omega|rfl) ?_));refine hK _ ?_;clear hK K))|((fail_if_success (with_reducible intro _));simp only[go_sem])))))|((with_reducible apply Q0f);rfl;rfl;all_goals(intro hc;first|(cases hc;done)|(try simp only at hc))))))
 generalize hr:bsr (ltA l a) l.length 0 l.length=r
 have hrl:r≤l.length:=by rw[←hr];exact Q9s _ _ _ _ (Nat.zero_le _)
 refine Q2v (α:={p:Nat×Nat // p.1≤p.2∧p.2≤l.length∧bsr (ltA l a) (p.2-p.1) p.1 p.2=r}) (fun p=>⟨[acS ex l,vi .u64 a,.fn 93 [],.any,.any,.any,.any,.any,vi .i64 l.length,vi .i64 p.1.1,vi .i64 p.1.2,.any,.any,.any,.any,.any,.any,.any,.any,.any,.any,.any,.any,.any,.any,.any,.any,.any,.any,.any,.any,.any,.any,.any,.any,.any,.any,.any,.any,.any,.any,.any,.any,.any,.any,.any,.any,.any,.any],[]⟩) (fun p=>p.1.2-p.1.1) ⟨(0,l.length),by simp,by simp,hr⟩ (St.le_of (by simp[leT]) (by simp[leH,hget])) ?_
 rintro ⟨⟨i,j⟩,h1,h2,h3⟩ Ψ hΨ hΨ'
 dsimp only at h1 h2 h3 hΨ ⊢
 rcases Nat.lt_or_ge i j with hlt|hge
 · have e1:(decide ((i:Int)<(j:Int)))=true:=by simpa using hlt
   obtain⟨y,hy⟩:∃y,l[(i+j)/2]? = some y:=⟨l[(i+j)/2],List.getElem?_eq_getElem (by omega)⟩
   have e2:=X2w hy
   have e8:ltA l a ((i+j)/2)=decide (cmpI y.a a<0):=by simp[ltA,ltP,hy]
   (have W:=ndI e1 (ndI e2 (ndI @wrI (ndI @wrU (ndI @half X4z))));(repeat(any_goals(first|((with_reducible refine Q1d ?_ ?_ ?_);rfl;rfl;intro K hK;((apply Q0x (Q5k y a);rfl;rfl;rfl;rfl;exact Try.func93);kernel_rfl;rfl;(focus((simp(disch:=omega) only[go_sem,W,Int.reduceToNat]);(try rfl);done));(first|rfl|simp[AV.inNL,AV.inN]));(simp(disch:=omega) only[go_sem,W,Int.reduceToNat];refine hK _ ?_;clear hK K))|((with_reducible refine Q0g ?_ ?_);rfl;intro K hK;simp(disch:=omega) only[go_sem,W,Int.reduceToNat];((repeat(refine ndI (by first|assumption|omega|rfl) ?_));refine hK _ ?_;clear hK K))|(with_reducible first|(refine Q0i ?_;refine hR _ ?_;clear hR R)|((first|refine Q0h ?_|refine Q0c ?_);intro Ψ hΨ hΨ')|(refine Q0b ?_;intro R hR)|(refine hΨ _ ?_;clear hΨ hΨ' Ψ)|refine Q0d ?_|refine Q0j ?_|refine Q0e ?_)|((with_reducible refine hΨ' _ _ ?_ ?_);(focus(simp;done));clear hΨ hΨ' Ψ)|((with_reducible apply Q1e);rfl;rfl;rfl;(try simp(disch:=omega) only[go_sem,W,Int.reduceToNat]))|((with_reducible apply Q1l);rfl;rfl;rfl;all_goals(intro hb;first|(cases hb;done)|((try simp only[Bool.not_true,Bool.not_false] at hb);(first|((with_reducible intro K hK);simp(disch:=omega) only[go_sem,W,Int.reduceToNat];((repeat(refine ndI (by first|assumption|omega|rfl) ?_));refine hK _ ?_;clear hK K))|((fail_if_success (with_reducible intro _));simp(disch:=omega) only[go_sem,W,Int.reduceToNat])))))|((with_reducible apply Q0f);rfl;rfl;all_goals(intro hc;first|(cases hc;done)|(try simp only at hc)))))))
   · exact hΨ _ ⟨((i+j)/2+1,j),by simp only;omega,h2,bsr_up hlt (by rw[e8];exact hc) h3⟩ (by simp only;omega) (St.le_of (by simp[leT]) (by simp[leH,hget]))
   · exact hΨ _ ⟨(i,(i+j)/2),by simp only;omega,by simp only;omega,bsr_dn hlt (by rw[e8];exact hc) h3⟩ (by simp only;omega) (St.le_of (by simp[leT]) (by simp[leH,hget]))
 · have e1:(decide ((i:Int)<(j:Int)))=false:=by simpa using hge
   obtain rfl:i=j:=by omega
   rw[Nat.sub_self] at h3
   obtain rfl:i=r:=h3
   rcases Nat.lt_or_ge i l.length with hlt|hge
   · have e3:(decide ((i:Int)<(l.length:Int)))=true:=by simpa using hlt
     obtain⟨y,hy⟩:∃y,l[i]? = some y:=⟨l[i],List.getElem?_eq_getElem hlt⟩
     have e2:=X2w hy
     (have W:=ndI e1 (ndI e2 e3);(repeat(any_goals(first|((with_reducible refine Q1d ?_ ?_ ?_);rfl;rfl;intro K hK;((apply Q0x (Q5k y a);rfl;rfl;rfl;rfl;exact Try.func93);kernel_rfl;rfl;(focus((simp(disch:=omega) only[go_sem,W]);(try rfl);done));(first|rfl|simp[AV.inNL,AV.inN]));(simp(disch:=omega) only[go_sem,W];refine hK _ ?_;clear hK K))|((with_reducible refine Q0g ?_ ?_);rfl;intro K hK;simp(disch:=omega) only[go_sem,W];((repeat(refine ndI (by first|assumption|omega|rfl) ?_));refine hK _ ?_;clear hK K))|(with_reducible first|(refine Q0i ?_;refine hR _ ?_;clear hR R)|((first|refine Q0h ?_|refine Q0c ?_);intro Ψ hΨ hΨ')|(refine Q0b ?_;intro R hR)|(refine hΨ _ ?_;clear hΨ hΨ' Ψ)|refine Q0d ?_|refine Q0j ?_|refine Q0e ?_)|((with_reducible refine hΨ' _ _ ?_ ?_);(focus(simp;done));clear hΨ hΨ' Ψ)|((with_reducible apply Q1e);rfl;rfl;rfl;(try simp(disch:=omega) only[go_sem,W]))|((with_reducible apply Q1l);rfl;rfl;rfl;all_goals(intro hb;first|(cases hb;done)|((try simp only[Bool.not_true,Bool.not_false] at hb);(first|((with_reducible intro K hK);(first|((apply Q0x (Q5k y a);rfl;rfl;rfl;rfl;exact Try.func93);kernel_rfl;rfl;(focus((simp(disch:=omega) only[go_sem,W]);(try rfl);done));(first|rfl|simp[AV.inNL,AV.inN]))|skip);simp(disch:=omega) only[go_sem,W];((repeat(refine ndI (by first|assumption|omega|rfl) ?_));refine hK _ ?_;clear hK K))|((fail_if_success (with_reducible intro _));simp(disch:=omega) only[go_sem,W])))))|((with_reducible apply Q0f);rfl;rfl;all_goals(intro hc;first|(cases hc;done)|(try simp only at hc)))))))
     all_goals(refine⟨by simp,⟨_,?_,AV.le_refl _⟩,Q0y (by simp[leH,hget])⟩;simp only[Try.results92,resL,ldA,Q1o,go_sem])
     all_goals simp[eqA,eqP,hr,hy]
   · have e3:(decide ((i:Int)<(l.length:Int)))=false:=by simpa using hge
     have e4:l[i]? = none:=List.getElem?_eq_none hge
     (repeat(any_goals(first|((with_reducible refine Q0g ?_ ?_);rfl;intro K hK;simp(disch:=omega) only[go_sem,e1,e3];((repeat(refine ndI (by first|assumption|omega|rfl) ?_));refine hK _ ?_;clear hK K))|(with_reducible first|(refine Q0i ?_;refine hR _ ?_;clear hR R)|((first|refine Q0h ?_|refine Q0c ?_);intro Ψ hΨ hΨ')|(refine Q0b ?_;intro R hR)|(refine hΨ _ ?_;clear hΨ hΨ' Ψ)|refine Q0d ?_|refine Q0j ?_|refine Q0e ?_)|((with_reducible refine hΨ' _ _ ?_ ?_);(focus(simp;done));clear hΨ hΨ' Ψ)|((with_reducible apply Q1e);rfl;rfl;rfl;(try simp(disch:=omega) only[go_sem,e1,e3]))|((with_reducible apply Q1l);rfl;rfl;rfl;all_goals(intro hb;first|(cases hb;done)|((try simp only[Bool.not_true,Bool.not_false] at hb);(first|((with_reducible intro K hK);simp(disch:=omega) only[go_sem,e1,e3];((repeat(refine ndI (by first|assumption|omega|rfl) ?_));refine hK _ ?_;clear hK K))|((fail_if_success (with_reducible intro _));simp(disch:=omega) only[go_sem,e1,e3])))))|((with_reducible apply Q0f);rfl;rfl;all_goals(intro hc;first|(cases hc;done)|(try simp only at hc))))))
     all_goals(refine⟨by simp,⟨_,?_,AV.le_refl _⟩,Q0y (by simp[leH,hget])⟩;simp only[Try.results92,resL,ldA,Q1o,go_sem])
     all_goals simp[eqA,eqP,hr,e4]
theorem X0g(ex:Bool)(L:List Ac)(hl:L.length≤900)(a:Int):Fn Try.prog 77 [stA ex L,vi .u64 a] [] (.tup [vi .i64 (bsr (ltA L a) L.length 0 L.length:Nat),vb (eqA L a (bsr (ltA L a) L.length 0 L.length))]) []:=by
 (refine Q1q Try.func77 rfl (by rfl) ?_;simp only[Try.ntmps77,List.length_cons,List.length_nil,Nat.reduceAdd,Nat.reduceSub,List.replicate,List.cons_append,List.nil_append])
 (repeat(any_goals(first|((with_reducible refine Q1d ?_ ?_ ?_);rfl;rfl;intro K hK;((apply Q0x (bsfA_fn ex L (by omega) a);rfl;rfl;rfl;rfl;exact Try.func92);kernel_rfl;rfl;(focus((simp only[go_sem]);(try rfl);done));(first|rfl|simp[AV.inNL,AV.inN]));(simp only[go_sem];refine hK _ ?_;clear hK K))|((with_reducible refine Q0g ?_ ?_);rfl;intro K hK;simp only[go_sem];((repeat(refine ndI (by first|assumption|omega|rfl) ?_));refine hK _ ?_;clear hK K))|(with_reducible first|(refine Q0i ?_;refine hR _ ?_;clear hR R)|((first|refine Q0h ?_|refine Q0c ?_);intro Ψ hΨ hΨ')|(refine Q0b ?_;intro R hR)|(refine hΨ _ ?_;clear hΨ hΨ' Ψ)|refine Q0d ?_|refine Q0j ?_|refine Q0e ?_)|((with_reducible refine hΨ' _ _ ?_ ?_);(focus(simp;done));clear hΨ hΨ' Ψ)|((with_reducible apply Q0f);rfl;rfl;all_goals(intro hc;first|(cases hc;done)|(try simp only at hc))))))
 all_goals(refine⟨by simp,⟨_,?_,AV.le_refl _⟩,Q0y (by simp[leH,hget])⟩;simp only[Try.results77,resL,ldA,Q1o,go_sem])
end
section
open Go.RowKit
open Nat (reduceBEq)
set_option maxRecDepth 20000
set_option maxHeartbeats 2000000
def rcB(l:List Nat):List AV:=(l.flatMap bpv).map .c
theorem rcB_len(l:List Nat):(rcB l).length=l.length:=by unfold rcB;rw[List.length_map,Q1u X3y,Nat.mul_one]
def rcP(l:List Pr):List AV:=(l.flatMap Pr.pv).map .c
theorem rcP_len(l:List Pr):(rcP l).length=l.length*8:=by unfold rcP;rw[List.length_map,Q1u X4k]
theorem cloneB_fn(ex:Bool)(l:List Nat)(hl:l.length≤1000000):Fn Try.prog 94 [.c (.sl ex 1 l.length (l.flatMap bpv))] [] (.row 7 5 1 l.length) [(7,rcB l)]:=by
 have e1:=rcB_len l
 unfold rcB at e1 ⊢
 (refine Q1q Try.func94 rfl (by rfl) ?_;simp only[Try.ntmps94,List.length_cons,List.length_nil,Nat.reduceAdd,Nat.reduceSub,List.replicate,List.cons_append,List.nil_append])
 (repeat(any_goals(first|((have hz0:=hb0 hc);(with_reducible refine Q3t ?_ ?_);rfl;intro K hK;refine OpA.nilrow_after 2 7 5 1 (Q3q ?_);(simp(disch:=omega) only[go_sem,e1,Q0z,Nat.mul_one]);(repeat(refine And.intro (by first|assumption|omega|rfl|decide) ?_));refine hK _ ?_;clear hK K;clear hb0)|((with_reducible refine Q0g ?_ ?_);rfl;intro K hK;simp(disch:=omega) only[go_sem,e1,Q0z,Nat.mul_one];((repeat(refine ndI (by first|assumption|omega|rfl) ?_));refine hK _ ?_;clear hK K))|((with_reducible refine Q0g ?_ ?_);rfl;intro K hK;refine Q8x rfl rfl (by first|exact .inl rfl|exact .inr rfl) ?_ rfl ?_;(focus(simp(disch:=omega) only[go_sem];try rfl));(intro b hb0;simp(disch:=omega) only[eq_self,go_sem,e1,Q0z,Nat.mul_one];(with_reducible refine hK _ ?_);clear hK K))|((with_reducible refine Q0g ?_ ?_);rfl;intro K hK;simp(disch:=omega) only[go_sem,e1,Q0z,Nat.mul_one];(repeat(refine And.intro rfl ?_));(refine Q7l rfl rfl (by first|exact .inl rfl|exact .inr rfl) ?_ rfl ?_);(focus(simp(disch:=omega) only[go_sem];try rfl));(simp(disch:=omega) only[eq_self,go_sem,e1,Q0z,Nat.mul_one];(with_reducible refine hK _ ?_);clear hK K))|(with_reducible first|(refine Q0i ?_;refine hR _ ?_;clear hR R)|((first|refine Q0h ?_|refine Q0c ?_);intro Ψ hΨ hΨ')|(refine Q0b ?_;intro R hR)|(refine hΨ _ ?_;clear hΨ hΨ' Ψ)|refine Q0d ?_|refine Q0j ?_|refine Q0e ?_)|((with_reducible refine hΨ' _ _ ?_ ?_);(focus(simp;done));clear hΨ hΨ' Ψ)|((with_reducible apply Q0f);rfl;rfl;all_goals(intro hc;first|(cases hc;done)|(try simp only at hc))))))
 all_goals(try(obtain rfl:=List.eq_nil_of_length_eq_zero hz0))
 all_goals exact⟨by simp,⟨_,rfl,AV.le_refl _⟩,Q0y (by simp[leH,hget])⟩
theorem cloneP_fn(ex:Bool)(l:List Pr)(hl:l.length≤1000000):Fn Try.prog 95 [.c (.sl ex 8 l.length (l.flatMap Pr.pv))] [] (.row 7 135 8 l.length) [(7,rcP l)]:=by
 have e1:=rcP_len l
 unfold rcP at e1 ⊢
 (refine Q1q Try.func95 rfl (by rfl) ?_;simp only[Try.ntmps95,List.length_cons,List.length_nil,Nat.reduceAdd,Nat.reduceSub,List.replicate,List.cons_append,List.nil_append])
 (repeat(any_goals(first|((have hz0:=hb0 hc);(with_reducible refine Q3t ?_ ?_);rfl;intro K hK;refine OpA.nilrow_after 2 7 135 8 (Q3q ?_);(simp(disch:=omega) only[go_sem,e1,Q0z]);(repeat(refine And.intro (by first|assumption|omega|rfl|decide) ?_));refine hK _ ?_;clear hK K;clear hb0)|((with_reducible refine Q0g ?_ ?_);rfl;intro K hK;simp(disch:=omega) only[go_sem,e1,Q0z];((repeat(refine ndI (by first|assumption|omega|rfl) ?_));refine hK _ ?_;clear hK K))|((with_reducible refine Q0g ?_ ?_);rfl;intro K hK;refine Q8x rfl rfl (by first|exact .inl rfl|exact .inr rfl) ?_ rfl ?_;(focus(simp(disch:=omega) only[go_sem];try rfl));(intro b hb0;simp(disch:=omega) only[eq_self,go_sem,e1,Q0z];(with_reducible refine hK _ ?_);clear hK K))|((with_reducible refine Q0g ?_ ?_);rfl;intro K hK;simp(disch:=omega) only[go_sem,e1,Q0z];(repeat(refine And.intro rfl ?_));(refine Q7l rfl rfl (by first|exact .inl rfl|exact .inr rfl) ?_ rfl ?_);(focus(simp(disch:=omega) only[go_sem];try rfl));(simp(disch:=omega) only[eq_self,go_sem,e1,Q0z];(with_reducible refine hK _ ?_);clear hK K))|(with_reducible first|(refine Q0i ?_;refine hR _ ?_;clear hR R)|((first|refine Q0h ?_|refine Q0c ?_);intro Ψ hΨ hΨ')|(refine Q0b ?_;intro R hR)|(refine hΨ _ ?_;clear hΨ hΨ' Ψ)|refine Q0d ?_|refine Q0j ?_|refine Q0e ?_)|((with_reducible refine hΨ' _ _ ?_ ?_);(focus(simp;done));clear hΨ hΨ' Ψ)|((with_reducible apply Q0f);rfl;rfl;all_goals(intro hc;first|(cases hc;done)|(try simp only at hc))))))
 all_goals(try(obtain rfl:=List.eq_nil_of_length_eq_zero hz0))
 all_goals exact⟨by simp,⟨_,rfl,AV.le_refl _⟩,Q0y (by simp[leH,hget])⟩
theorem X5n(x:Ac)(hc:x.code.length≤1000000)(hs:x.store.length≤1000000):Fn Try.prog 78 [acA x] [] (.agg [vi .u64 x.a,vi .u64 (l0 x.b),vi .u64 (l1 x.b),vi .u64 (l2 x.b),vi .u64 (l3 x.b),vi .u64 x.n,.row 5 5 1 x.code.length,.row 8 135 8 x.store.length]) [(5,rcB x.code),(8,rcP x.store)]:=by
 have c1:=cloneB_fn false x.code hc
 have c2:=cloneP_fn false x.store hs
 obtain⟨a,b,n,code,store⟩:=x
 dsimp only at hc hs c1 c2 ⊢
 have r1:∀d,AV.refsL d ((code.flatMap bpv).map AV.c)=false:=fun d=>Q0z d _
 have r2:∀d,AV.refsL d ((store.flatMap Pr.pv).map AV.c)=false:=fun d=>Q0z d _
 have e1:((code.flatMap bpv).map AV.c).length=code.length:=by rw[List.length_map,Q1u X3y,Nat.mul_one]
 have e2:((store.flatMap Pr.pv).map AV.c).length=store.length*8:=by rw[List.length_map,Q1u X4k]
 unfold rcB at c1 ⊢
 unfold rcP at c2 ⊢
 (refine Q1q Try.func78 rfl (by rfl) ?_;simp only[Try.ntmps78,List.length_cons,List.length_nil,Nat.reduceAdd,Nat.reduceSub,List.replicate,List.cons_append,List.nil_append])
 (repeat(any_goals(first|((with_reducible refine Q0g ?_ ?_);rfl;intro K hK;simp only[go_sem];((repeat(refine ndI (by first|assumption|omega|rfl) ?_));refine hK _ ?_;clear hK K))|(with_reducible first|(refine Q0i ?_;refine hR _ ?_;clear hR R)|((first|refine Q0h ?_|refine Q0c ?_);intro Ψ hΨ hΨ')|(refine Q0b ?_;intro R hR)|(refine hΨ _ ?_;clear hΨ hΨ' Ψ)|refine Q0d ?_|refine Q0j ?_|refine Q0e ?_)|((with_reducible refine hΨ' _ _ ?_ ?_);(focus(simp;done));clear hΨ hΨ' Ψ)|((with_reducible apply Q0f);rfl;rfl;all_goals(intro hc;first|(cases hc;done)|(try simp only at hc)))|((with_reducible refine Q0t ?_ ?_);kernel_rfl;(with_reducible refine hR _ ?_);clear hR R)|(((with_reducible apply Q0u);rfl;rfl;(simp only[rdE,rdOf,go_sem];rfl);(intro τ hA hQ hN;((try simp only[Q1h,Op.operands,Call.operands,go_sem,List.mem_cons,List.not_mem_nil,forall_eq_or_imp,forall_eq,List.append_toArray,Option.toArray] at hA);(try simp only[go_sem,List.mem_cons,List.not_mem_nil,forall_eq_or_imp,forall_eq] at hQ hN);(first|(revert hA;intro hA)|have hA:=trivial);(first|(revert hQ;intro hQ)|have hQ:=trivial);(first|(revert hN;intro hN)|have hN:=trivial);simp only[go_sem,hA,hQ,hN];(repeat(refine ndI (by first|assumption|omega|rfl) ?_));(first|apply Q1b|apply Q1a|apply Q0w))));(simp only[St.eff,setO,Q0q,go_sem])))))
 refine X3t 10 (by decide) (by kernel_rfl) (by kernel_rfl) (by kernel_rfl) (by kernel_rfl) (by simp[Q0m,Q1j,St.free,Q1i,AV.refsL,AV.refs]) ?_
 intro R hR
 simp only[List.take_succ_cons,List.take_zero,List.drop_succ_cons,List.drop_zero] at hR ⊢
 (repeat(any_goals(first|((with_reducible refine Q0g ?_ ?_);rfl;intro K hK;simp only[go_sem];((repeat(refine ndI (by first|assumption|omega|rfl) ?_));refine hK _ ?_;clear hK K))|(with_reducible first|(refine Q0i ?_;refine hR _ ?_;clear hR R)|((first|refine Q0h ?_|refine Q0c ?_);intro Ψ hΨ hΨ')|(refine Q0b ?_;intro R hR)|(refine hΨ _ ?_;clear hΨ hΨ' Ψ)|refine Q0d ?_|refine Q0j ?_|refine Q0e ?_)|((with_reducible refine hΨ' _ _ ?_ ?_);(focus(simp;done));clear hΨ hΨ' Ψ)|((with_reducible apply Q0f);rfl;rfl;all_goals(intro hc;first|(cases hc;done)|(try simp only at hc)))|((with_reducible refine Q0t ?_ ?_);kernel_rfl;(with_reducible refine hR _ ?_);clear hR R)|(((with_reducible apply Q0u);rfl;rfl;(simp only[rdE,rdOf,go_sem];rfl);(intro τ hA hQ hN;((try simp only[Q1h,Op.operands,Call.operands,go_sem,List.mem_cons,List.not_mem_nil,forall_eq_or_imp,forall_eq,List.append_toArray,Option.toArray] at hA);(try simp only[go_sem,List.mem_cons,List.not_mem_nil,forall_eq_or_imp,forall_eq] at hQ hN);(first|(revert hA;intro hA)|have hA:=trivial);(first|(revert hQ;intro hQ)|have hQ:=trivial);(first|(revert hN;intro hN)|have hN:=trivial);simp only[go_sem,hA,hQ,hN];(repeat(refine ndI (by first|assumption|omega|rfl) ?_));(first|apply Q1b|apply Q1a|apply Q0w))));(simp only[St.eff,setO,Q0q,go_sem]))|((with_reducible refine Q0p ?_ ?_ ?_ ?_);kernel_rfl;kernel_rfl;(first|kernel_rfl|simp[Q0m,Q1j,St.free,Q1i,AV.refsL,AV.refs]);intro R hR))))
 refine Q7t c1 rfl rfl rfl rfl rfl Try.func94 (by kernel_rfl) rfl ?_ rfl (by omega) ?_
 · simp only[Q1t,Q2h,AV.ren,go_sem]
 simp only[St.eff,setO,Q0q,go_sem]
 (repeat(any_goals(first|((with_reducible refine Q0g ?_ ?_);rfl;intro K hK;simp only[go_sem,r1,r2];((repeat(refine ndI (by first|assumption|omega|rfl) ?_));refine hK _ ?_;clear hK K))|(with_reducible first|(refine Q0i ?_;refine hR _ ?_;clear hR R)|((first|refine Q0h ?_|refine Q0c ?_);intro Ψ hΨ hΨ')|(refine Q0b ?_;intro R hR)|(refine hΨ _ ?_;clear hΨ hΨ' Ψ)|refine Q0d ?_|refine Q0j ?_|refine Q0e ?_)|((with_reducible refine hΨ' _ _ ?_ ?_);(focus(simp;done));clear hΨ hΨ' Ψ)|((with_reducible apply Q0f);rfl;rfl;all_goals(intro hc;first|(cases hc;done)|(try simp only at hc)))|((with_reducible refine Q0t ?_ ?_);kernel_rfl;(with_reducible refine hR _ ?_);clear hR R)|(((with_reducible apply Q0u);rfl;rfl;(simp only[rdE,rdOf,go_sem,r1,r2];rfl);(intro τ hA hQ hN;((try simp only[Q1h,Op.operands,Call.operands,go_sem,r1,r2,go_sem,List.mem_cons,List.not_mem_nil,forall_eq_or_imp,forall_eq,List.append_toArray,Option.toArray] at hA);(try simp only[go_sem,r1,r2,List.mem_cons,List.not_mem_nil,forall_eq_or_imp,forall_eq] at hQ hN);(first|(revert hA;intro hA)|have hA:=trivial);(first|(revert hQ;intro hQ)|have hQ:=trivial);(first|(revert hN;intro hN)|have hN:=trivial);simp only[go_sem,r1,r2,go_sem,hA,hQ,hN];(repeat(refine ndI (by first|assumption|omega|rfl) ?_));(first|apply Q1b|apply Q1a|apply Q0w))));(simp only[St.eff,setO,Q0q,go_sem,r1,r2]))|((with_reducible refine Q0p ?_ ?_ ?_ ?_);kernel_rfl;kernel_rfl;(first|kernel_rfl|simp[Q0m,Q1j,St.free,Q1i,AV.refsL,AV.refs]);intro R hR))))
 refine Q7t c2 rfl rfl rfl rfl rfl Try.func95 (by kernel_rfl) rfl ?_ rfl (by omega) ?_
 · simp only[Q1t,Q2h,AV.ren,go_sem]
 simp only[St.eff,setO,Q0q,go_sem]
 (have W:=ndI r1 (ndI r2 (ndI e1 e2));(repeat(any_goals(first|((with_reducible refine Q0g ?_ ?_);rfl;intro K hK;simp only[go_sem,W];((repeat(refine ndI (by first|assumption|omega|rfl) ?_));refine hK _ ?_;clear hK K))|(with_reducible first|(refine Q0i ?_;refine hR _ ?_;clear hR R)|((first|refine Q0h ?_|refine Q0c ?_);intro Ψ hΨ hΨ')|(refine Q0b ?_;intro R hR)|(refine hΨ _ ?_;clear hΨ hΨ' Ψ)|refine Q0d ?_|refine Q0j ?_|refine Q0e ?_)|((with_reducible refine hΨ' _ _ ?_ ?_);(focus(simp;done));clear hΨ hΨ' Ψ)|((with_reducible apply Q0f);rfl;rfl;all_goals(intro hc;first|(cases hc;done)|(try simp only at hc)))|((with_reducible refine Q0t ?_ ?_);(apply Q1f);(focus(repeat(first|exact Sims.nil|((apply Sims.cons);(focus(first|((apply Ef.sim_row);assumption)|exact Ef.sim_refl _))))));kernel_rfl;(with_reducible refine hR _ ?_);clear hR R)|(((with_reducible apply Q0u);rfl;rfl;(simp only[rdE,rdOf,go_sem,W];rfl);(intro τ hA hQ hN;((try simp only[Q1h,Op.operands,Call.operands,go_sem,W,go_sem,List.mem_cons,List.not_mem_nil,forall_eq_or_imp,forall_eq,List.append_toArray,Option.toArray] at hA);(try simp only[go_sem,W,List.mem_cons,List.not_mem_nil,forall_eq_or_imp,forall_eq] at hQ hN);(first|(revert hA;intro hA)|have hA:=trivial);(first|(revert hQ;intro hQ)|have hQ:=trivial);(first|(revert hN;intro hN)|have hN:=trivial);simp only[go_sem,W,go_sem,hA,hQ,hN];(repeat(refine ndI (by first|assumption|omega|rfl) ?_));(first|apply Q1b|apply Q1a|apply Q0w))));(simp only[St.eff,setO,Q0q,go_sem,W]))|((with_reducible refine Q0p ?_ ?_ ?_ ?_);kernel_rfl;kernel_rfl;(first|kernel_rfl|simp[Q0m,Q1j,St.free,Q1i,AV.refsL,AV.refs]);intro R hR)))))
 refine Q0i ?_
 (repeat(any_goals(first|((with_reducible refine Q0g ?_ ?_);rfl;intro K hK;simp only[go_sem,r1,r2];((repeat(refine ndI (by first|assumption|omega|rfl) ?_));refine hK _ ?_;clear hK K))|(with_reducible first|(refine Q0i ?_;refine hR _ ?_;clear hR R)|((first|refine Q0h ?_|refine Q0c ?_);intro Ψ hΨ hΨ')|(refine Q0b ?_;intro R hR)|(refine hΨ _ ?_;clear hΨ hΨ' Ψ)|refine Q0d ?_|refine Q0j ?_|refine Q0e ?_)|((with_reducible refine hΨ' _ _ ?_ ?_);(focus(simp;done));clear hΨ hΨ' Ψ)|((with_reducible apply Q0f);rfl;rfl;all_goals(intro hc;first|(cases hc;done)|(try simp only at hc)))|((with_reducible refine Q0t ?_ ?_);kernel_rfl;(with_reducible refine hR _ ?_);clear hR R)|(((with_reducible apply Q0u);rfl;rfl;(simp only[rdE,rdOf,go_sem,r1,r2];rfl);(intro τ hA hQ hN;((try simp only[Q1h,Op.operands,Call.operands,go_sem,r1,r2,go_sem,List.mem_cons,List.not_mem_nil,forall_eq_or_imp,forall_eq,List.append_toArray,Option.toArray] at hA);(try simp only[go_sem,r1,r2,List.mem_cons,List.not_mem_nil,forall_eq_or_imp,forall_eq] at hQ hN);(first|(revert hA;intro hA)|have hA:=trivial);(first|(revert hQ;intro hQ)|have hQ:=trivial);(first|(revert hN;intro hN)|have hN:=trivial);simp only[go_sem,r1,r2,go_sem,hA,hQ,hN];(repeat(refine ndI (by first|assumption|omega|rfl) ?_));(first|apply Q1b|apply Q1a|apply Q0w))));(simp only[St.eff,setO,Q0q,go_sem,r1,r2]))|((with_reducible refine Q0p ?_ ?_ ?_ ?_);kernel_rfl;kernel_rfl;(first|kernel_rfl|simp[Q0m,Q1j,St.free,Q1i,AV.refsL,AV.refs]);intro R hR))))
 all_goals(refine⟨by simp,⟨_,?_,AV.le_refl _⟩,Q0y (by simp[leH,hget])⟩;simp only[Try.results78,resL,ldA,Q1o,go_sem])
end
section
open Go.RowKit
open Nat (reduceBEq)
set_option maxRecDepth 20000
set_option maxHeartbeats 2000000
def posS(L:List Ac)(a:Int):Nat:=bsr (ltA L a) L.length 0 L.length
def isS(L:List Ac)(a:Int):Bool:=eqA L a (posS L a)
theorem isS_at{L:List Ac}{a:Int}(h:isS L a=true):∃x,L[posS L a]? = some x∧x.a=a:=by
 unfold isS eqA at h
 cases hx:L[posS L a]? with
 |none=>rw[hx] at h;cases h
 |some x=>
  rw[hx] at h
  refine⟨x,rfl,?_⟩
  simp only[cmpI,beq_iff_eq] at h
  split at h
  · cases h
  · split at h
    · cases h
    · omega
def ofS(L:List Ac)(a:Int):Ac:=if isS L a then(L[posS L a]?).getD ⟨a,0,0,[],[]⟩ else⟨a,0,0,[],[]⟩
theorem posS_fn(ex:Bool)(L:List Ac)(hl:L.length≤900)(a:Int):Fn Try.prog 77 [stA ex L,vi .u64 a] [] (.tup [vi .i64 (posS L a:Nat),vb (isS L a)]) []:=X0g ex L hl a
abbrev acR(x:Ac)(r s:Nat):AV:=.agg [vi .u64 x.a,vi .u64 (l0 x.b),vi .u64 (l1 x.b),vi .u64 (l2 x.b),vi .u64 (l3 x.b),vi .u64 x.n,.row r 5 1 x.code.length,.row s 135 8 x.store.length]
theorem of_row(ex:Bool)(L:List Ac)(hl:L.length≤900)(ok:∀x∈L,x.code.length≤1000000∧x.store.length≤1000000)(a:Int)(h:isS L a=true):Fn Try.prog 57 [stA ex L,vi .u64 a] [] (acR (ofS L a) 5 8) [(5,rcB (ofS L a).code),(8,rcP (ofS L a).store)]:=by
 have pl:=posS_fn ex L hl a
 obtain⟨x,hx,rfl⟩:=isS_at h
 have hof:ofS L x.a=x:=by unfold ofS;rw[if_pos h,hx];rfl
 rw[hof]
 rw[h] at pl
 generalize posS L x.a=p at pl hx
 have hp:=(List.getElem?_eq_some_iff.1 hx).1
 have k2:=X2w hx
 obtain⟨g1,g2⟩:=ok x (List.mem_of_getElem? hx)
 have cp:=X5n x g1 g2
 unfold rcB rcP at cp ⊢
 (refine Q1q Try.func57 rfl (by rfl) ?_;simp only[Try.ntmps57,List.length_cons,List.length_nil,Nat.reduceAdd,Nat.reduceSub,List.replicate,List.cons_append,List.nil_append])
 (repeat(any_goals(first|((with_reducible refine Q1d ?_ ?_ ?_);rfl;rfl;intro K hK;(first|((apply Q0x (pl);rfl;rfl;rfl;rfl;exact Try.func77);kernel_rfl;rfl;(focus((simp(disch:=omega) only[go_sem,k2,Q0z]);(try rfl);done));(first|rfl|simp[AV.inNL,AV.inN]))|(apply Q1n (cp) (fun r=>r);rfl;rfl;rfl;rfl;exact Try.func78;kernel_rfl;rfl;rfl;(intro r hr q hq h;simp(disch:=omega) only[List.map_cons,List.map_nil,List.cons_append,List.nil_append,List.mem_cons,List.not_mem_nil,or_false] at hr hq;(try dsimp only at h);first|omega|(rcases hr with rfl|rfl|rfl<;>rcases hq with rfl|rfl|rfl<;>simp at h ⊢)|(rcases hr with rfl|rfl<;>rcases hq with rfl|rfl<;>simp at h ⊢)|((repeat' split at h)<;>omega));(simp(disch:=omega) only[Q1t,Q2h,AV.ren,AV.renL,Q1c,List.mem_cons,List.not_mem_nil,forall_eq_or_imp,forall_eq,Q2d,List.contains_cons,List.contains_nil,AV.refsL,AV.refs,Q0z,AV.inN,AV.inNL,inH,Q1k,go_sem,k2,Q0z])));(simp(disch:=omega) only[Q0q,Q2k,renH,AV.ren,AV.renL,Q1c,go_sem,k2,Q0z];refine hK _ ?_;clear hK K))|((with_reducible refine Q0g ?_ ?_);rfl;intro K hK;simp(disch:=omega) only[go_sem,k2,Q0z];((repeat(refine ndI (by first|assumption|omega|rfl) ?_));refine hK _ ?_;clear hK K))|(with_reducible first|(refine Q0i ?_;refine hR _ ?_;clear hR R)|((first|refine Q0h ?_|refine Q0c ?_);intro Ψ hΨ hΨ')|(refine Q0b ?_;intro R hR)|(refine hΨ _ ?_;clear hΨ hΨ' Ψ)|refine Q0d ?_|refine Q0j ?_|refine Q0e ?_)|((with_reducible refine hΨ' _ _ ?_ ?_);(focus(simp;done));clear hΨ hΨ' Ψ)|((with_reducible apply Q0f);rfl;rfl;all_goals(intro hc;first|(cases hc;done)|(try simp only at hc))))))
 all_goals(refine⟨by simp,⟨_,?_,AV.le_refl _⟩,Q0y (by simp[leH,hget])⟩;simp only[Try.results57,resL,ldA,Q1o,go_sem])
theorem of_nil(ex:Bool)(L:List Ac)(hl:L.length≤900)(a:Int)(h:isS L a=false):Fn Try.prog 57 [stA ex L,vi .u64 a] [] (.agg [vi .u64 a,vi .u64 0,vi .u64 0,vi .u64 0,vi .u64 0,vi .u64 0,.c (.v (.slice none 0 0)),.c (.v (.slice none 0 0))]) []:=by
 have pl:=posS_fn ex L hl a
 rw[h] at pl
 generalize posS L a=p at pl
 (refine Q1q Try.func57 rfl (by rfl) ?_;simp only[Try.ntmps57,List.length_cons,List.length_nil,Nat.reduceAdd,Nat.reduceSub,List.replicate,List.cons_append,List.nil_append])
 (repeat(any_goals(first|((with_reducible refine Q1d ?_ ?_ ?_);rfl;rfl;intro K hK;((apply Q0x (pl);rfl;rfl;rfl;rfl;exact Try.func77);kernel_rfl;rfl;(focus((simp only[go_sem]);(try rfl);done));(first|rfl|simp[AV.inNL,AV.inN]));(simp only[go_sem];refine hK _ ?_;clear hK K))|((with_reducible refine Q0g ?_ ?_);rfl;intro K hK;simp only[go_sem];((repeat(refine ndI (by first|assumption|omega|rfl) ?_));refine hK _ ?_;clear hK K))|(with_reducible first|(refine Q0i ?_;refine hR _ ?_;clear hR R)|((first|refine Q0h ?_|refine Q0c ?_);intro Ψ hΨ hΨ')|(refine Q0b ?_;intro R hR)|(refine hΨ _ ?_;clear hΨ hΨ' Ψ)|refine Q0d ?_|refine Q0j ?_|refine Q0e ?_)|((with_reducible refine hΨ' _ _ ?_ ?_);(focus(simp;done));clear hΨ hΨ' Ψ)|((with_reducible apply Q0f);rfl;rfl;all_goals(intro hc;first|(cases hc;done)|(try simp only at hc))))))
 all_goals(refine⟨by simp,⟨_,?_,AV.le_refl _⟩,Q0y (by simp[leH,hget])⟩;simp only[Try.results57,resL,ldA,Q1o,go_sem])
theorem of_none(ex:Bool)(L:List Ac)(hl:L.length≤900)(a:Int)(h:isS L a=false):Fn Try.prog 57 [stA ex L,vi .u64 a] [] (acA (ofS L a)) []:=by
 have hof:ofS L a=⟨a,0,0,[],[]⟩:=by unfold ofS;rw[h];rfl
 rw[hof]
 have z:=AV.le_agg (a:=[vi .u64 a,vi .u64 0,vi .u64 0,vi .u64 0,vi .u64 0,vi .u64 0,.c (.v (.slice none 0 0)),.c (.v (.slice none 0 0))]) (b:=ac8 a 0 0 (bsV []) (psV [])) ⟨AV.le_refl _,AV.le_of (by rw[Q4i]),AV.le_of (by rw[Q4h]),AV.le_of (by rw[Q4g]),AV.le_of (by rw[Q4f]),AV.le_refl _,AV.le_nil _ _,AV.le_nil _ _,trivial⟩
 exact(of_nil ex L hl a h).weaken z fun r cs h=>by cases h
theorem of_fn(ex:Bool)(L:List Ac)(hl:L.length≤900)(ok:∀x∈L,x.code.length≤1000000∧x.store.length≤1000000)(a:Int):Fn Try.prog 57 [stA ex L,vi .u64 a] [] (acA (ofS L a)) []:=by
 cases h:isS L a with
 |false=>exact of_none ex L hl a h
 |true=>
  have k:=of_row ex L hl ok a h
  generalize ofS L a=x at k ⊢
  have k1:=k.frzN (d:=5) (pcs:=x.code.flatMap bpv) rfl
  have k2:=k1.frzN (d:=8) (pcs:=x.store.flatMap Pr.pv) (by simp[frzH,Q3g,rcP,rcB])
  have e1:(x.code.flatMap bpv).length=x.code.length*1:=Q1u X3y _
  have e2:(x.store.flatMap Pr.pv).length=x.store.length*8:=Q1u X4k _
  simpa [-List.length_flatMap,e1,e2,ac8,AV.frz,AV.frzL,frzH,acA,vi,bsV,psV] using k2
def Okl(L:List Ac):Prop:=L.length≤800∧∀x∈L,x.ok∧x.code.length≤1000000∧x.store.length≤1000000
def Okx(x:Ac):Prop:=x.ok∧x.code.length≤1000000∧x.store.length≤1000000
end
section
open Go.RowKit
set_option maxRecDepth 20000
set_option maxHeartbeats 2000000
theorem X4m{L:List Ac}(h:Okl L):∀x∈L,x.fine:=fun x hx=>⟨(h.2 x hx).1,Nat.le_trans (Nat.add_le_add (h.2 x hx).2.1 (h.2 x hx).2.2) (by decide)⟩
theorem X0p{a:Int}(ha:U a):Okx ⟨a,0,0,[],[]⟩:=
 ⟨⟨ha,(by decide:0<WW),⟨Int.le_refl 0,by show(0:Int)≤_;decide⟩,⟨Nat.zero_le _,fun c h=>by cases h⟩,Nat.zero_le _,fun c h=>by cases h⟩,Nat.zero_le _,Nat.zero_le _⟩
theorem okx_of{L:List Ac}(hL:Okl L){a:Int}(ha:U a):Okx (ofS L a):=by
 unfold ofS
 split
 · cases hx:L[posS L a]? with
   |none=>exact X0p ha
   |some x=>exact hL.2 x (List.mem_of_getElem? hx)
 · exact X0p ha
end
section
open Go.RowKit
open Nat (reduceBEq)
set_option maxRecDepth 20000
set_option maxHeartbeats 2000000
def X1g(L:List Ac):Nat:=if okSt L then(L.map Ac.b).sum%WW else 0
theorem totalS_fn(ex:Bool)(L:List Ac)(hL:Okl L):Fn Try.prog 36 [stA ex L] [] (wN (X1g L)) []:=by
 have ck:=Q8z ex L (by have:=hL.1;omega) (X4m hL)
 have tn:=X1f ex L (by have:=hL.1;omega) fun y hy=>(hL.2 y hy).1.2.1
 unfold X1g
 generalize okSt L=q at ck ⊢
 generalize (L.map Ac.b).sum%WW=m at tn ⊢
 generalize decide (WW≤(L.map Ac.b).sum)=q2 at tn
 cases q
 all_goals simp only[Bool.false_eq_true,if_true,if_false] at ck ⊢
 all_goals(refine Q1q Try.func36 rfl (by rfl) ?_;simp only[Try.ntmps36,List.length_cons,List.length_nil,Nat.reduceAdd,Nat.reduceSub,List.replicate,List.cons_append,List.nil_append])
 all_goals(repeat(any_goals(first|((with_reducible refine Q1d ?_ ?_ ?_);rfl;rfl;intro K hK;((first|(apply Q0x (ck);rfl;rfl;rfl;rfl;exact Try.func49)|(apply Q0x (tn);rfl;rfl;rfl;rfl;exact Try.func50));kernel_rfl;rfl;(focus((simp only[go_sem]);(try rfl);done));(first|rfl|simp[AV.inNL,AV.inN]));(simp only[go_sem];refine hK _ ?_;clear hK K))|((with_reducible refine Q0g ?_ ?_);rfl;intro K hK;simp only[go_sem];((repeat(refine ndI (by first|assumption|omega|rfl) ?_));refine hK _ ?_;clear hK K))|(with_reducible first|(refine Q0i ?_;refine hR _ ?_;clear hR R)|((first|refine Q0h ?_|refine Q0c ?_);intro Ψ hΨ hΨ')|(refine Q0b ?_;intro R hR)|(refine hΨ _ ?_;clear hΨ hΨ' Ψ)|refine Q0d ?_|refine Q0j ?_|refine Q0e ?_)|((with_reducible refine hΨ' _ _ ?_ ?_);(focus(simp;done));clear hΨ hΨ' Ψ)|((with_reducible apply Q0f);rfl;rfl;all_goals(intro hc;first|(cases hc;done)|(try simp only at hc))))))
 all_goals(refine⟨by simp,⟨_,?_,AV.le_refl _⟩,Q0y (by simp[leH,hget])⟩;simp only[Try.results36,resL,ldA,Q1o,go_sem])
 all_goals simp only[wN,Q4i,Q4h,Q4g,Q4f]
def OfS(L:List Ac)(a:Int):Ac:=if okSt L then ofS L a else⟨a,0,0,[],[]⟩
theorem OfS_fn(ex:Bool)(L:List Ac)(hL:Okl L)(a:Int):Fn Try.prog 46 [stA ex L,vi .u64 a] [] (acA (OfS L a)) []:=by
 have ck:=Q8z ex L (by have:=hL.1;omega) (X4m hL)
 have of:=of_fn ex L (by have:=hL.1;omega) (fun y hy=>⟨(hL.2 y hy).2.1,(hL.2 y hy).2.2⟩) a
 unfold OfS
 generalize ofS L a=x at of ⊢
 generalize okSt L=q at ck ⊢
 cases q
 · simp only[Bool.false_eq_true,if_false] at ck ⊢
   have z:=AV.le_agg (a:=[vi .u64 a,vi .u64 0,vi .u64 0,vi .u64 0,vi .u64 0,vi .u64 0,.c (.v (.slice none 0 0)),.c (.v (.slice none 0 0))]) (b:=ac8 a 0 0 (bsV []) (psV [])) ⟨AV.le_refl _,AV.le_of (by rw[Q4i]),AV.le_of (by rw[Q4h]),AV.le_of (by rw[Q4g]),AV.le_of (by rw[Q4f]),AV.le_refl _,AV.le_nil _ _,AV.le_nil _ _,trivial⟩
   have k:Fn Try.prog 46 [stA ex L,vi .u64 a] [] (.agg [vi .u64 a,vi .u64 0,vi .u64 0,vi .u64 0,vi .u64 0,vi .u64 0,.c (.v (.slice none 0 0)),.c (.v (.slice none 0 0))]) []:=by
    (refine Q1q Try.func46 rfl (by rfl) ?_;simp only[Try.ntmps46,List.length_cons,List.length_nil,Nat.reduceAdd,Nat.reduceSub,List.replicate,List.cons_append,List.nil_append])
    (repeat(any_goals(first|((with_reducible refine Q1d ?_ ?_ ?_);rfl;rfl;intro K hK;((apply Q0x (ck);rfl;rfl;rfl;rfl;exact Try.func49);kernel_rfl;rfl;(focus((simp only[go_sem]);(try rfl);done));(first|rfl|simp[AV.inNL,AV.inN]));(simp only[go_sem];refine hK _ ?_;clear hK K))|((with_reducible refine Q0g ?_ ?_);rfl;intro K hK;simp only[go_sem];((repeat(refine ndI (by first|assumption|omega|rfl) ?_));refine hK _ ?_;clear hK K))|(with_reducible first|(refine Q0i ?_;refine hR _ ?_;clear hR R)|((first|refine Q0h ?_|refine Q0c ?_);intro Ψ hΨ hΨ')|(refine Q0b ?_;intro R hR)|(refine hΨ _ ?_;clear hΨ hΨ' Ψ)|refine Q0d ?_|refine Q0j ?_|refine Q0e ?_)|((with_reducible refine hΨ' _ _ ?_ ?_);(focus(simp;done));clear hΨ hΨ' Ψ)|((with_reducible apply Q0f);rfl;rfl;all_goals(intro hc;first|(cases hc;done)|(try simp only at hc))))))
    all_goals(refine⟨by simp,⟨_,?_,AV.le_refl _⟩,Q0y (by simp[leH,hget])⟩;simp only[Try.results46,resL,ldA,Q1o,go_sem])
   exact k.weaken z fun r cs h=>by cases h
 · simp only[if_true] at ck ⊢
   (refine Q1q Try.func46 rfl (by rfl) ?_;simp only[Try.ntmps46,List.length_cons,List.length_nil,Nat.reduceAdd,Nat.reduceSub,List.replicate,List.cons_append,List.nil_append])
   (repeat(any_goals(first|((with_reducible refine Q1d ?_ ?_ ?_);rfl;rfl;intro K hK;((first|(apply Q0x (ck);rfl;rfl;rfl;rfl;exact Try.func49)|(apply Q0x (of);rfl;rfl;rfl;rfl;exact Try.func57));kernel_rfl;rfl;(focus((simp only[go_sem]);(try rfl);done));(first|rfl|simp[AV.inNL,AV.inN]));(simp only[go_sem];refine hK _ ?_;clear hK K))|((with_reducible refine Q0g ?_ ?_);rfl;intro K hK;simp only[go_sem];((repeat(refine ndI (by first|assumption|omega|rfl) ?_));refine hK _ ?_;clear hK K))|(with_reducible first|(refine Q0i ?_;refine hR _ ?_;clear hR R)|((first|refine Q0h ?_|refine Q0c ?_);intro Ψ hΨ hΨ')|(refine Q0b ?_;intro R hR)|(refine hΨ _ ?_;clear hΨ hΨ' Ψ)|refine Q0d ?_|refine Q0j ?_|refine Q0e ?_)|((with_reducible refine hΨ' _ _ ?_ ?_);(focus(simp;done));clear hΨ hΨ' Ψ)|((with_reducible apply Q0f);rfl;rfl;all_goals(intro hc;first|(cases hc;done)|(try simp only at hc))))))
   all_goals(refine⟨by simp,⟨_,?_,AV.le_refl _⟩,Q0y (by simp[leH,hget])⟩;simp only[Try.results46,resL,ldA,Q1o,go_sem])
theorem OfS_ok{L:List Ac}(hL:Okl L){a:Int}(ha:U a):Okx (OfS L a):=by
 unfold OfS
 split
 · exact okx_of hL ha
 · exact X0p ha
end
namespace lg
open Go.RowKit
open Nat (reduceBEq)
set_option maxRecDepth 20000
set_option maxHeartbeats 2000000
def posA(l:List Hd)(a:Int):Nat:=l.findIdx fun h=>decide (a≤h.a)
theorem posA_le(l:List Hd)(a:Int):posA l a≤l.length:=List.findIdx_le_length
theorem posA_at{l:List Hd}{a:Int}{i:Nat}{y:Hd}(h:∀j,j<i→∀n,l[j]? = some n→n.a<a)(hy:l[i]? = some y)(hm:a≤y.a):posA l a=i:=by
 obtain⟨hlt,rfl⟩:=List.getElem?_eq_some_iff.1 hy
 unfold posA
 rw[List.findIdx_eq hlt]
 refine⟨by simpa using hm,fun j hj=>?_⟩
 have:=h j hj _ (List.getElem?_eq_getElem (by omega))
 simp;omega
theorem posA_none{l:List Hd}{a:Int}(h:∀j,j<l.length→∀n,l[j]? = some n→n.a<a):posA l a=l.length:=by
 unfold posA
 rw[List.findIdx_eq_length]
 intro x hx
 obtain⟨j,hj⟩:=List.mem_iff_getElem?.1 hx
 have:=h j (List.getElem?_eq_some_iff.1 hj).1 x hj
 simp;omega
theorem Q5k(x:Int)(p s:Nat)(d f a:Int):Fn Try.prog 82 [h11 x p s d f,.ptr 1003 0] [(1003,[vi .u64 a])] (vb (decide (x≥a))) [(1003,[vi .u64 a])]:=by
 (refine Q1q Try.func82 rfl (by rfl) ?_;simp only[Try.ntmps82,List.length_cons,List.length_nil,Nat.reduceAdd,Nat.reduceSub,List.replicate,List.cons_append,List.nil_append])
 (repeat(any_goals(first|((with_reducible refine Q0g ?_ ?_);rfl;intro K hK;simp only[go_sem];((repeat(refine ndI (by first|assumption|omega|rfl) ?_));refine hK _ ?_;clear hK K))|(with_reducible first|(refine Q0i ?_;refine hR _ ?_;clear hR R)|((first|refine Q0h ?_|refine Q0c ?_);intro Ψ hΨ hΨ')|(refine Q0b ?_;intro R hR)|(refine hΨ _ ?_;clear hΨ hΨ' Ψ)|refine Q0d ?_|refine Q0j ?_|refine Q0e ?_)|((with_reducible refine hΨ' _ _ ?_ ?_);(focus(simp;done));clear hΨ hΨ' Ψ)|((with_reducible apply Q0f);rfl;rfl;all_goals(intro hc;first|(cases hc;done)|(try simp only at hc))))))
 all_goals(refine⟨by simp,⟨_,?_,AV.le_refl _⟩,Q0y (by simp[leH,hget])⟩;simp only[Try.results82,resL,ldA,Q1o,go_sem])
theorem index_fn(ex:Bool)(l:List Hd)(hl:l.length≤1000)(a:Int):Fn Try.prog 81 [hsl ex l,.fn 82 [.ptr 1003 0]] [(1003,[vi .u64 a])] (vi .i64 (if posA l a<l.length then(posA l a:Int) else -1)) [(1003,[vi .u64 a])]:=by
 obtain⟨tr,htr⟩:∃r:Int,(if posA l a<l.length then(posA l a:Int) else -1)=r:=⟨_,rfl⟩
 rw[htr]
 (refine Q1q Try.func81 rfl (by rfl) ?_;simp only[Try.ntmps81,List.length_cons,List.length_nil,Nat.reduceAdd,Nat.reduceSub,List.replicate,List.cons_append,List.nil_append])
 (repeat(any_goals(first|((with_reducible refine Q0g ?_ ?_);rfl;intro K hK;simp only[go_sem];((repeat(refine ndI (by first|assumption|omega|rfl) ?_));refine hK _ ?_;clear hK K))|(with_reducible first|(refine Q0i ?_;refine hR _ ?_;clear hR R)|((first|refine Q0h ?_|refine Q0c ?_);intro Ψ hΨ hΨ')|(refine Q0b ?_;intro R hR)|(refine hΨ _ ?_;clear hΨ hΨ' Ψ)|refine Q0d ?_|refine Q0j ?_|refine Q0e ?_)|((with_reducible refine hΨ' _ _ ?_ ?_);(focus(simp;done));clear hΨ hΨ' Ψ)|((with_reducible apply Q0f);rfl;rfl;all_goals(intro hc;first|(cases hc;done)|(try simp only at hc))))))
 refine Q2v (α:={i:Nat // i≤l.length∧∀j,j<i→∀n,l[j]? = some n→n.a<a}) (fun p=>⟨[hsl ex l,.fn 82 [.ptr 1003 0],.any,.any,.any,.any,hsl ex l,vi .i64 l.length,vi .i64 p.1,.any,.any,.any,.any,.any,.any,.any,.any,.any,.any],[(1003,[vi .u64 a])]⟩) (fun p=>l.length-p.1) ⟨0,Nat.zero_le _,fun j hj=>by omega⟩ (St.le_of (by simp[leT]) (by simp[leH,hget])) ?_
 rintro ⟨i,hi,hno⟩ Ψ hΨ hΨ'
 dsimp only at hi hΨ ⊢
 rcases Nat.lt_or_ge i l.length with hlt|hge
 · obtain⟨y,hy⟩:∃y,l[i]? = some y:=⟨l[i],List.getElem?_eq_getElem hlt⟩
   have k1:(decide ((i:Int)<(l.length:Int)))=true:=by simpa using hlt
   have k2:=X2g hy
   have k7:(i:Int)+1=((i+1:Nat):Int):=by omega
   have pl:=Q5k y.a y.p y.s y.d y.f a
   by_cases hm:a≤y.a
   · have e:(decide (y.a≥a))=true:=by simpa using hm
     rw[e] at pl
     have hp:=posA_at hno hy hm
     rw[hp,if_pos hlt] at htr
     (have W:=ndI k1 (ndI k2 (ndI k7 @wrI));(repeat(any_goals(first|((with_reducible refine Q1d ?_ ?_ ?_);rfl;rfl;intro K hK;(apply Q1n (pl) (fun r=>r);rfl;rfl;rfl;rfl;exact Try.func82;kernel_rfl;rfl;rfl;(intro r hr q hq h;simp(disch:=omega) only[List.map_cons,List.map_nil,List.cons_append,List.nil_append,List.mem_cons,List.not_mem_nil,or_false] at hr hq;(try dsimp only at h);first|omega|(rcases hr with rfl|rfl|rfl<;>rcases hq with rfl|rfl|rfl<;>simp at h ⊢)|(rcases hr with rfl|rfl<;>rcases hq with rfl|rfl<;>simp at h ⊢)|((repeat' split at h)<;>omega));(simp(disch:=omega) only[Q1t,Q2h,AV.ren,AV.renL,Q1c,List.mem_cons,List.not_mem_nil,forall_eq_or_imp,forall_eq,Q2d,List.contains_cons,List.contains_nil,AV.refsL,AV.refs,Q0z,AV.inN,AV.inNL,inH,Q1k,go_sem,W]));(simp(disch:=omega) only[Q0q,Q2k,renH,AV.ren,AV.renL,Q1c,go_sem,W];refine hK _ ?_;clear hK K))|((with_reducible refine Q0g ?_ ?_);rfl;intro K hK;simp(disch:=omega) only[go_sem,W];((repeat(refine ndI (by first|assumption|omega|rfl) ?_));refine hK _ ?_;clear hK K))|(with_reducible first|(refine Q0i ?_;refine hR _ ?_;clear hR R)|((first|refine Q0h ?_|refine Q0c ?_);intro Ψ hΨ hΨ')|(refine Q0b ?_;intro R hR)|(refine hΨ _ ?_;clear hΨ hΨ' Ψ)|refine Q0d ?_|refine Q0j ?_|refine Q0e ?_)|((with_reducible refine hΨ' _ _ ?_ ?_);(focus(simp;done));clear hΨ hΨ' Ψ)|((with_reducible apply Q0f);rfl;rfl;all_goals(intro hc;first|(cases hc;done)|(try simp only at hc)))))))
     all_goals(refine⟨by simp,⟨_,?_,AV.le_refl _⟩,Q0y (by simp[leH,hget])⟩;simp only[Try.results81,resL,ldA,Q1o,go_sem])
     all_goals rw[htr]
   · have e:(decide (y.a≥a))=false:=by simp;omega
     rw[e] at pl
     (have W:=ndI k1 (ndI k2 (ndI k7 @wrI));(repeat(any_goals(first|((with_reducible refine Q1d ?_ ?_ ?_);rfl;rfl;intro K hK;(apply Q1n (pl) (fun r=>r);rfl;rfl;rfl;rfl;exact Try.func82;kernel_rfl;rfl;rfl;(intro r hr q hq h;simp(disch:=omega) only[List.map_cons,List.map_nil,List.cons_append,List.nil_append,List.mem_cons,List.not_mem_nil,or_false] at hr hq;(try dsimp only at h);first|omega|(rcases hr with rfl|rfl|rfl<;>rcases hq with rfl|rfl|rfl<;>simp at h ⊢)|(rcases hr with rfl|rfl<;>rcases hq with rfl|rfl<;>simp at h ⊢)|((repeat' split at h)<;>omega));(simp(disch:=omega) only[Q1t,Q2h,AV.ren,AV.renL,Q1c,List.mem_cons,List.not_mem_nil,forall_eq_or_imp,forall_eq,Q2d,List.contains_cons,List.contains_nil,AV.refsL,AV.refs,Q0z,AV.inN,AV.inNL,inH,Q1k,go_sem,W]));(simp(disch:=omega) only[Q0q,Q2k,renH,AV.ren,AV.renL,Q1c,go_sem,W];refine hK _ ?_;clear hK K))|((with_reducible refine Q0g ?_ ?_);rfl;intro K hK;simp(disch:=omega) only[go_sem,W];((repeat(refine ndI (by first|assumption|omega|rfl) ?_));refine hK _ ?_;clear hK K))|(with_reducible first|(refine Q0i ?_;refine hR _ ?_;clear hR R)|((first|refine Q0h ?_|refine Q0c ?_);intro Ψ hΨ hΨ')|(refine Q0b ?_;intro R hR)|(refine hΨ _ ?_;clear hΨ hΨ' Ψ)|refine Q0d ?_|refine Q0j ?_|refine Q0e ?_)|((with_reducible refine hΨ' _ _ ?_ ?_);(focus(simp;done));clear hΨ hΨ' Ψ)|((with_reducible apply Q0f);rfl;rfl;all_goals(intro hc;first|(cases hc;done)|(try simp only at hc)))))))
     refine hΨ _ ⟨i+1,hlt,fun j hj n hn=>?_⟩ (by simp only;omega) (St.le_of (by simp[leT]) (by simp[leH,hget]))
     rcases Nat.lt_or_ge j i with h'|h'
     · exact hno j h' n hn
     · obtain rfl:j=i:=by omega
       rw[hy] at hn;cases hn;omega
 · have k1:(decide ((i:Int)<(l.length:Int)))=false:=by simpa using hge
   have hp:=posA_none (l:=l) (a:=a) fun j hj=>hno j (by omega)
   rw[hp,if_neg (Nat.lt_irrefl _)] at htr
   (repeat(any_goals(first|((with_reducible refine Q0g ?_ ?_);rfl;intro K hK;simp only[go_sem,k1];((repeat(refine ndI (by first|assumption|omega|rfl) ?_));refine hK _ ?_;clear hK K))|(with_reducible first|(refine Q0i ?_;refine hR _ ?_;clear hR R)|((first|refine Q0h ?_|refine Q0c ?_);intro Ψ hΨ hΨ')|(refine Q0b ?_;intro R hR)|(refine hΨ _ ?_;clear hΨ hΨ' Ψ)|refine Q0d ?_|refine Q0j ?_|refine Q0e ?_)|((with_reducible refine hΨ' _ _ ?_ ?_);(focus(simp;done));clear hΨ hΨ' Ψ)|((with_reducible apply Q0f);rfl;rfl;all_goals(intro hc;first|(cases hc;done)|(try simp only at hc))))))
   all_goals(refine⟨by simp,⟨_,?_,AV.le_refl _⟩,Q0y (by simp[leH,hget])⟩;simp only[Try.results81,resL,ldA,Q1o,go_sem])
   all_goals rw[←htr]
def isA(l:List Hd)(a:Int):Bool:=match l[posA l a]? with|some y=>y.a==a|none=>false
theorem X0g(ex:Bool)(l:List Hd)(hl:l.length≤1000)(a:Int):Fn Try.prog 59 [lg ex l,vi .u64 a] [] (.tup [vi .i64 (posA l a:Int),vb (isA l a)]) []:=by
 have ix:=index_fn ex l hl a
 have hle:=posA_le l a
 rcases Nat.lt_or_ge (posA l a) l.length with hlt|hge
 · rw[if_pos hlt] at ix
   obtain⟨y,hy⟩:∃y,l[posA l a]? = some y:=⟨_,List.getElem?_eq_getElem hlt⟩
   have hA:isA l a=(y.a==a):=by unfold isA;rw[hy]
   rw[hA]
   have k2:=X2g hy
   generalize posA l a=i at ix hlt hy k2
   have k3:(decide ((i:Int)<0))=false:=by simp
   (refine Q1q Try.func59 rfl (by rfl) ?_;simp only[Try.ntmps59,List.length_cons,List.length_nil,Nat.reduceAdd,Nat.reduceSub,List.replicate,List.cons_append,List.nil_append])
   (repeat(any_goals(first|((with_reducible refine Q1d ?_ ?_ ?_);rfl;rfl;intro K hK;(apply Q1n (ix) (fun r=>r-1000);rfl;rfl;rfl;rfl;exact Try.func81;kernel_rfl;rfl;rfl;(intro r hr q hq h;simp(disch:=omega) only[List.map_cons,List.map_nil,List.cons_append,List.nil_append,List.mem_cons,List.not_mem_nil,or_false] at hr hq;(try dsimp only at h);first|omega|(rcases hr with rfl|rfl|rfl<;>rcases hq with rfl|rfl|rfl<;>simp at h ⊢)|(rcases hr with rfl|rfl<;>rcases hq with rfl|rfl<;>simp at h ⊢)|((repeat' split at h)<;>omega));(simp(disch:=omega) only[Q1t,Q2h,AV.ren,AV.renL,Q1c,List.mem_cons,List.not_mem_nil,forall_eq_or_imp,forall_eq,Q2d,List.contains_cons,List.contains_nil,AV.refsL,AV.refs,Q0z,AV.inN,AV.inNL,inH,Q1k,go_sem,k2,k3]));(simp(disch:=omega) only[Q0q,Q2k,renH,AV.ren,AV.renL,Q1c,go_sem,k2,k3];refine hK _ ?_;clear hK K))|((with_reducible refine Q0g ?_ ?_);rfl;intro K hK;simp(disch:=omega) only[go_sem,k2,k3];((repeat(refine ndI (by first|assumption|omega|rfl) ?_));refine hK _ ?_;clear hK K))|(with_reducible first|(refine Q0i ?_;refine hR _ ?_;clear hR R)|((first|refine Q0h ?_|refine Q0c ?_);intro Ψ hΨ hΨ')|(refine Q0b ?_;intro R hR)|(refine hΨ _ ?_;clear hΨ hΨ' Ψ)|refine Q0d ?_|refine Q0j ?_|refine Q0e ?_)|((with_reducible refine hΨ' _ _ ?_ ?_);(focus(simp;done));clear hΨ hΨ' Ψ)|((with_reducible apply Q0f);rfl;rfl;all_goals(intro hc;first|(cases hc;done)|(try simp only at hc)))|((with_reducible refine Q0t ?_ ?_);kernel_rfl;(with_reducible refine hR _ ?_);clear hR R)|(((with_reducible apply Q0u);rfl;rfl;(simp(disch:=omega) only[rdE,rdOf,go_sem,k2,k3];rfl);(intro τ hA hQ hN;((try simp only[Q1h,Op.operands,Call.operands,go_sem,k2,k3,go_sem,List.mem_cons,List.not_mem_nil,forall_eq_or_imp,forall_eq,List.append_toArray,Option.toArray] at hA);(try simp only[go_sem,k2,k3,List.mem_cons,List.not_mem_nil,forall_eq_or_imp,forall_eq] at hQ hN);(first|(revert hA;intro hA)|have hA:=trivial);(first|(revert hQ;intro hQ)|have hQ:=trivial);(first|(revert hN;intro hN)|have hN:=trivial);simp(disch:=omega) only[go_sem,k2,k3,go_sem,hA,hQ,hN];(repeat(refine ndI (by first|assumption|omega|rfl) ?_));(first|apply Q1b|apply Q1a|apply Q0w))));(simp(disch:=omega) only[St.eff,setO,Q0q,go_sem,k2,k3]))|((with_reducible refine Q0p ?_ ?_ ?_ ?_);kernel_rfl;kernel_rfl;(first|kernel_rfl|simp[Q0m,Q1j,St.free,Q1i,AV.refsL,AV.refs]);intro R hR))))
   all_goals(refine⟨by simp,⟨_,?_,AV.le_refl _⟩,Q0y (by simp[leH,hget])⟩;simp only[Try.results59,resL,ldA,Q1o,go_sem])
 · have e:posA l a=l.length:=by omega
   have hA:isA l a=false:=by unfold isA;rw[e,List.getElem?_eq_none (Nat.le_refl _)]
   rw[hA,e]
   rw[if_neg (by omega)] at ix
   (refine Q1q Try.func59 rfl (by rfl) ?_;simp only[Try.ntmps59,List.length_cons,List.length_nil,Nat.reduceAdd,Nat.reduceSub,List.replicate,List.cons_append,List.nil_append])
   (repeat(any_goals(first|((with_reducible refine Q1d ?_ ?_ ?_);rfl;rfl;intro K hK;(apply Q1n (ix) (fun r=>r-1000);rfl;rfl;rfl;rfl;exact Try.func81;kernel_rfl;rfl;rfl;(intro r hr q hq h;simp only[List.map_cons,List.map_nil,List.cons_append,List.nil_append,List.mem_cons,List.not_mem_nil,or_false] at hr hq;(try dsimp only at h);first|omega|(rcases hr with rfl|rfl|rfl<;>rcases hq with rfl|rfl|rfl<;>simp at h ⊢)|(rcases hr with rfl|rfl<;>rcases hq with rfl|rfl<;>simp at h ⊢)|((repeat' split at h)<;>omega));(simp only[Q1t,Q2h,AV.ren,AV.renL,Q1c,List.mem_cons,List.not_mem_nil,forall_eq_or_imp,forall_eq,Q2d,List.contains_cons,List.contains_nil,AV.refsL,AV.refs,Q0z,AV.inN,AV.inNL,inH,Q1k,go_sem,Int.reduceLT,Int.reduceNeg,decide_true]));(simp only[Q0q,Q2k,renH,AV.ren,AV.renL,Q1c,go_sem,Int.reduceLT,Int.reduceNeg,decide_true];refine hK _ ?_;clear hK K))|((with_reducible refine Q0g ?_ ?_);rfl;intro K hK;simp only[go_sem,Int.reduceLT,Int.reduceNeg,decide_true];((repeat(refine ndI (by first|assumption|omega|rfl) ?_));refine hK _ ?_;clear hK K))|(with_reducible first|(refine Q0i ?_;refine hR _ ?_;clear hR R)|((first|refine Q0h ?_|refine Q0c ?_);intro Ψ hΨ hΨ')|(refine Q0b ?_;intro R hR)|(refine hΨ _ ?_;clear hΨ hΨ' Ψ)|refine Q0d ?_|refine Q0j ?_|refine Q0e ?_)|((with_reducible refine hΨ' _ _ ?_ ?_);(focus(simp;done));clear hΨ hΨ' Ψ)|((with_reducible apply Q0f);rfl;rfl;all_goals(intro hc;first|(cases hc;done)|(try simp only at hc)))|((with_reducible refine Q0t ?_ ?_);kernel_rfl;(with_reducible refine hR _ ?_);clear hR R)|(((with_reducible apply Q0u);rfl;rfl;(simp only[rdE,rdOf,go_sem,Int.reduceLT,Int.reduceNeg,decide_true];rfl);(intro τ hA hQ hN;((try simp only[Q1h,Op.operands,Call.operands,go_sem,Int.reduceLT,Int.reduceNeg,decide_true,go_sem,List.mem_cons,List.not_mem_nil,forall_eq_or_imp,forall_eq,List.append_toArray,Option.toArray] at hA);(try simp only[go_sem,Int.reduceLT,Int.reduceNeg,decide_true,List.mem_cons,List.not_mem_nil,forall_eq_or_imp,forall_eq] at hQ hN);(first|(revert hA;intro hA)|have hA:=trivial);(first|(revert hQ;intro hQ)|have hQ:=trivial);(first|(revert hN;intro hN)|have hN:=trivial);simp only[go_sem,Int.reduceLT,Int.reduceNeg,decide_true,go_sem,hA,hQ,hN];(repeat(refine ndI (by first|assumption|omega|rfl) ?_));(first|apply Q1b|apply Q1a|apply Q0w))));(simp only[St.eff,setO,Q0q,go_sem,Int.reduceLT,Int.reduceNeg,decide_true]))|((with_reducible refine Q0p ?_ ?_ ?_ ?_);kernel_rfl;kernel_rfl;(first|kernel_rfl|simp[Q0m,Q1j,St.free,Q1i,AV.refsL,AV.refs]);intro R hR))))
   all_goals(refine⟨by simp,⟨_,?_,AV.le_refl _⟩,Q0y (by simp[leH,hget])⟩;simp only[Try.results59,resL,ldA,Q1o,go_sem])
def findH(l:List Hd)(a:Int):Hd:=match l[posA l a]? with|some y=>if y.a=a then y else⟨a,0,0,0,0⟩|none=>⟨a,0,0,0,0⟩
abbrev hA(h:Hd):AV:=h11 h.a h.p h.s h.d h.f
theorem find_fn(ex:Bool)(l:List Hd)(hl:l.length≤1000)(a:Int):Fn Try.prog 48 [lg ex l,vi .u64 a] [] (hA (findH l a)) []:=by
 have pl:=X0g ex l hl a
 by_cases h:isA l a=true
 · rw[h] at pl
   unfold isA at h
   cases hy:l[posA l a]? with
   |none=>rw[hy] at h;cases h
   |some y=>
    rw[hy] at h
    simp only[beq_iff_eq] at h
    have hF:findH l a=y:=by unfold findH;rw[hy];simp[h]
    rw[hF]
    have k2:=X2g hy
    have hlt:=(List.getElem?_eq_some_iff.1 hy).1
    generalize posA l a=i at pl k2 hlt
    (refine Q1q Try.func48 rfl (by rfl) ?_;simp only[Try.ntmps48,List.length_cons,List.length_nil,Nat.reduceAdd,Nat.reduceSub,List.replicate,List.cons_append,List.nil_append])
    (repeat(any_goals(first|((with_reducible refine Q1d ?_ ?_ ?_);rfl;rfl;intro K hK;((apply Q0x (pl);rfl;rfl;rfl;rfl;exact Try.func59);kernel_rfl;rfl;(focus((simp(disch:=omega) only[go_sem,k2]);(try rfl);done));(first|rfl|simp[AV.inNL,AV.inN]));(simp(disch:=omega) only[go_sem,k2];refine hK _ ?_;clear hK K))|((with_reducible refine Q0g ?_ ?_);rfl;intro K hK;simp(disch:=omega) only[go_sem,k2];((repeat(refine ndI (by first|assumption|omega|rfl) ?_));refine hK _ ?_;clear hK K))|(with_reducible first|(refine Q0i ?_;refine hR _ ?_;clear hR R)|((first|refine Q0h ?_|refine Q0c ?_);intro Ψ hΨ hΨ')|(refine Q0b ?_;intro R hR)|(refine hΨ _ ?_;clear hΨ hΨ' Ψ)|refine Q0d ?_|refine Q0j ?_|refine Q0e ?_)|((with_reducible refine hΨ' _ _ ?_ ?_);(focus(simp;done));clear hΨ hΨ' Ψ)|((with_reducible apply Q0f);rfl;rfl;all_goals(intro hc;first|(cases hc;done)|(try simp only at hc))))))
    all_goals(refine⟨by simp,⟨_,?_,AV.le_refl _⟩,Q0y (by simp[leH,hget])⟩;simp only[Try.results48,resL,ldA,Q1o,go_sem])
 · have h':isA l a=false:=by simpa using h
   rw[h'] at pl
   have hF:findH l a=⟨a,0,0,0,0⟩:=by
    unfold findH
    unfold isA at h'
    cases hy:l[posA l a]? with
    |none=>rfl
    |some y=>
     rw[hy] at h'
     simp only[beq_eq_false_iff_ne,ne_eq] at h'
     simp[h']
   rw[hF]
   (refine Q1q Try.func48 rfl (by rfl) ?_;simp only[Try.ntmps48,List.length_cons,List.length_nil,Nat.reduceAdd,Nat.reduceSub,List.replicate,List.cons_append,List.nil_append])
   (repeat(any_goals(first|((with_reducible refine Q1d ?_ ?_ ?_);rfl;rfl;intro K hK;((apply Q0x (pl);rfl;rfl;rfl;rfl;exact Try.func59);kernel_rfl;rfl;(focus((simp only[go_sem]);(try rfl);done));(first|rfl|simp[AV.inNL,AV.inN]));(simp only[go_sem];refine hK _ ?_;clear hK K))|((with_reducible refine Q0g ?_ ?_);rfl;intro K hK;simp only[go_sem];((repeat(refine ndI (by first|assumption|omega|rfl) ?_));refine hK _ ?_;clear hK K))|(with_reducible first|(refine Q0i ?_;refine hR _ ?_;clear hR R)|((first|refine Q0h ?_|refine Q0c ?_);intro Ψ hΨ hΨ')|(refine Q0b ?_;intro R hR)|(refine hΨ _ ?_;clear hΨ hΨ' Ψ)|refine Q0d ?_|refine Q0j ?_|refine Q0e ?_)|((with_reducible refine hΨ' _ _ ?_ ?_);(focus(simp;done));clear hΨ hΨ' Ψ)|((with_reducible apply Q0f);rfl;rfl;all_goals(intro hc;first|(cases hc;done)|(try simp only at hc))))))
   all_goals(refine⟨by simp,⟨_,?_,AV.le_refl _⟩,Q0y (by simp[leH,hget])⟩;simp only[Try.results48,resL,ldA,Q1o,go_sem])
   all_goals simp only[hA,h11,c11,Q4i,Q4h,Q4g,Q4f]
end lg
namespace lg
open Go.RowKit
set_option maxRecDepth 20000
set_option maxHeartbeats 2000000
theorem okL_len{l:List Hd}(h:okL l=true):l.length≤24:=by
 unfold okL at h
 rw[Bool.and_eq_true] at h
 exact of_decide_eq_true h.1
end lg
namespace lg
open Go.RowKit
open Nat (reduceBEq)
set_option maxRecDepth 20000
set_option maxHeartbeats 2000000
def findP(l:List Hd)(a:Int):Hd:=if a=0 then⟨0,0,0,0,0⟩ else if okL l=true then findH l a else⟨0,0,0,0,0⟩
theorem findF_fn(ex:Bool)(l:List Hd)(hl:l.length≤maxLen)(ok:∀h∈l,h.ok)(a:Int):Fn Try.prog 35 [lg ex l,vi .u64 a] [] (hA (findP l a)) []:=by
 by_cases ha:a=0
 · subst ha
   rw[show findP l 0=⟨0,0,0,0,0⟩ from if_pos rfl]
   simp only[hA,h11,c11,Q4i,Q4h,Q4g,Q4f]
   (refine Q1q Try.func35 rfl (by rfl) ?_;simp only[Try.ntmps35,List.length_cons,List.length_nil,Nat.reduceAdd,Nat.reduceSub,List.replicate,List.cons_append,List.nil_append])
   (repeat(any_goals(first|((with_reducible refine Q0g ?_ ?_);rfl;intro K hK;simp only[go_sem];((repeat(refine ndI (by first|assumption|omega|rfl) ?_));refine hK _ ?_;clear hK K))|(with_reducible first|(refine Q0i ?_;refine hR _ ?_;clear hR R)|((first|refine Q0h ?_|refine Q0c ?_);intro Ψ hΨ hΨ')|(refine Q0b ?_;intro R hR)|(refine hΨ _ ?_;clear hΨ hΨ' Ψ)|refine Q0d ?_|refine Q0j ?_|refine Q0e ?_)|((with_reducible refine hΨ' _ _ ?_ ?_);(focus(simp;done));clear hΨ hΨ' Ψ)|((with_reducible apply Q1e);rfl;rfl;rfl;(try simp only[go_sem]))|((with_reducible apply Q1l);rfl;rfl;rfl;all_goals(intro hb;first|(cases hb;done)|((try simp only[Bool.not_true,Bool.not_false] at hb);(first|((with_reducible intro K hK);simp only[go_sem];((repeat(refine ndI (by first|assumption|omega|rfl) ?_));refine hK _ ?_;clear hK K))|((fail_if_success (with_reducible intro _));simp only[go_sem])))))|((with_reducible apply Q0f);rfl;rfl;all_goals(intro hc;first|(cases hc;done)|(try simp only at hc))))))
   all_goals(refine⟨by simp,⟨_,?_,AV.le_refl _⟩,Q0y (by simp[leH,hget])⟩;simp only[Try.results35,resL,ldA,Q1o,go_sem])
 · have ck:=check_fn ex l hl ok
   have ea:(a==0)=false:=by simp[ha]
   cases hk:okL l with
   |false=>
    rw[hk,if_neg (by decide)] at ck
    rw[show findP l a=⟨0,0,0,0,0⟩ by unfold findP;rw[if_neg ha,hk,if_neg (by decide)]]
    simp only[hA,h11,c11,Q4i,Q4h,Q4g,Q4f]
    (refine Q1q Try.func35 rfl (by rfl) ?_;simp only[Try.ntmps35,List.length_cons,List.length_nil,Nat.reduceAdd,Nat.reduceSub,List.replicate,List.cons_append,List.nil_append])
    (repeat(any_goals(first|((with_reducible refine Q0g ?_ ?_);rfl;intro K hK;simp only[go_sem,ea];((repeat(refine ndI (by first|assumption|omega|rfl) ?_));refine hK _ ?_;clear hK K))|(with_reducible first|(refine Q0i ?_;refine hR _ ?_;clear hR R)|((first|refine Q0h ?_|refine Q0c ?_);intro Ψ hΨ hΨ')|(refine Q0b ?_;intro R hR)|(refine hΨ _ ?_;clear hΨ hΨ' Ψ)|refine Q0d ?_|refine Q0j ?_|refine Q0e ?_)|((with_reducible refine hΨ' _ _ ?_ ?_);(focus(simp;done));clear hΨ hΨ' Ψ)|((with_reducible apply Q1e);rfl;rfl;rfl;(try simp only[go_sem,ea]))|((with_reducible apply Q1l);rfl;rfl;rfl;all_goals(intro hb;first|(cases hb;done)|((try simp only[Bool.not_true,Bool.not_false] at hb);(first|((with_reducible intro K hK);(first|((apply Q0x (ck);rfl;rfl;rfl;rfl;exact Try.func47);kernel_rfl;rfl;(focus((simp only[go_sem,ea]);(try rfl);done));(first|rfl|simp[AV.inNL,AV.inN]))|skip);simp only[go_sem,ea];((repeat(refine ndI (by first|assumption|omega|rfl) ?_));refine hK _ ?_;clear hK K))|((fail_if_success (with_reducible intro _));simp only[go_sem,ea])))))|((with_reducible apply Q0f);rfl;rfl;all_goals(intro hc;first|(cases hc;done)|(try simp only at hc))))))
    all_goals(refine⟨by simp,⟨_,?_,AV.le_refl _⟩,Q0y (by simp[leH,hget])⟩;simp only[Try.results35,resL,ldA,Q1o,go_sem])
   |true=>
    have hl4:=okL_len hk
    have fi:=find_fn ex l (by omega) a
    rw[hk,if_pos rfl] at ck
    rw[show findP l a=findH l a by unfold findP;rw[if_neg ha,hk,if_pos rfl]]
    generalize findH l a=h0 at fi ⊢
    obtain⟨x,p,s,d,f⟩:=h0
    dsimp only[hA] at fi ⊢
    (refine Q1q Try.func35 rfl (by rfl) ?_;simp only[Try.ntmps35,List.length_cons,List.length_nil,Nat.reduceAdd,Nat.reduceSub,List.replicate,List.cons_append,List.nil_append])
    (repeat(any_goals(first|((with_reducible refine Q1d ?_ ?_ ?_);rfl;rfl;intro K hK;((apply Q0x (fi);rfl;rfl;rfl;rfl;exact Try.func48);kernel_rfl;rfl;(focus((simp only[go_sem,ea]);(try rfl);done));(first|rfl|simp[AV.inNL,AV.inN]));(simp only[go_sem,ea];refine hK _ ?_;clear hK K))|((with_reducible refine Q0g ?_ ?_);rfl;intro K hK;simp only[go_sem,ea];((repeat(refine ndI (by first|assumption|omega|rfl) ?_));refine hK _ ?_;clear hK K))|(with_reducible first|(refine Q0i ?_;refine hR _ ?_;clear hR R)|((first|refine Q0h ?_|refine Q0c ?_);intro Ψ hΨ hΨ')|(refine Q0b ?_;intro R hR)|(refine hΨ _ ?_;clear hΨ hΨ' Ψ)|refine Q0d ?_|refine Q0j ?_|refine Q0e ?_)|((with_reducible refine hΨ' _ _ ?_ ?_);(focus(simp;done));clear hΨ hΨ' Ψ)|((with_reducible apply Q1e);rfl;rfl;rfl;(try simp only[go_sem,ea]))|((with_reducible apply Q1l);rfl;rfl;rfl;all_goals(intro hb;first|(cases hb;done)|((try simp only[Bool.not_true,Bool.not_false] at hb);(first|((with_reducible intro K hK);(first|((apply Q0x (ck);rfl;rfl;rfl;rfl;exact Try.func47);kernel_rfl;rfl;(focus((simp only[go_sem,ea]);(try rfl);done));(first|rfl|simp[AV.inNL,AV.inN]))|skip);simp only[go_sem,ea];((repeat(refine ndI (by first|assumption|omega|rfl) ?_));refine hK _ ?_;clear hK K))|((fail_if_success (with_reducible intro _));simp only[go_sem,ea])))))|((with_reducible apply Q0f);rfl;rfl;all_goals(intro hc;first|(cases hc;done)|(try simp only at hc))))))
    all_goals(refine⟨by simp,⟨_,?_,AV.le_refl _⟩,Q0y (by simp[leH,hget])⟩;simp only[Try.results35,resL,ldA,Q1o,go_sem])
theorem okL_tot{l:List Hd}(h:okL l=true):tot l<WW:=by
 unfold okL at h
 rw[Bool.and_eq_true,Bool.and_eq_true] at h
 exact of_decide_eq_true h.2.2
def sumP(l:List Hd):Nat:=if okL l=true then tot l else 0
theorem sumF_fn(ex:Bool)(l:List Hd)(hl:l.length≤maxLen)(ok:∀h∈l,h.ok):Fn Try.prog 41 [lg ex l] [] (wN (sumP l)) []:=by
 have ck:=check_fn ex l hl ok
 cases hk:okL l with
 |false=>
  rw[hk,if_neg (by decide)] at ck
  rw[show sumP l=0 by unfold sumP;rw[hk,if_neg (by decide)]]
  simp only[wN,w4,Q4i,Q4h,Q4g,Q4f]
  (refine Q1q Try.func41 rfl (by rfl) ?_;simp only[Try.ntmps41,List.length_cons,List.length_nil,Nat.reduceAdd,Nat.reduceSub,List.replicate,List.cons_append,List.nil_append])
  (repeat(any_goals(first|((with_reducible refine Q1d ?_ ?_ ?_);rfl;rfl;intro K hK;((apply Q0x (ck);rfl;rfl;rfl;rfl;exact Try.func47);kernel_rfl;rfl;(focus((simp only[go_sem]);(try rfl);done));(first|rfl|simp[AV.inNL,AV.inN]));(simp only[go_sem];refine hK _ ?_;clear hK K))|((with_reducible refine Q0g ?_ ?_);rfl;intro K hK;simp only[go_sem];((repeat(refine ndI (by first|assumption|omega|rfl) ?_));refine hK _ ?_;clear hK K))|(with_reducible first|(refine Q0i ?_;refine hR _ ?_;clear hR R)|((first|refine Q0h ?_|refine Q0c ?_);intro Ψ hΨ hΨ')|(refine Q0b ?_;intro R hR)|(refine hΨ _ ?_;clear hΨ hΨ' Ψ)|refine Q0d ?_|refine Q0j ?_|refine Q0e ?_)|((with_reducible refine hΨ' _ _ ?_ ?_);(focus(simp;done));clear hΨ hΨ' Ψ)|((with_reducible apply Q0f);rfl;rfl;all_goals(intro hc;first|(cases hc;done)|(try simp only at hc))))))
  all_goals(refine⟨by simp,⟨_,?_,AV.le_refl _⟩,Q0y (by simp[leH,hget])⟩;simp only[Try.results41,resL,ldA,Q1o,go_sem])
 |true=>
  have hl4:=okL_len hk
  have al:=all_nil ex l (by omega) ok
  rw[hk,if_pos rfl] at ck
  rw[Nat.mod_eq_of_lt (okL_tot hk),decide_eq_false (by have:=okL_tot hk;omega)] at al
  rw[show sumP l=tot l by unfold sumP;rw[hk,if_pos rfl]]
  generalize tot l=n at al ⊢
  (refine Q1q Try.func41 rfl (by rfl) ?_;simp only[Try.ntmps41,List.length_cons,List.length_nil,Nat.reduceAdd,Nat.reduceSub,List.replicate,List.cons_append,List.nil_append])
  (repeat(any_goals(first|((with_reducible refine Q1d ?_ ?_ ?_);rfl;rfl;intro K hK;((first|(apply Q0x (ck);rfl;rfl;rfl;rfl;exact Try.func47)|(apply Q0x (al);rfl;rfl;rfl;rfl;exact Try.func54));kernel_rfl;rfl;(focus((simp only[go_sem]);(try rfl);done));(first|rfl|simp[AV.inNL,AV.inN]));(simp only[go_sem];refine hK _ ?_;clear hK K))|((with_reducible refine Q0g ?_ ?_);rfl;intro K hK;simp only[go_sem];((repeat(refine ndI (by first|assumption|omega|rfl) ?_));refine hK _ ?_;clear hK K))|(with_reducible first|(refine Q0i ?_;refine hR _ ?_;clear hR R)|((first|refine Q0h ?_|refine Q0c ?_);intro Ψ hΨ hΨ')|(refine Q0b ?_;intro R hR)|(refine hΨ _ ?_;clear hΨ hΨ' Ψ)|refine Q0d ?_|refine Q0j ?_|refine Q0e ?_)|((with_reducible refine hΨ' _ _ ?_ ?_);(focus(simp;done));clear hΨ hΨ' Ψ)|((with_reducible apply Q0f);rfl;rfl;all_goals(intro hc;first|(cases hc;done)|(try simp only at hc))))))
  all_goals(refine⟨by simp,⟨_,?_,AV.le_refl _⟩,Q0y (by simp[leH,hget])⟩;simp only[Try.results41,resL,ldA,Q1o,go_sem])
end lg
section
open Go.RowKit
open Nat (reduceBEq)
set_option maxRecDepth 20000
set_option maxHeartbeats 2000000
theorem Wl.ok.kl{w:Wl}(hw:w.ok):Okl w.S:=⟨Nat.le_trans hw.s.1 (by decide),fun x hx=>⟨(hw.s.2 x hx).1,Nat.le_trans (hw.s.2 x hx).2.1 (by decide),Nat.le_trans (hw.s.2 x hx).2.2 (by decide)⟩⟩
theorem X5a(w:Wl)(hw:w.ok)(a:Int):Fn Try.prog 34 [wlA w,vi .u64 a] [] (wN (OfS w.S a).b) []:=by
 have f:=OfS_fn false w.S hw.kl a
 generalize OfS w.S a=x at f ⊢
 obtain⟨a',b,n,c,s⟩:=x
 dsimp only at f ⊢
 (refine Q1q Try.func34 rfl (by rfl) ?_;simp only[Try.ntmps34,List.length_cons,List.length_nil,Nat.reduceAdd,Nat.reduceSub,List.replicate,List.cons_append,List.nil_append])
 (repeat(any_goals(first|((with_reducible refine Q1d ?_ ?_ ?_);rfl;rfl;intro K hK;((apply Q0x (f);rfl;rfl;rfl;rfl;exact Try.func46);kernel_rfl;rfl;(focus((simp only[go_sem]);(try rfl);done));(first|rfl|simp[AV.inNL,AV.inN]));(simp only[go_sem];refine hK _ ?_;clear hK K))|((with_reducible refine Q0g ?_ ?_);rfl;intro K hK;simp only[go_sem];((repeat(refine ndI (by first|assumption|omega|rfl) ?_));refine hK _ ?_;clear hK K))|(with_reducible first|(refine Q0i ?_;refine hR _ ?_;clear hR R)|((first|refine Q0h ?_|refine Q0c ?_);intro Ψ hΨ hΨ')|(refine Q0b ?_;intro R hR)|(refine hΨ _ ?_;clear hΨ hΨ' Ψ)|refine Q0d ?_|refine Q0j ?_|refine Q0e ?_)|((with_reducible refine hΨ' _ _ ?_ ?_);(focus(simp;done));clear hΨ hΨ' Ψ)|((with_reducible apply Q0f);rfl;rfl;all_goals(intro hc;first|(cases hc;done)|(try simp only at hc))))))
 all_goals(refine⟨by simp,⟨_,?_,AV.le_refl _⟩,Q0y (by simp[leH,hget])⟩;simp only[Try.results34,resL,ldA,Q1o,go_sem])
def hasN(w:Wl):Nat:=if Q2e w then(OfS w.S 1).b else 0
def Q3e(w:Wl):Nat:=if Q2e w then lg.sumP w.L else 0
def Q2i(w:Wl):Nat:=if Q2e w then X1g w.S else 0
def X2y(w:Wl)(a:Int):Nat:=if a=0 then 0 else if Q2e w then([(OfS w.S a).b,(lg.findP w.L a).p,(lg.findP w.L a).s].sum%WW) else 0
theorem sumP_lt(l:List lg.Hd):lg.sumP l<WW:=by
 unfold lg.sumP
 split
 · rename_i h
   unfold lg.okL at h
   simp only[Bool.and_eq_true,decide_eq_true_eq] at h
   exact h.2.2
 · decide
theorem totalS_lt(L:List Ac):X1g L<WW:=by
 unfold X1g
 split
 · exact Nat.mod_lt _ (by decide)
 · decide
theorem of_lt{w:Wl}(hw:w.ok)(a:Int)(ha:U a):(OfS w.S a).b<WW:=(OfS_ok hw.kl ha).1.2.1
theorem u1:U 1:=by unfold U;decide
theorem Q7i{w:Wl}(hw:w.ok):hasN w<WW:=by
 unfold hasN
 split
 · exact of_lt hw 1 u1
 · decide
theorem Q6q(w:Wl):Q3e w<WW:=by
 unfold Q3e
 split
 · exact sumP_lt _
 · decide
theorem Q6b(w:Wl):Q2i w<WW:=by
 unfold Q2i
 split
 · exact totalS_lt _
 · decide
theorem has_fn(w:Wl)(hw:w.ok):Fn Try.prog 22 [wlA w] [] (wN (hasN w)) []:=by
 have f:=Q8v true w hw
 have g:=X5a w hw 1
 unfold hasN
 cases e:Q2e w<;>simp only[e,if_true,if_false,Bool.false_eq_true] at f ⊢
 all_goals(refine Q1q Try.func22 rfl (by rfl) ?_;simp only[Try.ntmps22,List.length_cons,List.length_nil,Nat.reduceAdd,Nat.reduceSub,List.replicate,List.cons_append,List.nil_append])
 all_goals(repeat(any_goals(first|((with_reducible refine Q3t ?_ ?_);rfl;intro K hK;apply Q2c;rfl;rfl;(focus(simp only[go_sem];try rfl));(focus(simp only[go_sem];try rfl));rfl;(first|omega|(dsimp only;omega)|(simp only[Option.isSome_some,Option.isSome_none];omega)|(simp;omega)|(focus(simp;done)));(first|omega|(dsimp only;omega)|(simp only[Option.isSome_some,Option.isSome_none];omega)|(simp;omega)|(focus(simp;done)));(first|omega|(dsimp only;omega)|(simp only[Option.isSome_some,Option.isSome_none];omega)|(simp;omega)|(focus(simp;done)));(simp only[go_sem];rfl);rfl;(focus((simp only[unC,Option.map_some]);(try rfl)));(simp only[go_sem];refine hK _ ?_;clear hK K))|((with_reducible refine Q1d ?_ ?_ ?_);rfl;rfl;intro K hK;((first|(apply Q0x (f);rfl;rfl;rfl;rfl;exact Try.func24)|(apply Q0x (g);rfl;rfl;rfl;rfl;exact Try.func34));kernel_rfl;rfl;(focus((simp only[go_sem]);(try rfl);done));(first|rfl|simp[AV.inNL,AV.inN]));(simp only[go_sem];refine hK _ ?_;clear hK K))|((with_reducible refine Q0g ?_ ?_);rfl;intro K hK;simp only[go_sem];((repeat(refine ndI (by first|assumption|omega|rfl) ?_));refine hK _ ?_;clear hK K))|(with_reducible first|(refine Q0i ?_;refine hR _ ?_;clear hR R)|((first|refine Q0h ?_|refine Q0c ?_);intro Ψ hΨ hΨ')|(refine Q0b ?_;intro R hR)|(refine hΨ _ ?_;clear hΨ hΨ' Ψ)|refine Q0d ?_|refine Q0j ?_|refine Q0e ?_)|((with_reducible refine hΨ' _ _ ?_ ?_);(focus(simp;done));clear hΨ hΨ' Ψ)|((with_reducible apply Q0f);rfl;rfl;all_goals(intro hc;first|(cases hc;done)|(try simp only at hc))))))
 all_goals(refine⟨by simp,⟨_,?_,AV.le_refl _⟩,Q0y (by simp[leH,hget])⟩;simp only[Try.results22,resL,ldA,Q1o,go_sem])
 all_goals rfl
theorem X3f(w:Wl)(hw:w.ok):Fn Try.prog 23 [wlA w] [] (wN (Q3e w)) []:=by
 have f:=Q8v true w hw
 have g:=lg.sumF_fn false w.L (Nat.le_trans hw.l.1 (by decide)) hw.l.2
 unfold Q3e
 cases e:Q2e w<;>simp only[e,if_true,if_false,Bool.false_eq_true] at f ⊢
 all_goals(refine Q1q Try.func23 rfl (by rfl) ?_;simp only[Try.ntmps23,List.length_cons,List.length_nil,Nat.reduceAdd,Nat.reduceSub,List.replicate,List.cons_append,List.nil_append])
 all_goals(repeat(any_goals(first|((with_reducible refine Q3t ?_ ?_);rfl;intro K hK;apply Q2c;rfl;rfl;(focus(simp only[go_sem];try rfl));(focus(simp only[go_sem];try rfl));rfl;(first|omega|(dsimp only;omega)|(simp only[Option.isSome_some,Option.isSome_none];omega)|(simp;omega)|(focus(simp;done)));(first|omega|(dsimp only;omega)|(simp only[Option.isSome_some,Option.isSome_none];omega)|(simp;omega)|(focus(simp;done)));(first|omega|(dsimp only;omega)|(simp only[Option.isSome_some,Option.isSome_none];omega)|(simp;omega)|(focus(simp;done)));(simp only[go_sem];rfl);rfl;(focus((simp only[unC,Option.map_some]);(try rfl)));(simp only[go_sem];refine hK _ ?_;clear hK K))|((with_reducible refine Q1d ?_ ?_ ?_);rfl;rfl;intro K hK;((first|(apply Q0x (f);rfl;rfl;rfl;rfl;exact Try.func24)|(apply Q0x (g);rfl;rfl;rfl;rfl;exact Try.func41));kernel_rfl;rfl;(focus((simp only[go_sem]);(try rfl);done));(first|rfl|simp[AV.inNL,AV.inN]));(simp only[go_sem];refine hK _ ?_;clear hK K))|((with_reducible refine Q0g ?_ ?_);rfl;intro K hK;simp only[go_sem];((repeat(refine ndI (by first|assumption|omega|rfl) ?_));refine hK _ ?_;clear hK K))|(with_reducible first|(refine Q0i ?_;refine hR _ ?_;clear hR R)|((first|refine Q0h ?_|refine Q0c ?_);intro Ψ hΨ hΨ')|(refine Q0b ?_;intro R hR)|(refine hΨ _ ?_;clear hΨ hΨ' Ψ)|refine Q0d ?_|refine Q0j ?_|refine Q0e ?_)|((with_reducible refine hΨ' _ _ ?_ ?_);(focus(simp;done));clear hΨ hΨ' Ψ)|((with_reducible apply Q0f);rfl;rfl;all_goals(intro hc;first|(cases hc;done)|(try simp only at hc))))))
 all_goals(refine⟨by simp,⟨_,?_,AV.le_refl _⟩,Q0y (by simp[leH,hget])⟩;simp only[Try.results23,resL,ldA,Q1o,go_sem])
 all_goals rfl
theorem Q8d(w:Wl)(hw:w.ok):Fn Try.prog 13 [wlA w] [] (wN (Q2i w)) []:=by
 have f:=Q8v true w hw
 have g:=totalS_fn false w.S hw.kl
 unfold Q2i
 cases e:Q2e w<;>simp only[e,if_true,if_false,Bool.false_eq_true] at f ⊢
 all_goals(refine Q1q Try.func13 rfl (by rfl) ?_;simp only[Try.ntmps13,List.length_cons,List.length_nil,Nat.reduceAdd,Nat.reduceSub,List.replicate,List.cons_append,List.nil_append])
 all_goals(repeat(any_goals(first|((with_reducible refine Q3t ?_ ?_);rfl;intro K hK;apply Q2c;rfl;rfl;(focus(simp only[go_sem];try rfl));(focus(simp only[go_sem];try rfl));rfl;(first|omega|(dsimp only;omega)|(simp only[Option.isSome_some,Option.isSome_none];omega)|(simp;omega)|(focus(simp;done)));(first|omega|(dsimp only;omega)|(simp only[Option.isSome_some,Option.isSome_none];omega)|(simp;omega)|(focus(simp;done)));(first|omega|(dsimp only;omega)|(simp only[Option.isSome_some,Option.isSome_none];omega)|(simp;omega)|(focus(simp;done)));(simp only[go_sem];rfl);rfl;(focus((simp only[unC,Option.map_some]);(try rfl)));(simp only[go_sem];refine hK _ ?_;clear hK K))|((with_reducible refine Q1d ?_ ?_ ?_);rfl;rfl;intro K hK;((first|(apply Q0x (f);rfl;rfl;rfl;rfl;exact Try.func24)|(apply Q0x (g);rfl;rfl;rfl;rfl;exact Try.func36));kernel_rfl;rfl;(focus((simp only[go_sem]);(try rfl);done));(first|rfl|simp[AV.inNL,AV.inN]));(simp only[go_sem];refine hK _ ?_;clear hK K))|((with_reducible refine Q0g ?_ ?_);rfl;intro K hK;simp only[go_sem];((repeat(refine ndI (by first|assumption|omega|rfl) ?_));refine hK _ ?_;clear hK K))|(with_reducible first|(refine Q0i ?_;refine hR _ ?_;clear hR R)|((first|refine Q0h ?_|refine Q0c ?_);intro Ψ hΨ hΨ')|(refine Q0b ?_;intro R hR)|(refine hΨ _ ?_;clear hΨ hΨ' Ψ)|refine Q0d ?_|refine Q0j ?_|refine Q0e ?_)|((with_reducible refine hΨ' _ _ ?_ ?_);(focus(simp;done));clear hΨ hΨ' Ψ)|((with_reducible apply Q0f);rfl;rfl;all_goals(intro hc;first|(cases hc;done)|(try simp only at hc))))))
 all_goals(refine⟨by simp,⟨_,?_,AV.le_refl _⟩,Q0y (by simp[leH,hget])⟩;simp only[Try.results13,resL,ldA,Q1o,go_sem])
 all_goals rfl
end
section
open Go.RowKit
open Nat (reduceBEq)
set_option maxRecDepth 20000
set_option maxHeartbeats 2000000
structure Rp where
 a:Int
 h:Nat
 c:Nat
 g:Int
 k:Bool
 b:Bool
def Rp.ok(r:Rp):Prop:=U r.a∧r.h<WW∧r.c<WW∧U r.g
def Rp.pv(r:Rp):List PV:=[.v (.int .u64 r.a),.v (.int .u64 (l0 r.h)),.v (.int .u64 (l1 r.h)),.v (.int .u64 (l2 r.h)),.v (.int .u64 (l3 r.h)),.v (.int .u64 (l0 r.c)),.v (.int .u64 (l1 r.c)),.v (.int .u64 (l2 r.c)),.v (.int .u64 (l3 r.c)),.v (.int .u64 r.g),.v (.bool r.k),.v (.bool r.b)]
theorem Q8h(r:Rp):r.pv.length=12:=rfl
abbrev rpV(l:List Rp):PV:=.sl false 12 l.length (l.flatMap Rp.pv)
abbrev rsl(ex:Bool)(l:List Rp):AV:=.c (.sl ex 12 l.length (l.flatMap Rp.pv))
abbrev rpA(r:Rp):AV:=.agg [vi .u64 r.a,vi .u64 (l0 r.h),vi .u64 (l1 r.h),vi .u64 (l2 r.h),vi .u64 (l3 r.h),vi .u64 (l0 r.c),vi .u64 (l1 r.c),vi .u64 (l2 r.c),vi .u64 (l3 r.c),vi .u64 r.g,vb r.k,vb r.b]
theorem rp_at{l:List Rp}{i:Nat}{y:Rp}(h:l[i]? = some y):((l.flatMap Rp.pv).drop (i*12)).take 12=[.v (.int .u64 y.a),.v (.int .u64 (l0 y.h)),.v (.int .u64 (l1 y.h)),.v (.int .u64 (l2 y.h)),.v (.int .u64 (l3 y.h)),.v (.int .u64 (l0 y.c)),.v (.int .u64 (l1 y.c)),.v (.int .u64 (l2 y.c)),.v (.int .u64 (l3 y.c)),.v (.int .u64 y.g),.v (.bool y.k),.v (.bool y.b)]:=Q4y (f:=Rp.pv) Q8h h
def csL(l:List Rp):List Nat:=l.map Rp.c
theorem csL_lt{l:List Rp}(ok:∀r∈l,r.ok):∀x∈csL l,x<WW:=fun x hx=>by
 obtain⟨r,hr,rfl⟩:=List.mem_map.1 hx
 exact(ok r hr).2.2.1
abbrev stC(ex:Bool)(l:List Rp)(r:Nat)(out:List Nat)(i:Int):St:=⟨[rsl ex l,.any,.c (.v (.slice none 0 0)),.row r 30 4 out.length,.any,.any,rsl ex l,vi .i64 l.length,vi .i64 i,.any,.any,.any,.any,.any,.any,.any,.any,.any,.any],[(r,rcW out)]⟩
theorem stC_rn(ex:Bool)(l:List Rp)(out:List Nat)(i:Int):(stC ex l 16 out i).to (stC ex l 500 out i):=by
 refine(St.to.rn (fun r=>if r=16 then 500 else r) (fun r=>if r=500 then 16 else r) [16] (by simp[AV.inNL,AV.inN]) (by simp) (by simp[inH,AV.inNL,AV.inN,Q6f]) (by simp) (by simp)).trans (St.to.of_le (St.le_of (by simp[leT,AV.renL,AV.ren]) (by simp[leH,hget,renH,AV.renL,AV.ren,Q4u])))
theorem X2r(ex:Bool)(l:List Rp)(hl:l.length≤900):Fn Try.prog 20 [rsl ex l] [] (.row 500 30 4 l.length) [(500,rcW (csL l))]:=by
 (refine Q1q Try.func20 rfl (by rfl) ?_;simp only[Try.ntmps20,List.length_cons,List.length_nil,Nat.reduceAdd,Nat.reduceSub,List.replicate,List.cons_append,List.nil_append])
 (repeat(any_goals(first|((with_reducible refine Q0g ?_ ?_);rfl;intro K hK;simp only[go_sem];((repeat(refine ndI (by first|assumption|omega|rfl) ?_));refine hK _ ?_;clear hK K))|(with_reducible first|(refine Q0i ?_;refine hR _ ?_;clear hR R)|((first|refine Q0h ?_|refine Q0c ?_);intro Ψ hΨ hΨ')|(refine Q0b ?_;intro R hR)|(refine hΨ _ ?_;clear hΨ hΨ' Ψ)|refine Q0d ?_|refine Q0j ?_|refine Q0e ?_)|((with_reducible refine hΨ' _ _ ?_ ?_);(focus(simp;done));clear hΨ hΨ' Ψ)|((with_reducible apply Q0f);rfl;rfl;all_goals(intro hc;first|(cases hc;done)|(try simp only at hc))))))
 refine Q5u l.length (fun i=>stC ex l 500 ((l.take i).map Rp.c) i) ?_ ?_
 · refine(St.to.nilrow 3 500 30 4 rfl (by simp) (by simp[St.free,Q1i,AV.refs,AV.refsL]) (by omega)).trans (St.to.of_le (St.le_of (by simp[leT]) (by simp[leH,hget,hput,rcW])))
 · intro i hi Ψ hΨ hΨ'
   have k8:l.length<9223372036854775808:=by omega
   have ln:((l.take i).map Rp.c).length≤900:=by rw[List.length_map,List.length_take];omega
   rcases Nat.lt_or_ge i l.length with hlt|hge
   · obtain⟨x,hx⟩:∃x,l[i]? = some x:=⟨_,List.getElem?_eq_getElem hlt⟩
     have k1:(decide ((i:Int)<(l.length:Int)))=true:=decide_eq_true (by omega)
     have k2:=rp_at hx
     have k7:(i:Int)+1=((i+1:Nat):Int):=by omega
     have k3:(l.take (i+1)).map Rp.c=(l.take i).map Rp.c++[x.c]:=by rw[List.take_add_one,hx,List.map_append];rfl
     (try dsimp only at hΨ ⊢)
     rw[k3] at hΨ
     generalize (l.take i).map Rp.c=out at hΨ ln ⊢
     have e1:=Q8k out
     have e2:rcW (out++[x.c])=rcW out++(wpv x.c).map .c:=by unfold rcW;rw[List.flatMap_append];simp[List.flatMap_cons]
     have e3:∀r,AV.refsL r (rcW out)=false:=fun r=>Q0z r _
     (have W:=ndI k1 (ndI k2 (ndI k7 (ndI e1 (ndI e3 @wrI))));(repeat(any_goals(first|((with_reducible refine Q0g ?_ ?_);rfl;intro K hK;simp(disch:=omega) only[go_sem,W];((repeat(refine ndI (by first|assumption|omega|rfl) ?_));refine hK _ ?_;clear hK K))|(with_reducible first|(refine Q0i ?_;refine hR _ ?_;clear hR R)|((first|refine Q0h ?_|refine Q0c ?_);intro Ψ hΨ hΨ')|(refine Q0b ?_;intro R hR)|(refine hΨ _ ?_;clear hΨ hΨ' Ψ)|refine Q0d ?_|refine Q0j ?_|refine Q0e ?_)|((with_reducible refine hΨ' _ _ ?_ ?_);(focus(simp;done));clear hΨ hΨ' Ψ)|((with_reducible apply Q0f);rfl;rfl;all_goals(intro hc;first|(cases hc;done)|(try simp only at hc)))))))
     all_goals exact hΨ _ hlt (St.to.trans (St.to.of_le (τ:=stC ex l 16 (out++[x.c]) ((i+1:Nat):Int)) (St.le_of (by simp[leT]) (by simp[leH,hget,e2,wpv]))) (stC_rn ex l _ _))
   · have k1:(decide ((i:Int)<(l.length:Int)))=false:=decide_eq_false (by omega)
     rw[List.take_of_length_le hge]
     (try dsimp only)
     (repeat(any_goals(first|((with_reducible refine Q0g ?_ ?_);rfl;intro K hK;simp only[go_sem,k1];((repeat(refine ndI (by first|assumption|omega|rfl) ?_));refine hK _ ?_;clear hK K))|(with_reducible first|(refine Q0i ?_;refine hR _ ?_;clear hR R)|((first|refine Q0h ?_|refine Q0c ?_);intro Ψ hΨ hΨ')|(refine Q0b ?_;intro R hR)|(refine hΨ _ ?_;clear hΨ hΨ' Ψ)|refine Q0d ?_|refine Q0j ?_|refine Q0e ?_)|((with_reducible refine hΨ' _ _ ?_ ?_);(focus(simp;done));clear hΨ hΨ' Ψ)|((with_reducible apply Q0f);rfl;rfl;all_goals(intro hc;first|(cases hc;done)|(try simp only at hc))))))
     exact⟨by simp,⟨_,rfl,by show AV.le (AV.row 500 30 4 (l.map Rp.c).length) _;rw[List.length_map];exact AV.le_refl _⟩,Q0y (by simp[leH,hget,csL])⟩
theorem costs_fn(ex:Bool)(l:List Rp)(hl:l.length≤900):Fn Try.prog 20 [rsl ex l] [] (wsl false (csL l)) []:=by
 have k:=(X2r ex l hl).frzN (d:=500) (pcs:=(csL l).flatMap wpv) rfl
 have e1:((csL l).flatMap wpv).length=l.length*4:=by rw[Q1u Q5d];unfold csL;rw[List.length_map]
 have e2:(csL l).length=l.length:=by unfold csL;rw[List.length_map]
 simpa [-List.length_flatMap,wsl,e1,e2,AV.frz,AV.frzL,frzH,vi] using k
abbrev twA(n:Nat):AV:=.agg [vb (decide (WW≤n)),vi .u64 (l0 (n%WW)),vi .u64 (l1 (n%WW)),vi .u64 (l2 (n%WW)),vi .u64 (l3 (n%WW))]
theorem X1b(x y:Nat)(hx:x<WW)(hy:y<WW):Fn Try.prog 27 [wN x,wN y] [] (twA (x+y)) []:=by
 have f:=X5b x y hx hy
 unfold twA
 generalize (x+y)%WW=m at f ⊢
 generalize decide (WW≤x+y)=q at f ⊢
 (refine Q1q Try.func27 rfl (by rfl) ?_;simp only[Try.ntmps27,List.length_cons,List.length_nil,Nat.reduceAdd,Nat.reduceSub,List.replicate,List.cons_append,List.nil_append])
 (repeat(any_goals(first|((with_reducible refine Q1d ?_ ?_ ?_);rfl;rfl;intro K hK;((apply Q0x (f);rfl;rfl;rfl;rfl;exact Try.func7);kernel_rfl;rfl;(focus((simp only[go_sem]);(try rfl);done));(first|rfl|simp[AV.inNL,AV.inN]));(simp only[go_sem];refine hK _ ?_;clear hK K))|((with_reducible refine Q0g ?_ ?_);rfl;intro K hK;simp only[go_sem];((repeat(refine ndI (by first|assumption|omega|rfl) ?_));refine hK _ ?_;clear hK K))|(with_reducible first|(refine Q0i ?_;refine hR _ ?_;clear hR R)|((first|refine Q0h ?_|refine Q0c ?_);intro Ψ hΨ hΨ')|(refine Q0b ?_;intro R hR)|(refine hΨ _ ?_;clear hΨ hΨ' Ψ)|refine Q0d ?_|refine Q0j ?_|refine Q0e ?_)|((with_reducible refine hΨ' _ _ ?_ ?_);(focus(simp;done));clear hΨ hΨ' Ψ)|((with_reducible apply Q0f);rfl;rfl;all_goals(intro hc;first|(cases hc;done)|(try simp only at hc))))))
 all_goals(refine⟨by simp,⟨_,?_,AV.le_refl _⟩,Q0y (by simp[leH,hget])⟩;simp only[Try.results27,resL,ldA,Q1o,go_sem])
theorem lessT_fn(m n:Nat)(hm:m<2*WW)(hn:n<2*WW):Fn Try.prog 26 [twA m,twA n] [] (vb (decide (m<n))) []:=by
 have f:=X4y (m%WW) (n%WW) (Nat.mod_lt _ (by decide)) (Nat.mod_lt _ (by decide))
 have hW:0<WW:=by decide
 unfold twA
 have m1:m%WW=if WW≤m then m-WW else m:=by
  split
  · rw[Nat.mod_eq_sub_mod (by assumption),Nat.mod_eq_of_lt (by omega)]
  · exact Nat.mod_eq_of_lt (by omega)
 have n1:n%WW=if WW≤n then n-WW else n:=by
  split
  · rw[Nat.mod_eq_sub_mod (by assumption),Nat.mod_eq_of_lt (by omega)]
  · exact Nat.mod_eq_of_lt (by omega)
 generalize hx:m%WW=x at f m1 ⊢
 generalize hy:n%WW=y at f n1 ⊢
 generalize WW=W at *
 by_cases h1:W≤m<;>by_cases h2:W≤n
 · have e:decide ((if x<y then(-1:Int) else if y<x then 1 else 0)<0)=decide (m<n):=by
    rw[if_pos h1] at m1
    rw[if_pos h2] at n1
    refine decide_eq_decide.2 ?_
    repeat' split
    all_goals omega
   generalize (if x<y then(-1:Int) else if y<x then 1 else 0)=z at f e
   rw[←e,decide_eq_true h1,decide_eq_true h2]
   (refine Q1q Try.func26 rfl (by rfl) ?_;simp only[Try.ntmps26,List.length_cons,List.length_nil,Nat.reduceAdd,Nat.reduceSub,List.replicate,List.cons_append,List.nil_append])
   (repeat(any_goals(first|((with_reducible refine Q1d ?_ ?_ ?_);rfl;rfl;intro K hK;((apply Q0x (f);rfl;rfl;rfl;rfl;exact Try.func32);kernel_rfl;rfl;(focus((simp only[go_sem,bne_self_eq_false]);(try rfl);done));(first|rfl|simp[AV.inNL,AV.inN]));(simp only[go_sem,bne_self_eq_false];refine hK _ ?_;clear hK K))|((with_reducible refine Q0g ?_ ?_);rfl;intro K hK;simp only[go_sem,bne_self_eq_false];((repeat(refine ndI (by first|assumption|omega|rfl) ?_));refine hK _ ?_;clear hK K))|(with_reducible first|(refine Q0i ?_;refine hR _ ?_;clear hR R)|((first|refine Q0h ?_|refine Q0c ?_);intro Ψ hΨ hΨ')|(refine Q0b ?_;intro R hR)|(refine hΨ _ ?_;clear hΨ hΨ' Ψ)|refine Q0d ?_|refine Q0j ?_|refine Q0e ?_)|((with_reducible refine hΨ' _ _ ?_ ?_);(focus(simp;done));clear hΨ hΨ' Ψ)|((with_reducible apply Q0f);rfl;rfl;all_goals(intro hc;first|(cases hc;done)|(try simp only at hc))))))
   all_goals(refine⟨by simp,⟨_,?_,AV.le_refl _⟩,Q0y (by simp[leH,hget])⟩;simp only[Try.results26,resL,ldA,Q1o,go_sem])
 · rw[decide_eq_false (show ¬m<n by omega),decide_eq_true h1,decide_eq_false h2]
   (refine Q1q Try.func26 rfl (by rfl) ?_;simp only[Try.ntmps26,List.length_cons,List.length_nil,Nat.reduceAdd,Nat.reduceSub,List.replicate,List.cons_append,List.nil_append])
   (repeat(any_goals(first|((with_reducible refine Q0g ?_ ?_);rfl;intro K hK;simp only[go_sem,bne_self_eq_false];((repeat(refine ndI (by first|assumption|omega|rfl) ?_));refine hK _ ?_;clear hK K))|(with_reducible first|(refine Q0i ?_;refine hR _ ?_;clear hR R)|((first|refine Q0h ?_|refine Q0c ?_);intro Ψ hΨ hΨ')|(refine Q0b ?_;intro R hR)|(refine hΨ _ ?_;clear hΨ hΨ' Ψ)|refine Q0d ?_|refine Q0j ?_|refine Q0e ?_)|((with_reducible refine hΨ' _ _ ?_ ?_);(focus(simp;done));clear hΨ hΨ' Ψ)|((with_reducible apply Q0f);rfl;rfl;all_goals(intro hc;first|(cases hc;done)|(try simp only at hc))))))
   all_goals(refine⟨by simp,⟨_,?_,AV.le_refl _⟩,Q0y (by simp[leH,hget])⟩;simp only[Try.results26,resL,ldA,Q1o,go_sem])
 · rw[decide_eq_true (show m<n by omega),decide_eq_false h1,decide_eq_true h2]
   (refine Q1q Try.func26 rfl (by rfl) ?_;simp only[Try.ntmps26,List.length_cons,List.length_nil,Nat.reduceAdd,Nat.reduceSub,List.replicate,List.cons_append,List.nil_append])
   (repeat(any_goals(first|((with_reducible refine Q0g ?_ ?_);rfl;intro K hK;simp only[go_sem,bne_self_eq_false];((repeat(refine ndI (by first|assumption|omega|rfl) ?_));refine hK _ ?_;clear hK K))|(with_reducible first|(refine Q0i ?_;refine hR _ ?_;clear hR R)|((first|refine Q0h ?_|refine Q0c ?_);intro Ψ hΨ hΨ')|(refine Q0b ?_;intro R hR)|(refine hΨ _ ?_;clear hΨ hΨ' Ψ)|refine Q0d ?_|refine Q0j ?_|refine Q0e ?_)|((with_reducible refine hΨ' _ _ ?_ ?_);(focus(simp;done));clear hΨ hΨ' Ψ)|((with_reducible apply Q0f);rfl;rfl;all_goals(intro hc;first|(cases hc;done)|(try simp only at hc))))))
   all_goals(refine⟨by simp,⟨_,?_,AV.le_refl _⟩,Q0y (by simp[leH,hget])⟩;simp only[Try.results26,resL,ldA,Q1o,go_sem])
 · have e:decide ((if x<y then(-1:Int) else if y<x then 1 else 0)<0)=decide (m<n):=by
    rw[if_neg h1] at m1
    rw[if_neg h2] at n1
    refine decide_eq_decide.2 ?_
    repeat' split
    all_goals omega
   generalize (if x<y then(-1:Int) else if y<x then 1 else 0)=z at f e
   rw[←e,decide_eq_false h1,decide_eq_false h2]
   (refine Q1q Try.func26 rfl (by rfl) ?_;simp only[Try.ntmps26,List.length_cons,List.length_nil,Nat.reduceAdd,Nat.reduceSub,List.replicate,List.cons_append,List.nil_append])
   (repeat(any_goals(first|((with_reducible refine Q1d ?_ ?_ ?_);rfl;rfl;intro K hK;((apply Q0x (f);rfl;rfl;rfl;rfl;exact Try.func32);kernel_rfl;rfl;(focus((simp only[go_sem,bne_self_eq_false]);(try rfl);done));(first|rfl|simp[AV.inNL,AV.inN]));(simp only[go_sem,bne_self_eq_false];refine hK _ ?_;clear hK K))|((with_reducible refine Q0g ?_ ?_);rfl;intro K hK;simp only[go_sem,bne_self_eq_false];((repeat(refine ndI (by first|assumption|omega|rfl) ?_));refine hK _ ?_;clear hK K))|(with_reducible first|(refine Q0i ?_;refine hR _ ?_;clear hR R)|((first|refine Q0h ?_|refine Q0c ?_);intro Ψ hΨ hΨ')|(refine Q0b ?_;intro R hR)|(refine hΨ _ ?_;clear hΨ hΨ' Ψ)|refine Q0d ?_|refine Q0j ?_|refine Q0e ?_)|((with_reducible refine hΨ' _ _ ?_ ?_);(focus(simp;done));clear hΨ hΨ' Ψ)|((with_reducible apply Q0f);rfl;rfl;all_goals(intro hc;first|(cases hc;done)|(try simp only at hc))))))
   all_goals(refine⟨by simp,⟨_,?_,AV.le_refl _⟩,Q0y (by simp[leH,hget])⟩;simp only[Try.results26,resL,ldA,Q1o,go_sem])
end
section
open Go.RowKit
open Nat (reduceBEq)
attribute [-go_sem] IntKind.bits
set_option maxRecDepth 20000
set_option maxHeartbeats 2000000
structure Bl where
 a:Int
 o:Nat
 c:Nat
def blL(b:Bl):List Value:=[.int .u64 b.a,.int .i64 b.o,.int .u64 (l0 b.c),.int .u64 (l1 b.c),.int .u64 (l2 b.c),.int .u64 (l3 b.c)]
def Bl.pv(b:Bl):List PV:=[.v (.int .u64 b.a),.v (.int .i64 b.o),.v (.int .u64 (l0 b.c)),.v (.int .u64 (l1 b.c)),.v (.int .u64 (l2 b.c)),.v (.int .u64 (l3 b.c))]
theorem bl_len(b:Bl):b.pv.length=6:=rfl
abbrev blA(b:Bl):AV:=.agg [vi .u64 b.a,vi .i64 b.o,vi .u64 (l0 b.c),vi .u64 (l1 b.c),vi .u64 (l2 b.c),vi .u64 (l3 b.c)]
abbrev bsl(ex:Bool)(l:List Bl):AV:=.c (.sl ex 6 l.length (l.flatMap Bl.pv))
abbrev blT:Nat:=32
def rcBl(l:List Bl):List AV:=(l.flatMap Bl.pv).map .c
theorem rcBl_len(l:List Bl):(rcBl l).length=l.length*6:=by unfold rcBl;rw[List.length_map,Q1u bl_len]
theorem bl_at{l:List Bl}{i:Nat}{y:Bl}(h:l[i]? = some y):((l.flatMap Bl.pv).drop (i*6)).take 6=[.v (.int .u64 y.a),.v (.int .i64 y.o),.v (.int .u64 (l0 y.c)),.v (.int .u64 (l1 y.c)),.v (.int .u64 (l2 y.c)),.v (.int .u64 (l3 y.c))]:=Q4y (f:=Bl.pv) bl_len h
def bl0:Bl:=⟨0,0,0⟩
abbrev imL(m:List (Int×Bl)):List (Value×Value):=im (mv blL) m
theorem zero_bl(w:World):(zeroValue blT).run Try.prog w = .ok (mv blL bl0) w:=run_zeroV (by kernel_rfl) w
theorem lkl_fn{o:Oper}{σ : St}{K:St→Prop}{m:List (Int×Bl)}{x ix:Operand}{b:Nat}{k:Int}(ho:o.op = .lookup 57 x ix false)(hx:Q0v x=true)(hi:Q0v ix=true)(h1:σ.ev x = .c (.mp b (imL m)))(h2:σ.ev ix=vi .u64 k)(hK:K (σ.put o.dst (blA (mget bl0 m k)))):OpA Try.prog o σ K:=
 X3h blL bl0 m ho hx hi Try.underlying57 Try.underlying24 zero_bl h1 h2 (fun v x hx=>by simp[blL] at hx;rcases hx with rfl|rfl|rfl|rfl|rfl|rfl<;>rfl) hK
theorem mul_fn{E0:Env}{o:Oper}{σ : St}{K:St→Prop}{m:List (Int×Bl)}{x ix vx:Operand}{b:Nat}{k:Int}{v:Bl}(ho:o.op = .mapUpdate 57 x ix vx)(hd:o.dst=none)(hx:Q0v x=true)(hi:Q0v ix=true)(hvx:Q0v vx=true)
 (h1:σ.ev x = .c (.mp b (imL m))) (h2:σ.ev ix=vi .u64 k) (h3:σ.ev vx=blA v) (hb:E0.w.heap.size≤b) (hH:Q6w σ.H=false) (hK:K ⟨σ.T.map (AV.mpU b (imL (mput m k v))),σ.H⟩):OpE (fun E=>E=E0) Try.prog o σ K:=
 Q9f blL m ho hd hx hi hvx Try.underlying57 Try.underlying24 h1 h2 h3 hb hH hK
def Q5c(r:Rp)(b:Bl):Bl:=⟨r.a,b.o+1,(b.c+r.c)%WW⟩
def Q6a(l:List Rp):List (Int×Bl):=l.foldl (fun m r=>mput m r.a (Q5c r (mget bl0 m r.a))) []
theorem X5o{l:List Rp}{i:Nat}{y:Rp}(h:l[i]? = some y):Q6a (l.take (i+1))=mput (Q6a (l.take i)) y.a (Q5c y (mget bl0 (Q6a (l.take i)) y.a)):=by
 unfold Q6a
 rw[List.take_add_one,h,List.foldl_append]
 rfl
theorem X4p{V:Type}(k:Int)(v:V):∀m:List (Int×V),m.length≤(mput m k v).length∧(mput m k v).length≤m.length+1
 |[]=>⟨Nat.zero_le _,Nat.le_refl _⟩
 |p::m=>by
  have ih:=X4p k v m
  unfold mput
  split
  · simp
  · simp only[List.length_cons]
    omega
def BlOk(n:Nat)(m:List (Int×Bl)):Prop:=m.length≤n∧∀a,(mget bl0 m a).o≤n∧(mget bl0 m a).c<WW
theorem X1c(l:List Rp):BlOk l.length (Q6a l):=by
 have key:∀(l:List Rp) (m:List (Int×Bl)) (n:Nat),BlOk n m→BlOk (n+l.length) (l.foldl (fun m r=>mput m r.a (Q5c r (mget bl0 m r.a))) m):=by
  intro l
  induction l with
  |nil=>intro m n h;exact h
  |cons r l ih=>
   intro m n h
   have h2:BlOk (n+1) (mput m r.a (Q5c r (mget bl0 m r.a))):=by
    refine⟨by have:=X4p r.a (Q5c r (mget bl0 m r.a)) m;have:=h.1;omega,fun a=>?_⟩
    rw[Q6e]
    have:=h.2 r.a
    have h3:=h.2 a
    split
    · exact⟨by show(mget bl0 m r.a).o+1≤n+1;omega,Nat.mod_lt _ (by decide)⟩
    · exact⟨by omega,h3.2⟩
   have:=ih _ _ h2
   rw[List.foldl_cons,List.length_cons,show n+(l.length+1)=n+1+l.length by omega]
   exact this
 have:=key l [] 0 ⟨Nat.le_refl _,fun a=>⟨Nat.le_refl _,show 0<WW by decide⟩⟩
 rw[Nat.zero_add] at this
 exact this
def Q6i(l:List Rp):List Bl:=(srtI ((Q6a l).map (·.1))).map (mget bl0 (Q6a l))
theorem raK_at{l:List Int}{i:Nat}{a:Int}(h:l[i]? = some a):(raK l)[i]? = some (vi .u64 a):=by
 rw[rI_raK,rI_eq]
 simp[h]
theorem inNL_rcBl(N:List Nat)(l:List Bl):AV.inNL N (rcBl l)=true:=Q1k N _
theorem renL_rcBl(ρ : Nat→Nat)(l:List Bl):AV.renL ρ (rcBl l)=rcBl l:=Q1c ρ _
abbrev stBo(mb:Nat)(m:List (Int×Bl))(ks:List Int)(r:Nat)(out:List Bl)(j:Int):St:=⟨[.any,.any,.any,.c (.mp mb (imL m)),.any,.any,.any,.row r blT 6 out.length,.any,.any,.any,.any,.any,.any,.any,.any,.any,.any,.any,.any,.any,.any,.any,.any,.any,.any,.any,.any,.any,.any,.any,.any,.any,.any,.any,.any,.any,.any,.any,.any,.any,.any,.any,.any,.row 600 adT 1 ks.length,vi .i64 ks.length,vi .i64 j,.any,.any,.any,.any,.any,.any,.any,.any,.any,.any,.any],[(600,raK ks),(r,rcBl out)]⟩
theorem stBo_rn(mb:Nat)(m:List (Int×Bl))(ks:List Int)(out:List Bl)(j:Int):(stBo mb m ks 55 out j).to (stBo mb m ks 500 out j):=by
 refine(St.to.rn (fun r=>if r=55 then 500 else r) (fun r=>if r=500 then 55 else r) [55,600] (by simp[AV.inNL,AV.inN]) (by simp) (by simp[inH,AV.inNL,AV.inN,inNL_rcBl,Q1k]) (by simp) (by simp)).trans (St.to.of_le (St.le_of (by simp[leT,AV.renL,AV.ren]) (by simp[leH,hget,renH,AV.renL,AV.ren,renL_rcBl,Q1c])))
theorem rp_mp(l:List Rp):PV.hasMpL (l.flatMap Rp.pv)=false:=X3p _ (fun _=>rfl) l
theorem bills_row(ex:Bool)(l:List Rp)(hl:l.length≤900)(ok:∀r∈l,r.ok):Fn Try.prog 6 [rsl ex l] [] (.row 500 blT 6 (Q6i l).length) [(500,rcBl (Q6i l))]:=by
 obtain⟨res,hres⟩:∃r,Q6i l=r:=⟨_,rfl⟩
 rw[hres]
 refine Fn.known fun E0=>?_
 (refine X4t Try.func6 rfl (by rfl) ?_;simp only[Try.ntmps6,List.length_cons,List.length_nil,Nat.reduceAdd,Nat.reduceSub,List.replicate,List.cons_append,List.nil_append])
 (repeat(any_goals(first|((with_reducible refine Q0g ?_ ?_);rfl;intro K hK;simp only[go_sem];((repeat(refine ndI (by first|assumption|omega|rfl) ?_));refine hK _ ?_;clear hK K))|((with_reducible first|refine AWE.seqI ?_|refine AWE.blockI ?_);intro Ψ hΨ hΨ')|(with_reducible first|refine AWE.ofSkip ?_|refine AWE.ofRet ?_|refine AWE.ofExit ?_)|((with_reducible apply AWE.regionM);rfl;rfl;rfl;rfl;intro R hR;simp only[List.take_succ_cons,List.take_zero,List.drop_succ_cons,List.drop_zero,List.drop_nil] at hR ⊢)|(with_reducible refine AWE.ofR ?_)|(with_reducible refine AWE.ofRD ?_)|((with_reducible apply AWE.cond);rfl;rfl;all_goals(intro hc;first|(cases hc;done)|(try simp only at hc)))|((with_reducible apply Q3c);rfl;intro mb umb R hR;simp only[go_sem])|(with_reducible first|(refine Q0i ?_;refine hR _ ?_;clear hR R)|((first|refine Q0h ?_|refine Q0c ?_);intro Ψ hΨ hΨ')|(refine Q0b ?_;intro R hR)|(refine hΨ _ ?_;clear hΨ hΨ' Ψ)|refine Q0d ?_|refine Q0j ?_|refine Q0e ?_)|((with_reducible refine hΨ' _ _ ?_ ?_);(focus(simp;done));clear hΨ hΨ' Ψ)|((with_reducible apply Q0f);rfl;rfl;all_goals(intro hc;first|(cases hc;done)|(try simp only at hc))))))
 refine AWE.loopI (α:={i:Nat // i≤l.length}) (fun i=>⟨[rsl ex l,.any,.any,.c (.mp mb (imL (Q6a (l.take i.1)))),.any,.any,.any,.any,.any,.any,.any,rsl ex l,vi .i64 l.length,vi .i64 (i.1:Int),.any,.any,.any,.any,.any,.any,.any,.any,.any,.any,.any,.any,.any,.any,.any,.any,.any,.any,.any,.any,.any,.any,.any,.any,.any,.any,.any,.any,.any,.any,.any,.any,.any,.any,.any,.any,.any,.any,.any,.any,.any,.any,.any,.any],[]⟩) (fun i=>l.length-i.1) ⟨0,Nat.zero_le _⟩ (St.to.of_le (St.le_of (by simp[leT,Q6a,im]) (by simp[leH,hget]))) ?_
 rintro ⟨i,hi⟩ Ψ hΨ hΨ'
 (try dsimp only at hi hΨ ⊢)
 rcases Nat.lt_or_ge i l.length with hlt|hge
 · obtain⟨y,hy⟩:∃y,l[i]? = some y:=⟨_,List.getElem?_eq_getElem hlt⟩
   have k1:(decide ((i:Int)<(l.length:Int)))=true:=decide_eq_true (by omega)
   have k2:=rp_at hy
   have k7:(i:Int)+1=((i+1:Nat):Int):=by omega
   have bo:=(X1c (l.take i)).2 y.a
   have yo:=ok y (List.mem_of_getElem? hy)
   have hli:(l.take i).length≤900:=by rw[List.length_take];omega
   have hΨ1:∀σ',σ'.to ⟨[rsl ex l,.any,.any,.c (.mp mb (imL (mput (Q6a (l.take i)) y.a (Q5c y (mget bl0 (Q6a (l.take i)) y.a))))),.any,.any,.any,.any,.any,.any,.any,rsl ex l,vi .i64 l.length,vi .i64 ((i+1:Nat):Int),.any,.any,.any,.any,.any,.any,.any,.any,.any,.any,.any,.any,.any,.any,.any,.any,.any,.any,.any,.any,.any,.any,.any,.any,.any,.any,.any,.any,.any,.any,.any,.any,.any,.any,.any,.any,.any,.any,.any,.any,.any,.any,.any,.any],[]⟩→Ψ .normal σ':=fun σ' h=>hΨ σ' ⟨i+1,hlt⟩ (by dsimp only;omega) (by dsimp only;rw[X5o hy];exact h)
   clear hΨ
   generalize Q6a (l.take i)=m at *
   obtain⟨z,hz⟩:∃z,mget bl0 m y.a=z:=⟨_,rfl⟩
   rw[hz] at bo hΨ1
   have ad:=X5b z.c y.c bo.2 yo.2.2.1
   have k8:(z.o:Int)+1=((z.o+1:Nat):Int):=by omega
   have hb1:=bo.1
   clear bo yo
   obtain⟨c2,hc2⟩:∃c,(z.c+y.c)%WW=c:=⟨_,rfl⟩
   rw[show Q5c y z=⟨y.a,z.o+1,c2⟩ by unfold Q5c;rw[hc2]] at hΨ1
   rw[hc2] at ad
   clear hc2
   (have W:=ndI k1 (ndI k2 (ndI k7 (ndI k8 @wrI)));(repeat(any_goals(first|((with_reducible refine Q3t ?_ ?_);rfl;intro K hK;apply lkl_fn;rfl;rfl;rfl;rfl;rfl;(simp(disch:=omega) only[go_sem,W,hz];refine hK _ ?_;clear hK K))|((with_reducible refine Q1d ?_ ?_ ?_);rfl;rfl;intro K hK;((apply Q0x (ad);rfl;rfl;rfl;rfl;exact Try.func7);kernel_rfl;rfl;(focus((simp(disch:=omega) only[go_sem,W,hz]);(try rfl);done));(first|rfl|simp[AV.inNL,AV.inN]));(simp(disch:=omega) only[go_sem,W,hz];refine hK _ ?_;clear hK K))|((with_reducible refine Q0g ?_ ?_);rfl;intro K hK;simp(disch:=omega) only[go_sem,W,hz];((repeat(refine ndI (by first|assumption|omega|rfl) ?_));refine hK _ ?_;clear hK K))|((with_reducible first|refine AWE.seqI ?_|refine AWE.blockI ?_);intro Ψ hΨ hΨ')|(with_reducible first|refine AWE.ofSkip ?_|refine AWE.ofRet ?_|refine AWE.ofExit ?_)|((with_reducible apply AWE.regionM);rfl;rfl;rfl;rfl;intro R hR;simp only[List.take_succ_cons,List.take_zero,List.drop_succ_cons,List.drop_zero,List.drop_nil] at hR ⊢)|(with_reducible refine AWE.ofR ?_)|(with_reducible refine AWE.ofRD ?_)|((with_reducible apply AWE.cond);rfl;rfl;all_goals(intro hc;first|(cases hc;done)|(try simp only at hc)))|((with_reducible apply Q3c);rfl;intro mb umb R hR;simp(disch:=omega) only[go_sem,W,hz])|(apply(mul_fn (v:=⟨y.a,z.o+1,c2⟩));rfl;rfl;rfl;rfl;rfl;rfl;rfl;rfl;assumption;(focus(simp only[AV.mpU,Q6w,AV.hasMpA,AV.hasMp,PV.hasMp,PV.hasMpL,Q9n,Bool.or_false,Bool.false_eq_true,if_false,if_true,List.map_cons,List.map_nil,rp_mp];done));intro R hR;simp only[AV.mpU,Q6w,AV.hasMpA,AV.hasMp,PV.hasMp,PV.hasMpL,Q9n,Bool.or_false,Bool.false_eq_true,if_false,if_true,List.map_cons,List.map_nil,rp_mp])|(with_reducible first|(refine Q0i ?_;refine hR _ ?_;clear hR R)|((first|refine Q0h ?_|refine Q0c ?_);intro Ψ hΨ hΨ')|(refine Q0b ?_;intro R hR)|(refine hΨ _ ?_;clear hΨ hΨ' Ψ)|refine Q0d ?_|refine Q0j ?_|refine Q0e ?_)|((with_reducible refine hΨ' _ _ ?_ ?_);(focus(simp;done));clear hΨ hΨ' Ψ)|((with_reducible apply Q0f);rfl;rfl;all_goals(intro hc;first|(cases hc;done)|(try simp only at hc)))))))
   exact hΨ1 _ (St.to.of_le (St.le_of (by simp[leT]) (by simp[leH,hget])))
 · have k1:(decide ((i:Int)<(l.length:Int)))=false:=decide_eq_false (by omega)
   have bm:=X1c l
   rw[List.take_of_length_le hge]
   unfold Q6i at hres
   clear hΨ
   have hΨ:=trivial
   generalize Q6a l=m at *
   have ky:=keysA_fn (mv blL) m mb
   have so:=X3a (mv blL) m (by have:=bm.1;omega) mb
   (repeat(any_goals(first|((with_reducible refine Q1d ?_ ?_ ?_);rfl;rfl;intro K hK;(first|(apply Q1n (ky) (fun r=>43);rfl;rfl;rfl;rfl;exact Try.func16;kernel_rfl;rfl;rfl;(intro r hr q hq h;simp(disch:=omega) only[List.map_cons,List.map_nil,List.cons_append,List.nil_append,List.mem_cons,List.not_mem_nil,or_false] at hr hq;(try dsimp only at h);first|omega|(rcases hr with rfl|rfl|rfl<;>rcases hq with rfl|rfl|rfl<;>simp at h ⊢)|(rcases hr with rfl|rfl<;>rcases hq with rfl|rfl<;>simp at h ⊢)|((repeat' split at h)<;>omega));(simp(disch:=omega) only[Q1t,Q2h,AV.ren,AV.renL,Q1c,List.mem_cons,List.not_mem_nil,forall_eq_or_imp,forall_eq,Q2d,List.contains_cons,List.contains_nil,AV.refsL,AV.refs,Q0z,AV.inN,AV.inNL,inH,Q1k,go_sem,k1,wrI]))|(apply Q1n (so) (fun r=>if r=1001 then 43 else r);rfl;rfl;rfl;rfl;exact Try.func15;kernel_rfl;rfl;rfl;(intro r hr q hq h;simp(disch:=omega) only[List.map_cons,List.map_nil,List.cons_append,List.nil_append,List.mem_cons,List.not_mem_nil,or_false] at hr hq;(try dsimp only at h);first|omega|(rcases hr with rfl|rfl|rfl<;>rcases hq with rfl|rfl|rfl<;>simp at h ⊢)|(rcases hr with rfl|rfl<;>rcases hq with rfl|rfl<;>simp at h ⊢)|((repeat' split at h)<;>omega));(simp(disch:=omega) only[Q1t,Q2h,AV.ren,AV.renL,Q1c,List.mem_cons,List.not_mem_nil,forall_eq_or_imp,forall_eq,Q2d,List.contains_cons,List.contains_nil,AV.refsL,AV.refs,Q0z,AV.inN,AV.inNL,inH,Q1k,go_sem,k1,wrI])));(simp(disch:=omega) only[Q0q,Q2k,renH,AV.ren,AV.renL,Q1c,go_sem,k1,wrI];refine hK _ ?_;clear hK K))|((with_reducible refine Q0g ?_ ?_);rfl;intro K hK;simp(disch:=omega) only[go_sem,k1,wrI];((repeat(refine ndI (by first|assumption|omega|rfl) ?_));refine hK _ ?_;clear hK K))|((with_reducible first|refine AWE.seqI ?_|refine AWE.blockI ?_);intro Ψ hΨ hΨ')|(with_reducible first|refine AWE.ofSkip ?_|refine AWE.ofRet ?_|refine AWE.ofExit ?_)|((with_reducible apply AWE.regionM);rfl;rfl;rfl;rfl;intro R hR;simp only[List.take_succ_cons,List.take_zero,List.drop_succ_cons,List.drop_zero,List.drop_nil] at hR ⊢)|(with_reducible refine AWE.ofR ?_)|(with_reducible refine AWE.ofRD ?_)|((with_reducible apply AWE.cond);rfl;rfl;all_goals(intro hc;first|(cases hc;done)|(try simp only at hc)))|((with_reducible apply Q3c);rfl;intro mb umb R hR;simp(disch:=omega) only[go_sem,k1,wrI])|(with_reducible first|(refine Q0i ?_;refine hR _ ?_;clear hR R)|((first|refine Q0h ?_|refine Q0c ?_);intro Ψ hΨ hΨ')|(refine Q0b ?_;intro R hR)|(refine hΨ _ ?_;clear hΨ hΨ' Ψ)|refine Q0d ?_|refine Q0j ?_|refine Q0e ?_)|((with_reducible refine hΨ' _ _ ?_ ?_);(focus(simp;done));clear hΨ hΨ' Ψ)|((with_reducible apply Q0f);rfl;rfl;all_goals(intro hc;first|(cases hc;done)|(try simp only at hc))))))
   obtain⟨ks,hks⟩:∃k,srtI (m.map (·.1))=k:=⟨_,rfl⟩
   rw[hks] at hres
   have hkl:m.length=ks.length:=by rw[←hks];unfold srtI;rw[List.length_mergeSort,List.length_map]
   have hk9:ks.length≤900:=by have:=bm.1;omega
   rw[hks,hkl]
   refine AWE.of ?_
   clear bm so ky hks
   refine Q5u ks.length (fun j=>stBo mb m ks 500 ((ks.take j).map (mget bl0 m)) j) ?_ ?_
   · refine(St.to.nilrow 7 500 blT 6 rfl (by simp) (by simp[St.free,Q1i,AV.refs,AV.refsL,Q0z]) (by omega)).trans (St.to.of_le (St.le_of (by simp[leT]) (by simp[leH,hget,hput,rcBl])))
   · intro j hj Ψ hΨ hΨ'
     have ln:((ks.take j).map (mget bl0 m)).length≤900:=by rw[List.length_map,List.length_take];omega
     rcases Nat.lt_or_ge j ks.length with hjt|hje
     · obtain⟨x,hx⟩:∃x,ks[j]? = some x:=⟨_,List.getElem?_eq_getElem hjt⟩
       have c1:(decide ((j:Int)<(ks.length:Int)))=true:=decide_eq_true (by omega)
       have c2:=raK_at hx
       have c5:(raK ks).length=ks.length:=by rw[List.length_map,Q1u X4b];simp
       have c7:(j:Int)+1=((j+1:Nat):Int):=by omega
       have c3:(ks.take (j+1)).map (mget bl0 m)=(ks.take j).map (mget bl0 m)++[mget bl0 m x]:=by rw[List.take_add_one,hx,List.map_append];rfl
       (try dsimp only at hΨ ⊢)
       rw[c3] at hΨ
       generalize (ks.take j).map (mget bl0 m)=out at hΨ ln ⊢
       have e1:=rcBl_len out
       have e3:∀r,AV.refsL r (rcBl out)=false:=fun r=>Q0z r _
       have e4:∀r,AV.refsL r (raK ks)=false:=fun r=>Q0z r _
       have hΨ1:=hΨ
       clear hΨ c3
       have e2:rcBl (out++[mget bl0 m x])=rcBl out++(mget bl0 m x).pv.map .c:=by unfold rcBl;rw[List.flatMap_append];simp[List.flatMap_cons]
       (have W:=ndI c1 (ndI c2 (ndI c5 (ndI c7 (ndI e1 (ndI e3 (ndI e4 @wrI))))));(repeat(any_goals(first|((with_reducible refine Q3t ?_ ?_);rfl;intro K hK;apply lkl_fn;rfl;rfl;rfl;rfl;rfl;(simp(disch:=omega) only[go_sem,W,Nat.mul_one];refine hK _ ?_;clear hK K))|((with_reducible refine Q0g ?_ ?_);rfl;intro K hK;simp(disch:=omega) only[go_sem,W,Nat.mul_one];((repeat(refine ndI (by first|assumption|omega|rfl) ?_));refine hK _ ?_;clear hK K))|(with_reducible first|(refine Q0i ?_;refine hR _ ?_;clear hR R)|((first|refine Q0h ?_|refine Q0c ?_);intro Ψ hΨ hΨ')|(refine Q0b ?_;intro R hR)|(refine hΨ _ ?_;clear hΨ hΨ' Ψ)|refine Q0d ?_|refine Q0j ?_|refine Q0e ?_)|((with_reducible refine hΨ' _ _ ?_ ?_);(focus(simp;done));clear hΨ hΨ' Ψ)|((with_reducible apply Q0f);rfl;rfl;all_goals(intro hc;first|(cases hc;done)|(try simp only at hc)))))))
       all_goals exact hΨ1 _ hjt (St.to.trans (St.to.of_le (τ:=stBo mb m ks 55 (out++[mget bl0 m x]) ((j+1:Nat):Int)) (St.le_of (by simp[leT]) (by simp[leH,hget,e2,Bl.pv]))) (stBo_rn mb m ks _ _))
     · have c1:(decide ((j:Int)<(ks.length:Int)))=false:=decide_eq_false (by omega)
       rw[List.take_of_length_le hje,hres]
       (try dsimp only)
       clear hres
       (repeat(any_goals(first|((with_reducible refine Q0g ?_ ?_);rfl;intro K hK;simp(disch:=omega) only[go_sem,c1];((repeat(refine ndI (by first|assumption|omega|rfl) ?_));refine hK _ ?_;clear hK K))|((with_reducible first|refine AWE.seqI ?_|refine AWE.blockI ?_);intro Ψ hΨ hΨ')|(with_reducible first|refine AWE.ofSkip ?_|refine AWE.ofRet ?_|refine AWE.ofExit ?_)|((with_reducible apply AWE.regionM);rfl;rfl;rfl;rfl;intro R hR;simp only[List.take_succ_cons,List.take_zero,List.drop_succ_cons,List.drop_zero,List.drop_nil] at hR ⊢)|(with_reducible refine AWE.ofR ?_)|(with_reducible refine AWE.ofRD ?_)|((with_reducible apply AWE.cond);rfl;rfl;all_goals(intro hc;first|(cases hc;done)|(try simp only at hc)))|((with_reducible apply Q3c);rfl;intro mb umb R hR;simp(disch:=omega) only[go_sem,c1])|(with_reducible first|(refine Q0i ?_;refine hR _ ?_;clear hR R)|((first|refine Q0h ?_|refine Q0c ?_);intro Ψ hΨ hΨ')|(refine Q0b ?_;intro R hR)|(refine hΨ _ ?_;clear hΨ hΨ' Ψ)|refine Q0d ?_|refine Q0j ?_|refine Q0e ?_)|((with_reducible refine hΨ' _ _ ?_ ?_);(focus(simp;done));clear hΨ hΨ' Ψ)|((with_reducible apply Q0f);rfl;rfl;all_goals(intro hc;first|(cases hc;done)|(try simp only at hc))))))
       all_goals exact⟨by simp,⟨_,rfl,AV.le_refl _⟩,Q0y (by simp[leH,hget])⟩
theorem bills_fn(ex:Bool)(l:List Rp)(hl:l.length≤900)(ok:∀r∈l,r.ok):Fn Try.prog 6 [rsl ex l] [] (bsl false (Q6i l)) []:=by
 have k:=(bills_row ex l hl ok).frzN (d:=500) (pcs:=(Q6i l).flatMap Bl.pv) rfl
 have e1:((Q6i l).flatMap Bl.pv).length=(Q6i l).length*6:=Q1u bl_len _
 simpa [-List.length_flatMap,bsl,e1,AV.frz,AV.frzL,frzH,vi] using k
end
section
open Go.RowKit
set_option maxRecDepth 20000
set_option maxHeartbeats 2000000
theorem St.le_trans{a b c:St}(h:a.le b)(g:b.le c):a.le c:=
 ⟨h.1.trans g.1,fun i S ι w v hv=>g.2 i S ι w v (h.2 i S ι w v hv),fun r cs hr=>h.3 r cs (g.3 r cs hr)⟩
end
section
open Go.RowKit
open Nat (reduceBEq)
attribute [-go_sem] IntKind.bits
set_option maxRecDepth 20000
set_option maxHeartbeats 2000000
def Q5z(a:Int)(b:Bl)(r:Rp):Bl:=if r.a=a then⟨a,b.o+1,(b.c+r.c)%WW⟩ else b
def blOf(a:Int)(l:List Rp):Bl:=l.foldl (Q5z a) ⟨a,0,0⟩
end
section
open Go.RowKit
set_option maxRecDepth 20000
set_option maxHeartbeats 4000000
theorem take_min{α : Type}(l:List α)(k:Nat):l.take (min l.length k)=l.take k:=by
 rw[List.take_eq_take_iff,Nat.min_comm l.length k,Nat.min_assoc,Nat.min_self]
end
section
open Go.RowKit
open Nat (reduceBEq)
set_option maxRecDepth 20000
set_option maxHeartbeats 4000000
def rcR(l:List Rp):List AV:=(l.flatMap Rp.pv).map .c
theorem X3d(l:List Rp):(rcR l).length=l.length*12:=by unfold rcR;rw[List.length_map,Q1u Q8h]
theorem cloneR_fn(ex:Bool)(l:List Rp)(hl:l.length≤1000000):Fn Try.prog 14 [rsl ex l] [] (.row 7 36 12 l.length) [(7,rcR l)]:=by
 have e1:=X3d l
 unfold rcR at e1 ⊢
 (refine Q1q Try.func14 rfl (by rfl) ?_;simp only[Try.ntmps14,List.length_cons,List.length_nil,Nat.reduceAdd,Nat.reduceSub,List.replicate,List.cons_append,List.nil_append])
 (repeat(any_goals(first|((have hz0:=hb0 hc);(with_reducible refine Q3t ?_ ?_);rfl;intro K hK;refine OpA.nilrow_after 2 7 36 12 (Q3q ?_);(simp(disch:=omega) only[go_sem,e1,Q0z]);(repeat(refine And.intro (by first|assumption|omega|rfl|decide) ?_));refine hK _ ?_;clear hK K;clear hb0)|((with_reducible refine Q0g ?_ ?_);rfl;intro K hK;simp(disch:=omega) only[go_sem,e1,Q0z];((repeat(refine ndI (by first|assumption|omega|rfl) ?_));refine hK _ ?_;clear hK K))|((with_reducible refine Q0g ?_ ?_);rfl;intro K hK;refine Q8x rfl rfl (by first|exact .inl rfl|exact .inr rfl) ?_ rfl ?_;(focus(simp(disch:=omega) only[go_sem];try rfl));(intro b hb0;simp(disch:=omega) only[eq_self,go_sem,e1,Q0z];(with_reducible refine hK _ ?_);clear hK K))|((with_reducible refine Q0g ?_ ?_);rfl;intro K hK;simp(disch:=omega) only[go_sem,e1,Q0z];(repeat(refine And.intro rfl ?_));(refine Q7l rfl rfl (by first|exact .inl rfl|exact .inr rfl) ?_ rfl ?_);(focus(simp(disch:=omega) only[go_sem];try rfl));(simp(disch:=omega) only[eq_self,go_sem,e1,Q0z];(with_reducible refine hK _ ?_);clear hK K))|(with_reducible first|(refine Q0i ?_;refine hR _ ?_;clear hR R)|((first|refine Q0h ?_|refine Q0c ?_);intro Ψ hΨ hΨ')|(refine Q0b ?_;intro R hR)|(refine hΨ _ ?_;clear hΨ hΨ' Ψ)|refine Q0d ?_|refine Q0j ?_|refine Q0e ?_)|((with_reducible refine hΨ' _ _ ?_ ?_);(focus(simp;done));clear hΨ hΨ' Ψ)|((with_reducible apply Q0f);rfl;rfl;all_goals(intro hc;first|(cases hc;done)|(try simp only at hc))))))
 all_goals(try(obtain rfl:=List.eq_nil_of_length_eq_zero hz0))
 all_goals exact⟨by simp,⟨_,rfl,AV.le_refl _⟩,Q0y (by simp[leH,hget])⟩
theorem few_row(ex:Bool)(l:List Rp)(hl:l.length≤maxLen):Fn Try.prog 5 [rsl ex l] [] (.row 8 36 12 (l.take 50).length) [(8,rcR (l.take 50))]:=by
 have hl2:l.length<9223372036854775808:=Nat.lt_succ_of_le hl
 have c1:=cloneR_fn false (l.take 50) (by rw[List.length_take];omega)
 have e1:(if (50:Int)<(l.length:Int) then(50:Int) else(l.length:Int))=((min l.length 50:Nat):Int):=by split<;>omega
 have e2:(l.flatMap Rp.pv).take (min l.length 50*12)=(l.take 50).flatMap Rp.pv:=by rw[X2k Q8h,take_min]
 have e3:(l.take 50).length=min l.length 50:=by rw[List.length_take,Nat.min_comm]
 unfold rcR at c1 ⊢
 unfold rsl at c1
 rw[e3] at c1 ⊢
 (refine Q1q Try.func5 rfl (by rfl) ?_;simp only[Try.ntmps5,List.length_cons,List.length_nil,Nat.reduceAdd,Nat.reduceSub,List.replicate,List.cons_append,List.nil_append])
 (have W:=ndI e1 (ndI e2 @Q0z);(repeat(any_goals(first|((with_reducible refine Q1d ?_ ?_ ?_);rfl;rfl;intro K hK;(apply Q1n (c1) (fun r=>8);rfl;rfl;rfl;rfl;exact Try.func14;kernel_rfl;rfl;rfl;(intro r hr q hq h;simp(disch:=omega) only[List.map_cons,List.map_nil,List.cons_append,List.nil_append,List.mem_cons,List.not_mem_nil,or_false] at hr hq;(try dsimp only at h);first|omega|(rcases hr with rfl|rfl|rfl<;>rcases hq with rfl|rfl|rfl<;>simp at h ⊢)|(rcases hr with rfl|rfl<;>rcases hq with rfl|rfl<;>simp at h ⊢)|((repeat' split at h)<;>omega));(simp(disch:=omega) only[Q1t,Q2h,AV.ren,AV.renL,Q1c,List.mem_cons,List.not_mem_nil,forall_eq_or_imp,forall_eq,Q2d,List.contains_cons,List.contains_nil,AV.refsL,AV.refs,Q0z,AV.inN,AV.inNL,inH,Q1k,go_sem,W,Bool.false_and,Q1c,Q1k]));(simp(disch:=omega) only[Q0q,Q2k,renH,AV.ren,AV.renL,Q1c,go_sem,W,Bool.false_and,Q1c,Q1k];refine hK _ ?_;clear hK K))|((with_reducible refine Q0g ?_ ?_);rfl;intro K hK;simp(disch:=omega) only[go_sem,W,Bool.false_and,Q1c,Q1k];((repeat(refine ndI (by first|assumption|omega|rfl) ?_));refine hK _ ?_;clear hK K))|((with_reducible refine Q0g ?_ ?_);rfl;intro K hK;simp(disch:=omega) only[go_sem,W,Bool.false_and,Q1c,Q1k];apply X3j;rfl;rfl;rfl;rfl;(focus(simp(disch:=omega) only[go_sem];try rfl));rfl;(simp(disch:=omega) only[go_sem,W,Bool.false_and,Q1c,Q1k];(with_reducible refine hK _ ?_);clear hK K))|((with_reducible refine Q0g ?_ ?_);rfl;intro K hK;(try simp(disch:=omega) only[go_sem,W,Bool.false_and,Q1c,Q1k]);(repeat(refine ndI (by first|assumption|omega|rfl) ?_));refine X0j rfl rfl rfl rfl rfl ?_ rfl rfl rfl rfl ?_ ?_ ?_;(focus(simp only[go_sem];try rfl));(intro h;first|rfl|cases h);(first|omega|(dsimp only;omega)|(simp(disch:=omega) only[Option.isSome_some,Option.isSome_none];omega)|(simp;omega)|(focus(simp;done)));(intro q hq1 hq2;(simp(disch:=omega) only[go_sem,W,Bool.false_and,Q1c,Q1k];refine hK _ ?_;clear hK K)))|((with_reducible refine Q0g ?_ ?_);rfl;intro K hK;(try simp(disch:=omega) only[go_sem,W,Bool.false_and,Q1c,Q1k]);(repeat(refine ndI (by first|assumption|omega|rfl) ?_));refine X0k rfl rfl rfl rfl rfl ?_ rfl rfl rfl rfl ?_ ?_ ?_;(focus(simp only[go_sem];try rfl));(intro h;first|rfl|cases h);(first|omega|(dsimp only;omega)|(simp(disch:=omega) only[Option.isSome_some,Option.isSome_none];omega)|(simp;omega)|(focus(simp;done)));(simp(disch:=omega) only[go_sem,W,Bool.false_and,Q1c,Q1k];refine hK _ ?_;clear hK K))|(with_reducible first|(refine Q0i ?_;refine hR _ ?_;clear hR R)|((first|refine Q0h ?_|refine Q0c ?_);intro Ψ hΨ hΨ')|(refine Q0b ?_;intro R hR)|(refine hΨ _ ?_;clear hΨ hΨ' Ψ)|refine Q0d ?_|refine Q0j ?_|refine Q0e ?_)|((with_reducible refine hΨ' _ _ ?_ ?_);(focus(simp;done));clear hΨ hΨ' Ψ)|((with_reducible apply Q0f);rfl;rfl;all_goals(intro hc;first|(cases hc;done)|(try simp only at hc)))))))
 all_goals(refine⟨by simp,⟨_,?_,AV.le_refl _⟩,Q0y (by simp[leH,hget])⟩;simp only[Try.results5,resL,ldA,Q1o,go_sem])
theorem few_fn(ex:Bool)(l:List Rp)(hl:l.length≤maxLen):Fn Try.prog 5 [rsl ex l] [] (rsl false (l.take 50)) []:=by
 have k:=(few_row ex l hl).frzN (d:=8) (pcs:=(l.take 50).flatMap Rp.pv) rfl
 have e1:((l.take 50).flatMap Rp.pv).length=(l.take 50).length*12:=Q1u Q8h _
 simpa [-List.length_flatMap,-List.length_take,rsl,e1,AV.frz,AV.frzL,frzH,vi] using k
end
end Go.Proofs.Ytbmcdemnnbndeaa
