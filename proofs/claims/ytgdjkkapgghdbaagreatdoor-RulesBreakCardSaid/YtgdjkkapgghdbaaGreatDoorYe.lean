/-
  Mix and Rows of the document: what they compute. Reckoned.
-/
import Derived.Test.YtgdjkkapgghdbaaGreatDoorAvTy
import Derived.Test.YtgdjkkapgghdbaaGreatDoorAvO
import Derived.Test.YtgdjkkapgghdbaaGreatDoorAvF
import Derived.Lib.BytesEntry
import Derived.Laws.BytesArg
import Derived.Laws.Externs
import Derived.Shelf.Bytes.SlCountOne
import Derived.Deep.OwnRows
import Derived.OrdersIn
import Derived.MapKept
import Derived.WideKeyMaps
namespace Go.Proofs.YtgdjkkapgghdbaaGreatDoor
set_option linter.unusedSimpArgs false
set_option linter.unusedVariables false
section
open Go.RowKit
set_option maxRecDepth 20000
set_option maxHeartbeats 2000000
abbrev vi(k:IntKind)(n:Int):AV:=.c (.v (.int k n))
abbrev vb(b:Bool):AV:=.c (.v (.bool b))
abbrev U(a:Int):Prop:=0≤a∧a≤18446744073709551615
abbrev WW:Nat:=115792089237316195423570985008687907853269984665640564039457584007913129639936
def l0(x:Nat):Int:=((x%18446744073709551616:Nat):Int)
def l1(x:Nat):Int:=((x/18446744073709551616%18446744073709551616:Nat):Int)
def l2(x:Nat):Int:=((x/18446744073709551616/18446744073709551616%18446744073709551616:Nat):Int)
def l3(x:Nat):Int:=((x/18446744073709551616/18446744073709551616/18446744073709551616%18446744073709551616:Nat):Int)
theorem wrI{x:Int}(h1:-9223372036854775808≤x)(h2:x≤9223372036854775807):IntKind.i64.wrap x=x:=by
 unfold IntKind.wrap;simp[IntKind.bits,IntKind.signed];omega
theorem wrU{x:Int}(h1:0≤x)(h2:x≤18446744073709551615):IntKind.u64.wrap x=x:=by
 unfold IntKind.wrap;simp[IntKind.bits,IntKind.signed];omega
theorem U0(x:Nat):U (l0 x):=by unfold l0;constructor<;>omega
theorem U1(x:Nat):U (l1 x):=by unfold l1;constructor<;>omega
theorem U2(x:Nat):U (l2 x):=by unfold l2;constructor<;>omega
theorem U3(x:Nat):U (l3 x):=by unfold l3;constructor<;>omega
abbrev w4(a b c d:Int):AV:=.agg [vi .u64 a,vi .u64 b,vi .u64 c,vi .u64 d]
abbrev wN(x:Nat):AV:=w4 (l0 x) (l1 x) (l2 x) (l3 x)
theorem Q4p{n s0 s1 s2 s3:Nat}(h:n=s0+18446744073709551616*(s1+18446744073709551616*(s2+18446744073709551616*s3)))(h0:s0<18446744073709551616)(h1:s1<18446744073709551616)(h2:s2<18446744073709551616)(h3:s3<18446744073709551616) :
 l0 n=s0∧l1 n=s1∧l2 n=s2∧l3 n=s3:=by
 have e1:n%18446744073709551616=s0:=by omega
 have q1:n/18446744073709551616=s1+18446744073709551616*(s2+18446744073709551616*s3):=by omega
 have e2:n/18446744073709551616%18446744073709551616=s1:=by omega
 have q2:n/18446744073709551616/18446744073709551616=s2+18446744073709551616*s3:=by rw[q1];omega
 have e3:n/18446744073709551616/18446744073709551616%18446744073709551616=s2:=by rw[q2];omega
 have q3:n/18446744073709551616/18446744073709551616/18446744073709551616=s3:=by rw[q2];omega
 refine⟨by unfold l0;rw[e1],by unfold l1;rw[e2],by unfold l2;rw[e3],by unfold l3;rw[q3,Nat.mod_eq_of_lt h3]⟩
theorem Q7p{x:Nat}(h:x<WW):∃a b c d:Nat,x=a+18446744073709551616*(b+18446744073709551616*(c+18446744073709551616*d))∧a<18446744073709551616∧b<18446744073709551616∧c<18446744073709551616∧d<18446744073709551616∧l0 x=a∧l1 x=b∧l2 x=c∧l3 x=d:=by
 have e:x=x%18446744073709551616+18446744073709551616*(x/18446744073709551616%18446744073709551616+18446744073709551616*(x/18446744073709551616/18446744073709551616%18446744073709551616+18446744073709551616*(x/18446744073709551616/18446744073709551616/18446744073709551616))):=by omega
 have h3:x/18446744073709551616/18446744073709551616/18446744073709551616<18446744073709551616:=by
  have:x<115792089237316195423570985008687907853269984665640564039457584007913129639936:=h
  omega
 exact⟨_,_,_,_,e,Nat.mod_lt _ (by decide),Nat.mod_lt _ (by decide),Nat.mod_lt _ (by decide),h3,Q4p e (Nat.mod_lt _ (by decide)) (Nat.mod_lt _ (by decide)) (Nat.mod_lt _ (by decide)) h3⟩
theorem wN_inj{x y:Nat}(hx:x<WW)(hy:y<WW)(h0:l0 x=l0 y)(h1:l1 x=l1 y)(h2:l2 x=l2 y)(h3:l3 x=l3 y):x=y:=by
 obtain⟨a,b,c,d,rfl,_,_,_,_,e0,e1,e2,e3⟩:=Q7p hx
 obtain⟨a',b',c',d',rfl,_,_,_,_,f0,f1,f2,f3⟩:=Q7p hy
 rw[e0,f0] at h0;rw[e1,f1] at h1;rw[e2,f2] at h2;rw[e3,f3] at h3
 have g0:a=a':=by exact_mod_cast h0
 have g1:b=b':=by exact_mod_cast h1
 have g2:c=c':=by exact_mod_cast h2
 have g3:d=d':=by exact_mod_cast h3
 rw[g0,g1,g2,g3]
theorem X5w{x y:Nat}(hx:x<WW)(hy:y<WW):(l0 x==l0 y&&(l1 x==l1 y&&(l2 x==l2 y&&l3 x==l3 y)))=decide (x=y):=by
 rw[Bool.eq_iff_iff]
 simp only[Bool.and_eq_true,beq_iff_eq,decide_eq_true_eq]
 constructor
 · rintro ⟨h0,h1,h2,h3⟩;exact wN_inj hx hy h0 h1 h2 h3
 · rintro rfl;exact⟨rfl,rfl,rfl,rfl⟩
theorem l0_zero:l0 0=0:=rfl
theorem l1_zero:l1 0=0:=rfl
theorem l2_zero:l2 0=0:=rfl
theorem l3_zero:l3 0=0:=rfl
theorem wN_zero{x:Nat}(hx:x<WW):(l0 x==0&&(l1 x==0&&(l2 x==0&&l3 x==0)))=decide (x=0):=by
 have h:=X5w hx (show 0<WW by decide)
 rwa [l0_zero,l1_zero,l2_zero,l3_zero] at h
end
section
open Go.RowKit
open Nat (reduceBEq)
set_option maxRecDepth 20000
set_option maxHeartbeats 2000000
theorem Q8n(x y c:Int)(hx:0≤x)(hy:0≤y)(hy1:y≤18446744073709551615)(hc0:0≤c)(hc:c≤1):Ext Tryz.prog 177 [.int .u64 x,.int .u64 y,.int .u64 c] (.tup [.c (.v (.int .u64 (sbI x y c))),.c (.v (.int .u64 (bwI x y c)))]):=
 sub64_ext Tryz.func177 (by kernel_rfl) (by kernel_rfl) (by kernel_rfl) (by kernel_rfl) x y c hx hy hy1 hc0 hc
theorem bw01(x y c:Int):0≤bwI x y c∧bwI x y c≤1:=by unfold bwI;split<;>omega
theorem X3h(a b c d e f g h:Int)(u1:U a)(u2:U b)(u3:U c)(u4:U d)(u5:U e)(u6:U f)(u7:U g)(u8:U h):Fn Tryz.prog 176 [w4 a b c d,w4 e f g h,.fn 177 []] []
 (.tup [w4 (sbI a e 0) (sbI b f (bwI a e 0)) (sbI c g (bwI b f (bwI a e 0))) (sbI d h (bwI c g (bwI b f (bwI a e 0)))),vb (bwI d h (bwI c g (bwI b f (bwI a e 0))) != 0)]) []:=by
 have c1:=bw01 a e 0
 have c2:=bw01 b f (bwI a e 0)
 have c3:=bw01 c g (bwI b f (bwI a e 0))
 (refine Q0t Tryz.func176 rfl (by rfl) ?_;simp only[Tryz.ntmps176,List.length_cons,List.length_nil,Nat.reduceAdd,Nat.reduceSub,List.replicate,List.cons_append,List.nil_append])
 (repeat(any_goals(first|((with_reducible refine Q0b ?_ ?_);rfl;intro K hK;simp(disch:=omega) only[go_sem,wrI,Int.reduceAdd];((repeat(refine ndI (by first|assumption|rfl) ?_));refine hK _ ?_;clear hK K))|(with_reducible first|(refine Q0c ?_;refine hR _ ?_;clear hR R)|((first|refine Q0e ?_|refine Q0f ?_);intro J hJ hJ')|(refine Q0a ?_;intro R hR)|(refine hJ _ ?_;clear hJ hJ' J)|refine Q0h ?_|refine Q0j ?_|refine Q0q ?_)|((with_reducible refine hJ' _ _ ?_ ?_);(focus(simp;done));clear hJ hJ' J)|((with_reducible apply Q0d);rfl;rfl;all_goals(intro hc;first|(cases hc;done)|(try simp only at hc)))|(with_reducible refine Q3d 5 ?_)|((with_reducible refine Q3v ?_);intro J hJ hJ')|((with_reducible refine Q0z ?_ ?_);kernel_rfl;(with_reducible refine hR _ ?_);clear hR R)|((first|((with_reducible apply Q1h);rfl;rfl;(first|(apply X1z (Q8n a e 0 u1.1 u5.1 u5.2 (Int.le_refl 0) (by decide));rfl;rfl;rfl;rfl;(focus(simp(disch:=omega) only[AV.ones,Option.map_some,go_sem,wrI,Int.reduceAdd];done)))|(apply X1z (Q8n b f _ u2.1 u6.1 u6.2 c1.1 c1.2);rfl;rfl;rfl;rfl;(focus(simp(disch:=omega) only[AV.ones,Option.map_some,go_sem,wrI,Int.reduceAdd];done)))|(apply X1z (Q8n c g _ u3.1 u7.1 u7.2 c2.1 c2.2);rfl;rfl;rfl;rfl;(focus(simp(disch:=omega) only[AV.ones,Option.map_some,go_sem,wrI,Int.reduceAdd];done)))|(apply X1z (Q8n d h _ u4.1 u8.1 u8.2 c3.1 c3.2);rfl;rfl;rfl;rfl;(focus(simp(disch:=omega) only[AV.ones,Option.map_some,go_sem,wrI,Int.reduceAdd];done)))))|((with_reducible apply Q0x);rfl;rfl;(simp(disch:=omega) only[rdE,rdOf,go_sem,wrI,Int.reduceAdd];rfl);(intro τ hA hQ hN;((try simp only[Q1i,Op.operands,Call.operands,go_sem,wrI,Int.reduceAdd,go_sem,List.mem_cons,List.not_mem_nil,forall_eq_or_imp,forall_eq,List.append_toArray,Option.toArray] at hA);(try simp only[go_sem,wrI,Int.reduceAdd,List.mem_cons,List.not_mem_nil,forall_eq_or_imp,forall_eq] at hQ hN);(first|(revert hA;intro hA));(first|(revert hQ;intro hQ));(first|(revert hN;intro hN));simp(disch:=omega) only[go_sem,wrI,Int.reduceAdd,go_sem,hA,hQ,hN];(repeat(refine ndI (by first|assumption|omega) ?_));(first|apply Q1b|apply Q4a)))));(simp(disch:=omega) only[St.eff,setO,Q0u,go_sem,wrI,Int.reduceAdd]))|((with_reducible refine Q0w ?_ ?_ ?_ ?_);kernel_rfl;kernel_rfl;(first|kernel_rfl);intro R hR))))
 all_goals(refine⟨by simp,⟨_,?_,AV.le_refl _⟩,Q0g (by simp[leH,hget])⟩;simp only[Tryz.results176,resL,ldA,Q0m,go_sem])
theorem sub_nat{x y a0 a1 a2 a3 b0 b1 b2 b3:Nat}(hxw:x<WW)(hyw:y<WW)(hx:x=a0+18446744073709551616*(a1+18446744073709551616*(a2+18446744073709551616*a3)))(hy:y=b0+18446744073709551616*(b1+18446744073709551616*(b2+18446744073709551616*b3)))
 {s0 s1 s2 s3 c1 c2 c3 c4:Nat} (e0:a0+18446744073709551616*c1=s0+b0) (e1:a1+18446744073709551616*c2=s1+b1+c1) (e2:a2+18446744073709551616*c3=s2+b2+c2) (e3:a3+18446744073709551616*c4=s3+b3+c3)
 (h0:s0<18446744073709551616) (h1:s1<18446744073709551616) (h2:s2<18446744073709551616) (h3:s3<18446744073709551616) :
 (x+WW-y)%WW=s0+18446744073709551616*(s1+18446744073709551616*(s2+18446744073709551616*s3))∧(x<y↔c4≠0):=by
 unfold WW at *
 omega
theorem X1r{a b c:Nat}(hb:b<18446744073709551616)(hc:c≤1):sbI a b c=(((a+18446744073709551616-b-c)%18446744073709551616:Nat):Int):=by unfold sbI;omega
theorem X3i{a b c:Nat}:bwI a b c=((if a<b+c then 1 else 0:Nat):Int):=by unfold bwI;split<;>split<;>omega
theorem sub_fn(x y:Nat)(hx:x<WW)(hy:y<WW):Fn Tryz.prog 149 [wN x,wN y] [] (.tup [wN ((x+WW-y)%WW),vb (decide (x<y))]) []:=by
 have h:=X3h (l0 x) (l1 x) (l2 x) (l3 x) (l0 y) (l1 y) (l2 y) (l3 y) (U0 x) (U1 x) (U2 x) (U3 x) (U0 y) (U1 y) (U2 y) (U3 y)
 obtain⟨a,b,c,d,ex,ha,hb,hc,hd,e0,e1,e2,e3⟩:=Q7p hx
 obtain⟨a',b',c',d',ey,ha',hb',hc',hd',f0,f1,f2,f3⟩:=Q7p hy
 rw[e0,e1,e2,e3,f0,f1,f2,f3] at h
 have z:(0:Int)=((0:Nat):Int):=rfl
 rw[z,X3i] at h
 obtain⟨c1,hc1⟩:∃s:Nat,(if a<a'+0 then 1 else 0)=s:=⟨_,rfl⟩
 have hc1':c1≤1:=by rw[←hc1];split<;>omega
 rw[hc1,X3i] at h
 obtain⟨c2,hc2⟩:∃s:Nat,(if b<b'+c1 then 1 else 0)=s:=⟨_,rfl⟩
 have hc2':c2≤1:=by rw[←hc2];split<;>omega
 rw[hc2,X3i] at h
 obtain⟨c3,hc3⟩:∃s:Nat,(if c<c'+c2 then 1 else 0)=s:=⟨_,rfl⟩
 have hc3':c3≤1:=by rw[←hc3];split<;>omega
 rw[hc3,X3i] at h
 obtain⟨c4,hc4⟩:∃s:Nat,(if d<d'+c3 then 1 else 0)=s:=⟨_,rfl⟩
 have hc4':c4≤1:=by rw[←hc4];split<;>omega
 rw[hc4,X1r ha' (by omega),X1r hb' hc1',X1r hc' hc2',X1r hd' hc3'] at h
 obtain⟨s0,hs0⟩:∃s,(a+18446744073709551616-a'-0)%18446744073709551616=s:=⟨_,rfl⟩
 obtain⟨s1,hs1⟩:∃s,(b+18446744073709551616-b'-c1)%18446744073709551616=s:=⟨_,rfl⟩
 obtain⟨s2,hs2⟩:∃s,(c+18446744073709551616-c'-c2)%18446744073709551616=s:=⟨_,rfl⟩
 obtain⟨s3,hs3⟩:∃s,(d+18446744073709551616-d'-c3)%18446744073709551616=s:=⟨_,rfl⟩
 rw[hs0,hs1,hs2,hs3] at h
 have k0:s0<18446744073709551616:=by omega
 have k1:s1<18446744073709551616:=by omega
 have k2:s2<18446744073709551616:=by omega
 have k3:s3<18446744073709551616:=by omega
 obtain⟨g1,g2⟩:=sub_nat hx hy ex ey (s0:=s0) (c1:=c1) (s1:=s1) (c2:=c2) (s2:=s2) (c3:=c3) (s3:=s3) (c4:=c4) (by split at hc1<;>omega) (by split at hc2<;>omega) (by split at hc3<;>omega) (by split at hc4<;>omega) k0 k1 k2 k3
 obtain⟨m0,m1,m2,m3⟩:=Q4p g1 k0 k1 k2 k3
 rw[←m0,←m1,←m2,←m3] at h
 have hq:(((c4:Nat):Int) != ((0:Nat):Int))=decide (x<y):=by
  rw[Bool.eq_iff_iff]
  simp only[bne_iff_ne,ne_eq,decide_eq_true_eq]
  rw[g2];omega
 rw[hq] at h
 rw[←e0,←e1,←e2,←e3,←f0,←f1,←f2,←f3] at h
 obtain⟨q,hq'⟩:∃q,decide (x<y)=q:=⟨_,rfl⟩
 obtain⟨n,hn⟩:∃n,(x+WW-y)%WW=n:=⟨_,rfl⟩
 rw[hq',hn] at h ⊢
 (refine Q0t Tryz.func149 rfl (by rfl) ?_;simp only[Tryz.ntmps149,List.length_cons,List.length_nil,Nat.reduceAdd,Nat.reduceSub,List.replicate,List.cons_append,List.nil_append])
 (repeat(any_goals(first|((with_reducible refine Q0l ?_ ?_ ?_);rfl;rfl;intro K hK;((apply Q0i (h);rfl;rfl;rfl;rfl;exact Tryz.func176);kernel_rfl;rfl;(focus((simp only[go_sem]);(try rfl);done));(first|rfl));(simp only[go_sem];refine hK _ ?_;clear hK K))|((with_reducible refine Q0b ?_ ?_);rfl;intro K hK;simp only[go_sem];((repeat(refine ndI (by first|assumption) ?_));refine hK _ ?_;clear hK K))|(with_reducible first|(refine Q0c ?_;refine hR _ ?_;clear hR R)|((first|refine Q0e ?_);intro J hJ hJ')|(refine Q0a ?_;intro R hR)|(refine hJ _ ?_;clear hJ hJ' J)|refine Q0j ?_))))
 all_goals(refine⟨by simp,⟨_,?_,AV.le_refl _⟩,Q0g (by simp[leH,hget])⟩;simp only[Tryz.results149,resL,ldA,Q0m,go_sem])
end
section
open Go.RowKit
open Nat (reduceBEq)
attribute [-go_sem] IntKind.bits
set_option maxRecDepth 20000
set_option maxHeartbeats 2000000
theorem or_nat{a b:Nat}(ha:a<18446744073709551616)(hb:b<18446744073709551616):IntKind.u64.wrap (BitVec.ofInt IntKind.u64.bits (a:Int) ||| BitVec.ofInt IntKind.u64.bits (b:Int)).toNat=((a ||| b:Nat):Int):=by
 have e:(BitVec.ofInt IntKind.u64.bits (a:Int) ||| BitVec.ofInt IntKind.u64.bits (b:Int)).toNat=a ||| b:=by
  show(BitVec.ofInt 64 (a:Int) ||| BitVec.ofInt 64 (b:Int)).toNat=_
  rw[BitVec.toNat_or,BitVec.ofInt_natCast,BitVec.ofInt_natCast,BitVec.toNat_ofNat,BitVec.toNat_ofNat,Nat.mod_eq_of_lt ha,Nat.mod_eq_of_lt hb]
 rw[e]
 have h:a ||| b<2 ^ 64:=Nat.or_lt_two_pow ha hb
 exact wrU (by omega) (by omega)
theorem small_fn(x:Nat)(hx:x<WW):Fn Tryz.prog 150 [wN x] [] (.tup [vi .u64 (if x<18446744073709551616 then l0 x else 0),vb (decide (x<18446744073709551616))]) []:=by
 obtain⟨a,b,c,d,ex,ha,hb,hc,hd,e0,e1,e2,e3⟩:=Q7p hx
 rw[wN,e0,e1,e2,e3]
 have k1:=or_nat hb hc
 have k2:=or_nat (Nat.or_lt_two_pow (n:=64) hb hc) hd
 by_cases h:b=0∧c=0∧d=0
 · have hs:x<18446744073709551616:=by omega
   rw[if_pos hs,decide_eq_true hs]
   have k3:(((b ||| c ||| d:Nat):Int) != 0)=false:=by
    obtain⟨rfl,rfl,rfl⟩:=h
    rfl
   generalize b ||| c ||| d=y at k2 k3
   generalize b ||| c=z at k1 k2
   generalize (a:Int)=a,(b:Int)=b,(c:Int)=c,(d:Int)=d at *
   (refine Q0t Tryz.func150 rfl (by rfl) ?_;simp only[Tryz.ntmps150,List.length_cons,List.length_nil,Nat.reduceAdd,Nat.reduceSub,List.replicate,List.cons_append,List.nil_append])
   (have W:=ndI k1 (ndI k2 k3);(repeat(any_goals(first|((with_reducible refine Q0b ?_ ?_);rfl;intro K hK;simp only[go_sem,W];((repeat(refine ndI (by first|assumption|omega) ?_));refine hK _ ?_;clear hK K))|(with_reducible first|(refine Q0c ?_;refine hR _ ?_;clear hR R)|((first|refine Q0e ?_);intro J hJ hJ')|(refine Q0a ?_;intro R hR)|(refine hJ _ ?_;clear hJ hJ' J)|refine Q0h ?_|refine Q0j ?_)|((with_reducible apply Q0d);rfl;rfl;all_goals(intro hc;first|(cases hc;done)|(try simp only at hc)))))))
   all_goals(refine⟨by simp,⟨_,?_,AV.le_refl _⟩,Q0g (by simp[leH,hget])⟩;simp only[Tryz.results150,resL,ldA,Q0m,go_sem])
 · have hs:¬x<18446744073709551616:=by omega
   rw[if_neg hs,decide_eq_false hs]
   have k3:(((b ||| c ||| d:Nat):Int) != 0)=true:=by
    rw[bne_iff_ne,ne_eq]
    intro e
    have e':b ||| c ||| d=0:=by omega
    rw[Nat.or_eq_zero_iff,Nat.or_eq_zero_iff] at e'
    exact h ⟨e'.1.1,e'.1.2,e'.2⟩
   generalize b ||| c ||| d=y at k2 k3
   generalize b ||| c=z at k1 k2
   generalize (a:Int)=a,(b:Int)=b,(c:Int)=c,(d:Int)=d at *
   (refine Q0t Tryz.func150 rfl (by rfl) ?_;simp only[Tryz.ntmps150,List.length_cons,List.length_nil,Nat.reduceAdd,Nat.reduceSub,List.replicate,List.cons_append,List.nil_append])
   (have W:=ndI k1 (ndI k2 k3);(repeat(any_goals(first|((with_reducible refine Q0b ?_ ?_);rfl;intro K hK;simp only[go_sem,W];((repeat(refine ndI (by first|assumption|omega) ?_));refine hK _ ?_;clear hK K))|(with_reducible first|(refine Q0c ?_;refine hR _ ?_;clear hR R)|((first|refine Q0e ?_);intro J hJ hJ')|(refine Q0a ?_;intro R hR)|(refine hJ _ ?_;clear hJ hJ' J)|refine Q0j ?_)|((with_reducible refine hJ' _ _ ?_ ?_);(focus(simp;done));clear hJ hJ' J)|((with_reducible apply Q0d);rfl;rfl;all_goals(intro hc;first|(cases hc;done)|(try simp only at hc)))))))
   all_goals(refine⟨by simp,⟨_,?_,AV.le_refl _⟩,Q0g (by simp[leH,hget])⟩;simp only[Tryz.results150,resL,ldA,Q0m,go_sem])
theorem of_fn(a:Int):Fn Tryz.prog 151 [vi .u64 a] [] (w4 a 0 0 0) []:=by
 (refine Q0t Tryz.func151 rfl (by rfl) ?_;simp only[Tryz.ntmps151,List.length_cons,List.length_nil,Nat.reduceAdd,Nat.reduceSub,List.replicate,List.cons_append,List.nil_append])
 (repeat(any_goals(first|((with_reducible refine Q0b ?_ ?_);rfl;intro K hK;simp only[go_sem];((repeat(refine ndI (by first|assumption) ?_));refine hK _ ?_;clear hK K))|(with_reducible first|(refine Q0c ?_;refine hR _ ?_;clear hR R)|((first|refine Q0e ?_);intro J hJ hJ')|(refine Q0a ?_;intro R hR)|(refine hJ _ ?_;clear hJ hJ' J)|refine Q0j ?_))))
 all_goals(refine⟨by simp,⟨_,?_,AV.le_refl _⟩,Q0g (by simp[leH,hget])⟩;simp only[Tryz.results151,resL,ldA,Q0m,go_sem])
def Q4z(s t:Nat):Bool:=decide (t≤s)&&decide (s-t<128)
theorem near_fn(s t:Nat)(hs:s<WW)(ht:t<WW):Fn Tryz.prog 118 [wN s,wN t] [] (vb (Q4z s t)) []:=by
 have sb:=sub_fn s t hs ht
 have hx:(s+WW-t)%WW<WW:=Nat.mod_lt _ (by decide)
 have sm:=small_fn _ hx
 have key:Q4z s t=(!decide (s<t)&&decide ((s+WW-t)%WW<18446744073709551616)&&decide ((if (s+WW-t)%WW<18446744073709551616 then l0 ((s+WW-t)%WW) else 0)<128)):=by
  unfold Q4z
  by_cases h:s<t
  · rw[decide_eq_true h,decide_eq_false (by omega),Bool.not_true,Bool.false_and,Bool.false_and,Bool.false_and]
  · have e:(s+WW-t)%WW=s-t:=by rw[show s+WW-t=s-t+WW by omega,Nat.add_mod_right,Nat.mod_eq_of_lt (by omega)]
    rw[e,decide_eq_false h,decide_eq_true (by omega:t≤s)]
    by_cases h2:s-t<18446744073709551616
    · rw[if_pos h2,decide_eq_true h2]
      have:l0 (s-t)=((s-t:Nat):Int):=by unfold l0;rw[Nat.mod_eq_of_lt h2]
      rw[this]
      simp
      omega
    · rw[decide_eq_false h2,decide_eq_false (by omega:¬s-t<128),Bool.and_false,Bool.and_false,Bool.false_and]
 rw[key]
 generalize decide (s<t)=q1 at sb
 generalize decide ((s+WW-t)%WW<18446744073709551616)=q2 at sm
 generalize (if (s+WW-t)%WW<18446744073709551616 then l0 ((s+WW-t)%WW) else 0)=n at sm
 generalize (s+WW-t)%WW=x at sb sm
 cases q1<;>cases q2
 all_goals(refine Q0t Tryz.func118 rfl (by rfl) ?_;simp only[Tryz.ntmps118,List.length_cons,List.length_nil,Nat.reduceAdd,Nat.reduceSub,List.replicate,List.cons_append,List.nil_append])
 all_goals(repeat(any_goals(first|((with_reducible refine Q0l ?_ ?_ ?_);rfl;rfl;intro K hK;((first|(apply Q0i (sb);rfl;rfl;rfl;rfl;exact Tryz.func149)|(apply Q0i (sm);rfl;rfl;rfl;rfl;exact Tryz.func150));kernel_rfl;rfl;(focus((simp only[go_sem]);(try rfl);done));(first|rfl));(simp only[go_sem];refine hK _ ?_;clear hK K))|((with_reducible refine Q0b ?_ ?_);rfl;intro K hK;simp only[go_sem];((repeat(refine ndI (by first|assumption) ?_));refine hK _ ?_;clear hK K))|(with_reducible first|(refine Q0c ?_;refine hR _ ?_;clear hR R)|((first|refine Q0e ?_);intro J hJ hJ')|(refine Q0a ?_;intro R hR)|(refine hJ _ ?_;clear hJ hJ' J)|refine Q0j ?_)|((with_reducible apply Q0p);rfl;rfl;rfl;all_goals(intro hb;first|(cases hb;done)|((try simp only[Bool.not_true,Bool.not_false] at hb);(first|((with_reducible intro K hK);simp only[go_sem];((repeat(refine ndI (by first|assumption) ?_));refine hK _ ?_;clear hK K))|((fail_if_success (with_reducible intro _));simp only[go_sem]))))))))
 all_goals(refine⟨by simp,⟨_,?_,AV.le_refl _⟩,Q0g (by simp[leH,hget])⟩;simp only[Tryz.results118,resL,ldA,Q0m,go_sem])
 all_goals simp only[Bool.not_true,Bool.not_false,Bool.true_and,Bool.false_and]
end
section
open Go.RowKit
open Nat (reduceBEq)
set_option maxRecDepth 20000
set_option maxHeartbeats 2000000
def apv(a:Int):List PV:=[.v (.int .u64 a)]
theorem Q3s(a:Int):(apv a).length=1:=rfl
abbrev asl(ex:Bool)(l:List Int):AV:=.c (.sl ex 1 l.length (l.flatMap apv))
def rcA(l:List Int):List AV:=(l.flatMap apv).map .c
theorem Q5n(l:List Int):(rcA l).length=l.length*1:=by unfold rcA;rw[List.length_map,Q0s Q3s]
theorem X5j(ex:Bool)(l:List Int)(hl:l.length≤1000000):Fn Tryz.prog 36 [asl ex l] [] (.row 7 23 1 l.length) [(7,rcA l)]:=by
 have e1:=Q5n l
 unfold rcA at e1 ⊢
 (refine Q0t Tryz.func36 rfl (by rfl) ?_;simp only[Tryz.ntmps36,List.length_cons,List.length_nil,Nat.reduceAdd,Nat.reduceSub,List.replicate,List.cons_append,List.nil_append])
 (repeat(any_goals(first|((have hz0:=hb0 hc);(with_reducible refine Q2n ?_ ?_);rfl;intro K hK;refine OpA.nilrow_after 2 7 23 1 (Q3p ?_);(simp(disch:=omega) only[go_sem,e1,Q0o]);(repeat(refine And.intro (by first|assumption|rfl) ?_));refine hK _ ?_;clear hK K;clear hb0)|((with_reducible refine Q0b ?_ ?_);rfl;intro K hK;simp(disch:=omega) only[go_sem,e1,Q0o];((repeat(refine ndI (by first|assumption|omega|rfl) ?_));refine hK _ ?_;clear hK K))|((with_reducible refine Q0b ?_ ?_);rfl;intro K hK;refine Q9w rfl rfl (by first|exact .inl rfl) ?_ rfl ?_;(focus(simp(disch:=omega) only[go_sem];try rfl));(intro b hb0;simp(disch:=omega) only[eq_self,go_sem,e1,Q0o];(with_reducible refine hK _ ?_);clear hK K))|(with_reducible first|(refine Q0c ?_;refine hR _ ?_;clear hR R)|((first|refine Q0e ?_);intro J hJ hJ')|(refine Q0a ?_;intro R hR)|(refine hJ _ ?_;clear hJ hJ' J)|refine Q0h ?_|refine Q0j ?_)|((with_reducible refine hJ' _ _ ?_ ?_);(focus(simp;done));clear hJ hJ' J)|((with_reducible apply Q0d);rfl;rfl;all_goals(intro hc;first|(try simp only at hc))))))
 all_goals(try(obtain rfl:=List.eq_nil_of_length_eq_zero hz0))
 all_goals exact⟨by simp,⟨_,rfl,AV.le_refl _⟩,Q0g (by simp[leH,hget])⟩
theorem Q6f{l:List Int}{i:Nat}{y:Int}(h:l[i]? = some y):((l.flatMap apv).drop i).take 1=[.v (.int .u64 y)]:=by
 have h2:=Q4m (f:=apv) Q3s h
 rw[Nat.mul_one] at h2
 exact h2
theorem asl_take(l:List Int)(k:Nat):(l.flatMap apv).take k=(l.take k).flatMap apv:=by
 have e:l.flatMap apv=l.map fun a=>PV.v (.int .u64 a):=by
  induction l with
  |nil=>rfl
  |cons a l ih=>rw[List.flatMap_cons,ih];rfl
 have e2:(l.take k).flatMap apv=(l.take k).map fun a=>PV.v (.int .u64 a):=by
  generalize l.take k=r
  induction r with
  |nil=>rfl
  |cons a r ih=>rw[List.flatMap_cons,ih];rfl
 rw[e,e2,List.map_take]
end
section
open Go.RowKit
attribute [-go_sem] IntKind.bits
set_option maxRecDepth 20000
set_option maxHeartbeats 2000000
def bpv(b:Nat):List PV:=[.v (.int .u8 (b:Int))]
theorem Q2x(b:Nat):(bpv b).length=1:=rfl
abbrev bsl(ex:Bool)(l:List Nat):AV:=.c (.sl ex 1 l.length (l.flatMap bpv))
theorem X5m{l:List Nat}{i:Nat}{y:Nat}(h:l[i]? = some y):((l.flatMap bpv).drop (i*1)).take 1=[.v (.int .u8 (y:Int))]:=Q4m (f:=bpv) Q2x h
def rdN(l:List Nat):Nat→Nat
 |0=>0
 |i+1=>rdN l i*256+(match l[i]? with|some b=>b|none=>0)
theorem rdN_lt{l:List Nat}(h:∀b∈l,b<256):∀i,rdN l i<256 ^ i
 |0=>Nat.zero_lt_one
 |i+1=>by
  have h1:=rdN_lt h i
  unfold rdN
  rw[Nat.pow_succ]
  cases hb:l[i]? with
  |none=>dsimp only;omega
  |some b=>
   have:=h b (List.mem_of_getElem? hb)
   dsimp only;omega
theorem or_step{x y:Nat}(hx:x<72057594037927936)(hy:y<256):IntKind.u64.wrap ((x:Int)*2 ^ min 8 IntKind.u64.bits)=((x*256:Nat):Int)∧IntKind.u64.wrap (y:Int)=(y:Int)∧IntKind.u64.wrap (BitVec.ofInt IntKind.u64.bits ((x*256:Nat):Int) ||| BitVec.ofInt IntKind.u64.bits (y:Int)).toNat=((x*256+y:Nat):Int):=by
 refine⟨?_,wrU (by omega) (by omega),?_⟩
 · rw[show min 8 IntKind.u64.bits=8 from rfl,show((x:Int)*2 ^ 8)=((x*256:Nat):Int) by omega]
   exact wrU (by omega) (by omega)
 · rw[or_nat (by omega) (by omega)]
   have:=Nat.two_pow_add_eq_or_of_lt (i:=8) (b:=y) (by omega) x
   rw[show x*256=2 ^ 8*x by omega,this]
end
section
open Go.RowKit
attribute [-go_sem] IntKind.bits
theorem Q3z(l:List Nat):l.flatMap bpv=l.map fun b:Nat=>PV.v (.int .u8 (b:Int)):=by
 induction l with
 |nil=>rfl
 |cons a l ih=>rw[List.flatMap_cons,ih];rfl
end
section
open Go.RowKit
open Nat (reduceBEq)
attribute [-go_sem] IntKind.bits
set_option maxRecDepth 20000
set_option maxHeartbeats 2000000
def rcB(l:List Nat):List AV:=(l.flatMap bpv).map .c
theorem rcB_len(l:List Nat):(rcB l).length=l.length*1:=by unfold rcB;rw[List.length_map,Q0s Q2x]
theorem Q1s(d:Nat)(l:List Nat):AV.refsL d (rcB l)=false:=by unfold rcB;exact Q0o _ _
end
section
open Go.RowKit Go.Lib
section
variable {P:Program} {o:Oper} {σ : St} {K:St→Prop}
theorem X4f{d:Nat}(z:Value):∀n,AV.refsL d (List.replicate n (.c (.v z)))=false
 |0=>rfl
 |n+1=>by
  rw[List.replicate_succ]
  unfold AV.refsL
  rw[X4f z n]
  rfl
theorem X8k{d n:Nat}{t e by_:Nat}{l c:Operand}{kl kc:IntKind}{L C:Int}{z:Value}(ho:o.op = .makeSlice t l c)(hl0:Q0k l=true)(hc0:Q0k c=true)(hs:slcZ P t=some (e,1,by_))(hz:(P.info? e).bind (·.zero)=some z)(hz1:z.cells = #[z])(h1:z.oneCell'=true)
 (hl:σ.ev l = .c (.v (.int kl L))) (hc:σ.ev c = .c (.v (.int kc C))) (hL:L=(n:Int)) (hC:C=(n:Int)) (hby:by_*n≤281474976710656) (hn0:0<n) (hn:n≤maxLen) (hd:o.dst=some d) (hfr:σ.free d=true) (hd2:d<1000)
 (hK:K ((St.mk σ.T (hput σ.H d (List.replicate n (.c (.v z))))).put o.dst (.row d e 1 n))):OpA P o σ K:=by
 subst hL hC
 refine X2c (.row d e 1 n) hd hfr hd2 ?_ hK fun E ι a w h=>?_
 · exact X4f z n
 · obtain⟨hu,i,zv,hi,hiz,hsize,hbytes,hzs,_⟩:=Q4i hs
   have hvz:zv=z:=by
    rw[hi] at hz
    simp only[Option.bind_some,hiz,Option.some.injEq] at hz
    exact hz
   subst hvz
   have hlv:=h.ev l hl0
   rw[hl] at hlv
   obtain⟨el,_⟩:=hlv.v_inv
   have hcv:=h.ev c hc0
   rw[hc] at hcv
   obtain⟨ec,_⟩:=hcv.v_inv
   have hrun:=run_make_row (P:=P) t e i zv hu hi hiz hsize hz1 kl kc n (by rw[hbytes];exact hby) (by unfold maxLen at hn;omega) w
   have hcells:(madeCells #[zv] n).toList=List.replicate n zv:=toList_madeCells_one zv n
   have hsz:(madeCells #[zv] n).size=n:=by rw[←Array.length_toList,hcells,List.length_replicate]
   refine⟨.slice (some ⟨w.heap.size,0,none⟩) n n,madeCells #[zv] n,e,?_,by rw[List.length_replicate,hsz];exact Nat.le_refl _,fun j u x hu' hx=>?_,fun u hu'=>?_,fun S ι' w' hι=>?_⟩
   · rw[execOp]
     simp only[ho,el,ec,Sem.run_bind,hrun,Result.andThen_ok,Sem.run_pure]
   · rw[←Array.getElem?_toList,hcells,List.getElem?_replicate] at hu'
     rw[List.getElem?_replicate] at hx
     by_cases hj:j<n
     · rw[if_pos hj] at hu' hx
       cases hu'
       cases hx
       exact⟨.c _ _ (.v _ h1),h1⟩
     · rw[if_neg hj] at hu'
       cases hu'
   · rw[hcells] at hu'
     rw[List.eq_of_mem_replicate hu']
     exact h1
   · have:=RV.row (S:=S) (ι:=ι') (w:=w') d e 1 n n (Nat.le_refl _) hn (by rw[hι];simp[hsz]) (by rw[hι]) (by rw[hι];simp[hsz];omega)
     rwa [hι] at this
end
end
section
open Go.RowKit Go.Lib
abbrev Fr(ro:Option Nat):Fence:={Fence.wide with round:=ro}
def opNd(o:Oper):Bool:=match o.op with | .defer _=>false|_=>true
theorem opNd_ne{o:Oper}(h:opNd o=true):∀c,o.op≠.defer c:=fun c e=>by simp[opNd,e] at h
theorem Q7m{P:Program}{ro:Option Nat}{o:Oper}{a:Act}{w:World}{K:Act→World→Prop}{Q:Exit→Act→World→Prop}(hd:opNd o=true)(h:o.wp P a w K Q):o.wpIn (Fr ro) 0 P a w K Q:=by
 refine⟨fun _ _=>trivial,?_⟩
 rw[Oper.semAt_eq _ _ _ (opNd_ne hd)]
 unfold Oper.wp at h
 generalize (execOp a.eval o).run P w=r at h ⊢
 cases r with
 |ok x w'=>
  cases x with
  |value v=>exact h
  |skip=>exact h
  |defer d=>exact h
  |enter f args=>exact⟨fun e=>(by cases e),(callsIn_wide (n:=0-1)).2 h⟩
  |row row args=>exact⟨fun e=>(by cases e),fun c cs _=>let ⟨v,w',r,s⟩:=h c cs;⟨v,w',r,stepsIn_wide.2 s⟩⟩
  |_=>exact h.elim
 |halt x w'=>cases x<;>first|exact h|exact h.elim
theorem X2u{P:Program}{ops:Array Oper}{K:St→Prop}{ro:Option Nat}{Q:Exit→Act→World→Prop}{more:List Oper}:∀(l:List Oper),l.all opNd=true→∀(σ : St),evL P ops l σ K→∀(E:Env) (ι : Nat→Nat×Nat×Nat) (a:Act) (w:World),Conc E ι σ a w →
 (∀ι' σ' a' w',K σ'→Conc E ι' σ' a' w'→wpListIn (Fr ro) 0 P ops Q more a' w')→wpListIn (Fr ro) 0 P ops Q (l++more) a w
 |[],_,σ,h,E,ι,a,w,hc,hk=>hk ι σ a w h hc
 |o::rest,hnd,σ,h,E,ι,a,w,hc,hk=>by
  rw[List.all_cons,Bool.and_eq_true] at hnd
  obtain⟨hn1,hn2⟩:=hnd
  unfold evL at h
  split at h
  · rename_i hg
    refine wpListIn_plain hg fun K hK=>?_
    exact Q7m hn1 (h E ι a w hc K _ fun ι' σ' a' w' hk' hc'=>hK _ _ (X2u rest hn2 σ' hk' E ι' a' w' hc' hk))
  · rename_i j want hg
    split at h
    · rename_i d hd
      split at h
      · rename_i b hb
        have hv:=hc.tmp d
        rw[hb] at hv
        obtain⟨e,_⟩:=hv.v_inv
        have hlt:d<a.tmps.size:=by
         rw[hc.size]
         rcases Nat.lt_or_ge d σ.T.length with h|h
         · exact h
         · rw[List.getD_eq_getElem?_getD,List.getElem?_eq_none h] at hb;cases hb
        have hy:yielded ops a.tmps j=some b:=by
         unfold yielded
         rw[hd]
         simp only[Option.bind_some]
         have:a.tmps[d]? = some (.bool b):=by
          rw[Array.getElem?_eq_getElem hlt]
          simp only[Array.getD,hlt,dif_pos] at e
          simpa using e
         rw[this]
        refine wpListIn_step fun K hK=>?_
        have hw:Region.wanted o (yielded ops a.tmps)=(some b==some want):=by
         unfold Region.wanted
         rw[hg]
         simp only[hy]
        rw[hw]
        by_cases hbw:b=want
        · subst hbw
          simp only[beq_self_eq_true,if_true]
          have h1:=h.1 rfl
          rw[Q5v hb (by simp)] at h1
          exact Q7m hn1 (h1 E ι a w hc K _ fun ι' σ' a' w' hk' hc'=>hK _ _ (X2u rest hn2 σ' hk' E ι' a' w' hc' hk))
        · have hbw':b = !want:=by cases b<;>cases want<;>simp_all
          have:(some b==some want)=false:=by simp[hbw]
          simp only[this,Bool.false_eq_true,if_false]
          have h2:=h.2 hbw'
          rw[Q5v (by rw[hb,hbw']) (by simp)] at h2
          exact⟨fun _ _=>trivial,hK _ _ (X2u rest hn2 _ h2 E ι _ w (hc.put o.dst .undef) hk)⟩
      · rename_i hb
        have hv:=hc.tmp d
        rw[hb] at hv
        have e:=hv.undef_inv
        have hy:yielded ops a.tmps j=none:=by
         unfold yielded
         rw[hd]
         simp only[Option.bind_some]
         simp only[Array.getD_eq_getD_getElem?] at e
         cases hh:a.tmps[d]? with
         |none=>rfl
         |some u=>rw[hh] at e;simp only[Option.getD_some] at e;rw[e];rfl
        refine wpListIn_step fun K hK=>?_
        have hw:Region.wanted o (yielded ops a.tmps)=false:=by
         unfold Region.wanted
         rw[hg]
         simp only[hy]
         rfl
        rw[hw]
        simp only[Bool.false_eq_true,if_false]
        exact⟨fun _ _=>trivial,hK _ _ (X2u rest hn2 _ h E ι _ w (hc.put o.dst .undef) hk)⟩
      · exact h.elim
    · exact h.elim
def Q4o:Code→Bool
 |.skip=>true
 |.region _ ops d=>!d&&ops.toList.all opNd
 |.seq a b=>Q4o a&&Q4o b
 |.cond _ a b=>Q4o a&&Q4o b
 |.block _ c=>Q4o c
 |.exit _=>true
 |.ret=>true
 |_=>false
theorem Q8l{P:Program}{ro:Option Nat}:∀(c:Code),Q4o c=true→∀(σ : St) (Φ : Exit→St→Prop),evC P c σ Φ→∀(E:Env) (ι : Nat→Nat×Nat×Nat) (a:Act) (w:World),Conc E ι σ a w→c.wpIn (Fr ro) 0 P (fun ex a' w'=>∃ι' σ',Conc E ι' σ' a' w'∧Φ ex σ') a w
 |.skip,_,σ,Φ,h,E,ι,a,w,hc=>wpIn_skip ⟨ι,σ,hc,h⟩
 |.region id ops false,hr,σ,Φ,h,E,ι,a,w,hc=>by
  have hr':ops.toList.all opNd=true:=by simpa [Q4o] using hr
  refine wpIn_region_list ?_
  have:=X2u (ro:=ro) (Q:=fun ex a' w'=>∃ι' σ',Conc E ι' σ' a' w'∧Φ ex σ') (more:=[]) ops.toList hr' σ h E ι a w hc fun ι' σ' a' w' hk hc'=>wpListIn_nil ⟨ι',σ',hc',hk⟩
  rwa [List.append_nil] at this
 |.region id ops true,hr,σ,Φ,h,E,ι,a,w,hc=>by simp[Q4o] at hr
 |.seq x y,hr,σ,Φ,h,E,ι,a,w,hc=>by
  rw[Q4o,Bool.and_eq_true] at hr
  refine wpIn_seq (wpIn_mono (Q8l x hr.1 σ _ h E ι a w hc) fun ex a' w'=>?_)
  rintro ⟨ι',σ',hc',hΦ⟩
  cases ex with
  |normal=>exact Q8l y hr.2 σ' Φ hΦ E ι' a' w' hc'
  |_=>exact⟨ι',σ',hc',hΦ⟩
 |.cond c x y,hr,σ,Φ,h,E,ι,a,w,hc=>by
  rw[Q4o,Bool.and_eq_true] at hr
  unfold evC at h
  obtain⟨h0,h⟩:=h
  split at h
  · rename_i t ht
    have hv:=hc.ev c h0
    rw[ht] at hv
    obtain⟨e,_⟩:=hv.v_inv
    exact wpIn_cond_split e (fun h'=>Q8l x hr.1 σ Φ (h.1 h') E ι a w hc) (fun h'=>Q8l y hr.2 σ Φ (h.2 h') E ι a w hc)
  · exact h.elim
 |.block id c,hr,σ,Φ,h,E,ι,a,w,hc=>by
  rw[Q4o] at hr
  refine wpIn_block (wpIn_mono (Q8l c hr σ _ h E ι a w hc) fun ex a' w'=>?_)
  rintro ⟨ι',σ',hc',hΦ⟩
  cases ex with
  |exit j=>
   unfold Exit.inBlock
   simp only at hΦ ⊢
   split at hΦ
   · rename_i e;rw[if_pos e];exact⟨ι',σ',hc',hΦ⟩
   · rename_i e;rw[if_neg e];exact⟨ι',σ',hc',hΦ⟩
  |_=>exact⟨ι',σ',hc',hΦ⟩
 |.exit id,_,σ,Φ,h,E,ι,a,w,hc=>wpIn_exit ⟨ι,σ,hc,h⟩
 |.ret,_,σ,Φ,h,E,ι,a,w,hc=>wpIn_ret ⟨ι,σ,hc,h⟩
 |.loop c,hr,_,_,_,_,_,_,_,_=>by simp[Q4o] at hr
 |.rangeFunc _ _ _ _,hr,_,_,_,_,_,_,_,_=>by simp[Q4o] at hr
 |.scope _,hr,_,_,_,_,_,_,_,_=>by simp[Q4o] at hr
 |.label _,hr,_,_,_,_,_,_,_,_=>by simp[Q4o] at hr
theorem Q6h{w:World}{l:Nat}{o o':Obj}(h:w.heap[l]? = some o):(w.putObj l o').putObj l o=w:=by
 have:((w.heap.setIfInBounds l o').setIfInBounds l o)=w.heap:=by
  apply Array.ext_getElem?
  intro i
  by_cases hi:i=l
  · subst hi
    have hlt:=(Array.getElem?_eq_some_iff.1 h).1
    rw[Array.getElem?_setIfInBounds_self_of_lt (by simpa using hlt),h]
  · rw[Array.getElem?_setIfInBounds_ne (Ne.symm hi),Array.getElem?_setIfInBounds_ne (Ne.symm hi)]
 unfold World.putObj
 simp only[this]
mutual
theorem Q8r{N:List Nat}{r:Nat}:∀x:AV,AV.inN N x=true→AV.refs r x=true→r∈N
 |.any,_,h=>by simp[AV.refs] at h
 |.c _,_,h=>by simp[AV.refs] at h
 |.agg cs,hi,h=>Q4u cs (by simpa [AV.inN] using hi) (by simpa [AV.refs] using h)
 |.tup cs,hi,h=>Q4u cs (by simpa [AV.inN] using hi) (by simpa [AV.refs] using h)
 |.ptr q _,hi,h=>by simp[AV.refs] at h;subst h;simpa [AV.inN] using hi
 |.row q _ _ _,hi,h=>by simp[AV.refs] at h;subst h;simpa [AV.inN] using hi
 |.cut q _ _ _ _ _ _,hi,h=>by simp[AV.refs] at h;subst h;simpa [AV.inN] using hi
 |.ep _,_,h=>by simp[AV.refs] at h
 |.fn _ cs,hi,h=>Q4u cs (by simpa [AV.inN] using hi) (by simpa [AV.refs] using h)
 |.fnb _ cs,hi,h=>Q4u cs (by simpa [AV.inN] using hi) (by simpa [AV.refs] using h)
 |.amp _ _ cs,hi,h=>Q4u cs (by simpa [AV.inN] using hi) (by simpa [AV.refs] using h)
theorem Q4u{N:List Nat}{r:Nat}:∀l:List AV,AV.inNL N l=true→AV.refsL r l=true→r∈N
 |[],_,h=>by simp[AV.refsL] at h
 |x::l,hi,h=>by
  rw[AV.inNL,Bool.and_eq_true] at hi
  rw[AV.refsL,Bool.or_eq_true] at h
  exact h.elim (Q8r x hi.1) (Q4u l hi.2)
end
theorem Conc.begin(E:Env){H0:List (Nat×List AV)}{T:List AV}{t:Array Value}(hED:E.D=H0.map (·.1))(hS:∀r cs b,hget H0 r=some cs→(E.ι r).2.1≠0→E.S b→(E.ι r).1≠b)(hH:ConcH E.S E.ι H0 E.w)(hsz:t.size=T.length)(ht:∀i,RV E.S E.ι E.w (t.getD i undef) (T.getD i .any)) :
 Conc E E.ι ⟨T,H0⟩ {tmps:=t,defers:=[]} E.w:=by
 have hSx:∀b,E.S b→b<E.w.heap.size→Sx E E.ι H0 b∧E.w.heap[b]? = E.w.heap[b]?:=fun b hb _=>⟨⟨.inl hb,fun r cs hr hz=>hS r cs b hr hz hb⟩,rfl⟩
 have hR:∀{v:Value} {x:AV},RV E.S E.ι E.w v x→RV (Sx E E.ι H0) E.ι E.w v x:=fun hv=>hv.mono hSx fun _ _=>rfl
 refine⟨.nil,hsz,fun i=>hR (ht i),⟨fun r cs hr=>?_,hH.inj⟩,⟨rfl,rfl,rfl,Nat.le_refl _,fun _ _ _=>rfl,fun r cs hr=>⟨fun _=>rfl,fun hn=>absurd (by rw[hED];exact Q2q hr) hn⟩⟩⟩
 rcases hH.blk r cs hr with h0|⟨cur,hh,hs,hl,hc,hone1⟩
 · exact .inl h0
 · exact .inr ⟨cur,hh,hs,hl,fun j u x hu hx=>⟨hR (hc j u x hu hx).1,(hc j u x hu hx).2⟩,hone1⟩
theorem GlobOK.putObj{w:World}{S:Nat→Prop}{ι : Nat→Nat×Nat×Nat}{D:List Nat}{l:Nat}{o o':Obj}(h:GlobOK w S ι D)(hl:w.heap[l]? = some o)(hn:X2i o=false):GlobOK (w.putObj l o') S ι D:=fun g cs hg=>by
 obtain⟨h1,h2,h3,h4,h5⟩:=h g cs hg
 refine⟨h1,h2,h3,h4,fun j u hu=>?_⟩
 have hj:=h5 j u hu
 have hne:g≠l:=fun e=>by
  subst e
  unfold World.cell? at hj
  dsimp only at hj
  rw[hl] at hj
  cases o<;>simp[X2i] at hn hj
 exact(World.cell?_of_block (w:=w) (a:=⟨g,j,none⟩) (World.putObj_heap_other hne)).trans hj
theorem Conc.rebase{E:Env}{ι : Nat→Nat×Nat×Nat}{σ : St}{a:Act}{w:World}(h:Conc E ι σ a w){l:Nat}{o:Obj}(o':Obj)(hE:E.w.heap[l]? = some o)(hl:w.heap[l]? = some o)(hn:X2i o=false):Conc {E with w:=E.w.putObj l o',hG:=E.hG.putObj hE hn} ι σ a (w.putObj l o'):=by
 have hlt:=(Array.getElem?_eq_some_iff.1 hE).1
 have hlt':=(Array.getElem?_eq_some_iff.1 hl).1
 have hM:∀b,Mine {E with w:=E.w.putObj l o',hG:=E.hG.putObj hE hn} b↔Mine E b:=fun b=>by unfold Mine;rw[World.putObj_size]
 have hSx:∀ι H b,Sx {E with w:=E.w.putObj l o',hG:=E.hG.putObj hE hn} ι H b↔Sx E ι H b:=fun ι H b=>by unfold Sx;rw[hM]
 have hne:∀b o1,w.heap[b]? = some o1→X2i o1=true→(w.putObj l o').heap[b]? = w.heap[b]?:=fun b o1 hb h1=>World.putObj_heap_other fun e=>by
  subst e;rw[hb] at hl;cases hl;rw[hn] at h1;cases h1
 have hR:∀{v:Value} {x:AV},RV (Sx E ι σ.H) ι w v x→RV (Sx {E with w:=E.w.putObj l o',hG:=E.hG.putObj hE hn} ι σ.H) ι (w.putObj l o') v x:=fun hv=>hv.cmono fun b o1 hS hb h1=>⟨(hSx _ _ _).2 hS,hne b o1 hb h1⟩
 refine⟨?_,h.size,fun i=>hR (h.tmp i),⟨fun r cs hr=>?_,h.heap.inj⟩,⟨h.keep.os,h.keep.tape,h.keep.output,by simpa using h.keep.size,fun b hb hbD=>?_,fun r cs hr=>⟨(h.keep.mine r cs hr).1,fun h1 h2=>(hM _).2 ((h.keep.mine r cs hr).2 h1 h2)⟩⟩⟩
 · obtain⟨Ds,h1,h2,h3⟩:=h.defers
   refine⟨Ds,h1,h2,fun D hD=>?_⟩
   obtain⟨g1,g2,g3⟩:=h3 D hD
   exact⟨by simpa using g1,(hSx _ _ _).2 g2,(World.putObj_heap_other (by omega)).trans g3⟩
 · rcases h.heap.blk r cs hr with h0|⟨cur,hh,hs,hlen,hc,hone1⟩
   · exact .inl h0
   · exact .inr ⟨cur,(hne _ _ hh rfl).trans hh,hs,hlen,fun j u x hu hx=>⟨hR (hc j u x hu hx).1,(hc j u x hu hx).2⟩,hone1⟩
 · show(w.putObj l o').heap[b]? = (E.w.putObj l o').heap[b]?
   have hb':b<E.w.heap.size:=by simpa using hb
   by_cases hbl:b=l
   · subst hbl;rw[World.putObj_heap_same hlt,World.putObj_heap_same hlt']
   · rw[World.putObj_heap_other hbl,World.putObj_heap_other hbl];exact h.keep.block b hb' hbD
abbrev Q1v(ps:Array Tmp)(assign body:Code)(f:FuncId)(t:Array Value)(D:Nat):Loop:={state:=.ready,pending:=none,fn:=f,tmps:=t,params:=ps,assign,body,defers:=D}
def YC(P:Program)(t:Tmp)(assign body:Code)(T0:List AV)(l:Nat)(x:AV)(H0 H1:List (Nat×List AV)):Prop:=
 ∀(E:Env) (v:Value) (f:FuncId) (ts:Array Value) (D:Nat),E.D=H0.map (·.1)→(∀r cs b,hget H0 r=some cs→(E.ι r).2.1≠0→E.S b→(E.ι r).1≠b)→ConcH E.S E.ι H0 E.w→RV E.S E.ι E.w v x →
  E.w.heap[l]? = some (.loop (Q1v #[t] assign body f ts D))→ts.size=T0.length→(∀i,RV E.S E.ι E.w (ts.getD i undef) (T0.getD i .any)) →
  RoundIn Fence.wide 0 P l f (ts.setIfInBounds t v) assign body E.w fun e w'=>∃v ι',e = .returned v∧RV (Sx E ι' H1) ι' w' v (.c (.v (.bool true)))∧ConcH (Sx E ι' H1) ι' H1 w'∧Keep E ι' H1 w'
theorem Q6e{S:Nat→Prop}{ι : Nat→Nat×Nat×Nat}{w:World}{H:List (Nat×List AV)}(hH:ConcH S ι H w){l:Nat}{o:Obj}(hl:w.heap[l]? = some o)(hn:X2i o=false):∀r∈H.map (·.1),(ι r).2.1≠0→(ι r).1≠l:=fun r hr hz e=>by
 obtain⟨cs,hcs⟩:=Q1e hr
 rcases hH.blk r cs hcs with⟨h0,_⟩|⟨cur,hh,_⟩
 · exact hz h0
 · rw[e,hl] at hh;cases hh;cases hn
theorem yc_of{P:Program}{t:Tmp}{assign body:Code}{T0:List AV}{l:Nat}{x:AV}{H0 H1:List (Nat×List AV)}(hA:Q4o assign=true)(hB:Q4o body=true)
 (h:evC P assign ⟨T0.set t x,H0⟩ fun ex σ1=>ex = .normal∧evC P body σ1 fun ex σ2=>ex = .normal∧∀r cs,hget H1 r=some cs→hget σ2.H r=some cs):YC P t assign body T0 l x H0 H1:=by
 intro E v f ts D hED hS hH hv hl hsz hts
 have hlt:=(Array.getElem?_eq_some_iff.1 hl).1
 have hne:∀r∈E.D,(E.ι r).2.1≠0→(E.ι r).1≠l:=by rw[hED];exact Q6e hH hl rfl
 have hv':RV (Sx E E.ι H0) E.ι E.w v x:=hv.mono (fun b hb _=>⟨⟨.inl hb,fun r cs hr hz=>hS r cs b hr hz hb⟩,rfl⟩) fun _ _=>rfl
 have hc0:=(Conc.begin E hED hS hH hsz hts).put (some t) hv'
 refine roundIn_of_wpIn trivial ?_
 refine wpIn_mono (Q8l (ro:=some l) assign hA _ _ h E E.ι _ E.w hc0) ?_
 rintro ex a1 w1 ⟨ι1,σ1,hc1,rfl,h2⟩
 have hl1:w1.heap[l]? = some (.loop (Q1v #[t] assign body f ts D)):=(hc1.keep.block l hlt hne).trans hl
 refine⟨_,run_beginRound hl1 rfl,?_⟩
 have hc2:=hc1.rebase (.loop {Q1v #[t] assign body f ts D with state:=.busy}) hl hl1 rfl
 refine wpIn_mono (Q8l (ro:=some l) body hB _ _ h2 _ ι1 _ _ hc2) ?_
 rintro ex a2 w3 ⟨ι2,σ2,hc3,rfl,h3⟩
 have hlb:(E.w.putObj l (.loop {Q1v #[t] assign body f ts D with state:=.busy})).heap[l]? = some (.loop {Q1v #[t] assign body f ts D with state:=.busy}):=World.putObj_heap_same hlt
 have hl3:w3.heap[l]? = some (.loop {Q1v #[t] assign body f ts D with state:=.busy}):=(hc3.keep.block l (by simpa using hlt) hne).trans hlb
 refine⟨_,_,run_endRound none hl3,?_⟩
 have hc4:=hc3.rebase (.loop (Q1v #[t] assign body f ts D)) hlb hl3 rfl
 have key:∀(w':World) (hG':GlobOK w' E.S E.ι E.D),w'=E.w→Conc {E with w:=w',hG:=hG'} ι2 σ2 a2 (w3.putObj l (.loop (Q1v #[t] assign body f ts D)))→Conc E ι2 σ2 a2 (w3.putObj l (.loop (Q1v #[t] assign body f ts D))):=by
  rintro _ _ rfl h;exact h
 have hc5:Conc E ι2 σ2 a2 (w3.putObj l (.loop (Q1v #[t] assign body f ts D))):=key _ _ (Q6h hl) hc4
 have hc6:=hc5.leH h3
 exact⟨_,ι2,rfl,.c _ _ (.v _ rfl),hc6.heap,hc6.keep⟩
structure LoopAt (t:Tmp) (assign body:Code) (T0:List AV) (DD:List Nat) (l:Nat) (E:Env):Prop where
 rc:∃f ts D,E.w.heap[l]? = some (.loop (Q1v #[t] assign body f ts D))∧ts.size=T0.length∧∀i,RV E.S E.ι E.w (ts.getD i undef) (T0.getD i .any)
 free:∀r∈E.D,(E.ι r).2.1≠0→(E.ι r).1≠l
 dis:∀r∈E.D,(E.ι r).2.1≠0→∀b,E.S b→(E.ι r).1≠b
 names:E.D=DD
def OpE(p:Env→Prop)(P:Program)(o:Oper)(σ : St)(K:St→Prop):Prop:=
 ∀(E:Env) (ι : Nat→Nat×Nat×Nat) (a:Act) (w:World),p E→Conc E ι σ a w→∀(K':Act→World→Prop) (Q:Exit→Act→World→Prop),(∀ι' σ' a' w',K σ'→Conc E ι' σ' a' w'→K' a' w')→o.wpIn Fence.wide 0 P a w K' Q
theorem Q5o{P:Program}{o:Oper}{σ : St}{K:St→Prop}{t:Tmp}{assign body:Code}{T0:List AV}{DD:List Nat}{l:Nat}{x:AV}{H0 H1:List (Nat×List AV)}(hY:YC P t assign body T0 l x H0 H1)(ρ : Nat→Nat)
 {fo ao:Operand} {ts:Array TypeId} (ho:o.op = .call {callee:=.value fo,args:=#[ao],argTypes:=ts}) (hfo:Q0k fo=true) (hao:Q0k ao=true) (hf:σ.ev fo = .c (.v (.func (.yield l) #[] #[]))) (hx:Q1x ρ x (σ.ev ao))
 (hD0:H0.all (fun x=>decide (1000≤x.1))=true) (hH0:∀r∈H0.map (·.1),hget σ.H (ρ r)=(hget H0 r).map (AV.renL ρ)) (hinj:∀r∈H0.map (·.1)++H1.map (·.1),∀q∈H0.map (·.1)++H1.map (·.1),ρ r = ρ q→r=q)
 (hnew:Q1r σ ρ H0 H1) (hinH:inH (H1.map (·.1)) H1=true) (NT:List Nat) (hT0:AV.inNL NT T0=true) (hNT:∀r∈NT,r∈DD∧ρ r=r∧(hget σ.H r).isSome=true)
 (hK:K ((St.mk σ.T (Q0u (Q1m σ.H (renH ρ H0)) (renH ρ H1))).put o.dst (.c (.v (.bool true))))):OpE (LoopAt t assign body T0 DD l) P o σ K:=by
 intro E ι a w hp hc K' Q hK'
 obtain⟨⟨f,tt,D,hl,hsz,htt⟩,hfree,hdis,hnames⟩:=hp
 have hlt:=(Array.getElem?_eq_some_iff.1 hl).1
 have hlw:w.heap[l]? = some (.loop (Q1v #[t] assign body f tt D)):=(hc.keep.block l hlt hfree).trans hl
 have hfv:=hc.ev fo hfo
 rw[hf] at hfv
 obtain⟨hfe,_⟩:=hfv.v_inv
 have hav:=hc.ev ao hao
 have hD0':∀r∈H0.map (·.1),1000≤r:=fun r hr=>by
  obtain⟨y,hy,rfl⟩:=List.mem_map.1 hr
  have:=List.all_eq_true.1 hD0 y hy
  simpa using this
 have hH0':∀r cs,hget H0 r=some cs→hget σ.H (ρ r)=some (AV.renL ρ cs):=fun r cs hr=>by rw[hH0 r (Q2q hr),hr];rfl
 obtain⟨E',hE'⟩:∃E':Env,E'={w:=w,S:=Sx E ι σ.H,ι:=fun r=>ι (ρ r),D:=H0.map (·.1),hD:=hD0',hG:=hc.glob hH0'}:=⟨_,rfl⟩
 have hconcH:ConcH E'.S E'.ι H0 E'.w:=by
  subst hE'
  exact hc.enter ρ hH0' fun r hr q hq=>hinj r (List.mem_append_left _ hr) q (List.mem_append_left _ hq)
 have hSE:∀b,E.S b→b<E.w.heap.size→Sx E ι σ.H b∧w.heap[b]? = E.w.heap[b]?:=fun b hb hlt=>by
  refine⟨⟨.inl hb,fun r cs hr hz=>?_⟩,hc.keep.block b hlt fun r hr hz=>hdis r hr hz b hb⟩
  obtain⟨m1,m2⟩:=hc.keep.mine r cs hr
  by_cases hm:r∈E.D
  · rw[m1 hm] at hz ⊢;exact hdis r hm hz b hb
  · rcases m2 hm hz with h1|⟨q,hq,hqz,h1⟩
    · omega
    · rw[←h1];exact hdis q hq hqz b hb
 have hround:=hY E' (a.eval ao) f tt D (by rw[hE']) (fun r cs b hr hz hS=>by
  subst hE'
  exact hS.2 (ρ r) _ (hH0' r cs hr) hz) hconcH (by
   subst hE'
   rcases hx with rfl|e
   · exact .any _
   · exact hav.unren x e) (by rw[hE'];exact hlw) hsz (fun i=>by
     subst hE'
     refine(htt i).mono hSE fun r hr=>?_
     have hin:AV.inN NT (T0.getD i .any)=true:=X2m hT0 i
     obtain⟨g1,g2,g3⟩:=hNT r (Q8r _ hin hr)
     obtain⟨cs,hcs⟩:=Option.isSome_iff_exists.1 g3
     show ι (ρ r)=E.ι r
     rw[g2]
     exact(hc.keep.mine r cs hcs).1 (by rw[hnames];exact g1))
 have hwE:E'.w=w:=by rw[hE']
 rw[hwE] at hround
 have hrun:(execOp a.eval o).run P w = .ok (.round l f (tt.setIfInBounds t (a.eval ao)) assign body) w:=by
  have hy:=run_yield (P:=P) (args:=#[a.eval ao]) hlw rfl
  simp only[execOp,ho,resolve,hfe,Deferred.ofValue,List.map_toArray,List.map_cons,List.map_nil,Sem.run_bind,Sem.run_pure,Result.andThen_ok,invoke,callFunc,Array.empty_append,List.append_toArray,List.nil_append,List.append_nil]
  simpa using hy
 refine⟨fun _ _=>trivial,?_⟩
 rw[Oper.semAt_eq _ _ _ (fun c e=>by rw[ho] at e;cases e),hrun,Oper.uponIn_round]
 refine⟨fun e=>(by cases e),RoundIn.mono hround fun e w'=>?_⟩
 rintro ⟨v,ι',rfl,hres,hcH,hk⟩
 simp only
 obtain⟨ι2,hcn,hrv⟩:=hc.back ρ hD0' hH0' hinj hnew rfl hinH hE' hres hcH hk
 exact hK' ι2 _ _ _ hK (hcn.put o.dst hrv)
section
variable {p:Env→Prop} {P:Program} {σ : St} {Φ : Exit→St→Prop}
theorem AWE.of{c:Code}(h:evC P c σ Φ):AWE p P c σ Φ:=fun E ι a w _ hc=>Q2u c σ Φ h E ι a w hc
theorem AWE.mono{c:Code}{J:Exit→St→Prop}(h:AWE p P c σ Φ)(hΦ : ∀ex σ,Φ ex σ→J ex σ):AWE p P c σ J:=
 fun E ι a w hp hc=>wp_mono (h E ι a w hp hc) fun ex a' w' ⟨ι',σ',hc',h'⟩=>⟨ι',σ',hc',hΦ _ _ h'⟩
theorem AWE.to{c:Code}{τ : St}(ht:σ.to τ)(h:AWE p P c τ Φ):AWE p P c σ Φ:=fun E ι a w hp hc=>by
 obtain⟨ι',hc'⟩:=ht E ι a w hc
 exact h E ι' a w hp hc'
theorem AWE.seq{x y:Code}(h:AWE p P x σ fun ex σ'=>match ex with | .normal=>AWE p P y σ' Φ | ex=>Φ ex σ'):AWE p P (.seq x y) σ Φ:=fun E ι a w hp hc=>by
 refine wp_seq (wp_mono (h E ι a w hp hc) fun ex a' w'=>?_)
 rintro ⟨ι',σ',hc',hΦ⟩
 cases ex with
 |normal=>exact hΦ E ι' a' w' hp hc'
 |_=>exact⟨ι',σ',hc',hΦ⟩
theorem AWE.cond{c:Operand}{x y:Code}{t:Bool}(h0:Q0k c=true)(ht:σ.ev c = .c (.v (.bool t)))(h1:t=true→AWE p P x σ Φ)(h2:t=false→AWE p P y σ Φ):AWE p P (.cond c x y) σ Φ:=fun E ι a w hp hc=>by
 have hv:=hc.ev c h0
 rw[ht] at hv
 obtain⟨e,_⟩:=hv.v_inv
 exact wp_cond_split e (fun h'=>h1 h' E ι a w hp hc) (fun h'=>h2 h' E ι a w hp hc)
theorem AWE.block{id:Nat}{c:Code}(h:AWE p P c σ fun ex σ'=>match ex with | .exit j=>if j=id then Φ .normal σ' else Φ (.exit j) σ'|ex=>Φ ex σ'):AWE p P (.block id c) σ Φ:=fun E ι a w hp hc=>by
 refine wp_block (wp_mono (h E ι a w hp hc) fun ex a' w'=>?_)
 rintro ⟨ι',σ',hc',hΦ⟩
 cases ex with
 |exit j=>
  unfold Exit.inBlock
  simp only at hΦ ⊢
  split at hΦ
  · rename_i e;rw[if_pos e];exact⟨ι',σ',hc',hΦ⟩
  · rename_i e;rw[if_neg e];exact⟨ι',σ',hc',hΦ⟩
 |_=>exact⟨ι',σ',hc',hΦ⟩
theorem AWE.loop{c:Code}{α : Type}(I:α→St)(μ : α→Nat)(x0:α)(h0:σ.to (I x0))
 (round:∀x,AWE p P c (I x) fun ex σ'=>match ex with | .normal=>∃y,μ y < μ x∧σ'.to (I y)|ex=>Φ ex σ'):AWE p P (.loop c) σ Φ:=by
 intro E ι a w hp hc b k cs
 have key:∀n x ι a w,μ x=n→Conc E ι (I x) a w→∃e a' w',(∃ι' σ',Conc E ι' σ' a' w'∧Φ e σ')∧Arrives P (lone (b.at a (.code c :: .inLoop c::k)) cs w) b k cs e a' w':=by
  intro n
  induction n using Nat.strongRecOn with
  |_ n ih=>
   intro x ι a w hn hI
   obtain⟨e,a₁,w₁,⟨ι₁,σ₁,hc₁,hq⟩,harr⟩:=round x E ι a w hp hI b (.inLoop c::k) cs
   cases e with
   |normal=>
    obtain⟨y,hlt,hle⟩:=hq
    obtain⟨ι2,hc2⟩:=hle E ι₁ a₁ w₁ hc₁
    obtain⟨e₂,a₂,w₂,hq₂,harr₂⟩:=ih (μ y) (hn▸hlt) y ι2 a₁ w₁ rfl hc2
    exact⟨e₂,a₂,w₂,hq₂,.of_steps (Steps.trans harr (.one step_inLoop)) harr₂⟩
   |exit id=>exact⟨_,a₁,w₁,⟨ι₁,σ₁,hc₁,hq⟩,.pass (x:=.inLoop c) rfl (fun _ _=>.inl (by simp)) harr⟩
   |goto l=>exact⟨_,a₁,w₁,⟨ι₁,σ₁,hc₁,hq⟩,.pass (x:=.inLoop c) rfl (fun _ _=>.inl (by simp)) harr⟩
   |ret=>exact⟨_,a₁,w₁,⟨ι₁,σ₁,hc₁,hq⟩,.pass (x:=.inLoop c) rfl (fun _ _=>.inl (by simp)) harr⟩
   |panic ch=>exact⟨_,a₁,w₁,⟨ι₁,σ₁,hc₁,hq⟩,.pass (x:=.inLoop c) rfl (fun _ _=>.inl (by simp)) harr⟩
   |outgrown=>exact⟨_,a₁,w₁,⟨ι₁,σ₁,hc₁,hq⟩,.pass (x:=.inLoop c) rfl (fun _ _=>.inl (by simp)) harr⟩
 obtain⟨ι0,hc0⟩:=h0 E ι a w hc
 obtain⟨e,a',w',hq,harr⟩:=key _ x0 ι0 a w rfl hc0
 exact⟨e,a',w',hq,.of_steps (.one step_loop) harr⟩
theorem AWE.region{id:Nat}{ops:Array Oper}(l1:List Oper)(o:Oper)(l2:List Oper)(hops:ops.toList=l1++o::l2)(n1:l1.all opNd=true)(n2:l2.all opNd=true)
 (h:evL P ops l1 σ fun σ1=>(o.guard=none∨∃j want d,o.guard=some (j,want)∧(ops[j]?).bind (·.dst)=some d∧σ1.T.getD d .any = .c (.v (.bool want)))∧OpE p P o σ1 fun σ2=>evL P ops l2 σ2 (Φ .normal)):AWE p P (.region id ops false) σ Φ:=by
 intro E ι a w hp hc
 refine(wpIn_wide (n:=0)).1 (wpIn_region_list ?_)
 rw[hops]
 refine X2u (ro:=none) l1 n1 σ h E ι a w hc fun ι1 σ1 a1 w1=>?_
 rintro ⟨hg,hop⟩ hc1
 refine wpListIn_step fun K hK=>?_
 have hw:Region.wanted o (yielded ops a1.tmps)=true:=by
  rcases hg with hg|⟨j,want,d,hg,hd,hb⟩
  · simp only[Region.wanted,hg]
  · have hv:=hc1.tmp d
    rw[hb] at hv
    obtain⟨e,_⟩:=hv.v_inv
    have hlt:d<a1.tmps.size:=by
     rw[hc1.size]
     rcases Nat.lt_or_ge d σ1.T.length with h|h
     · exact h
     · rw[List.getD_eq_getElem?_getD,List.getElem?_eq_none h] at hb;cases hb
    have hy:yielded ops a1.tmps j=some want:=by
     unfold yielded
     rw[hd]
     simp only[Option.bind_some]
     have:a1.tmps[d]? = some (.bool want):=by
      rw[Array.getElem?_eq_getElem hlt]
      simp only[Array.getD,hlt,dif_pos] at e
      simpa using e
     rw[this]
    unfold Region.wanted
    rw[hg]
    simp only[hy,beq_self_eq_true]
 rw[hw,if_pos rfl]
 refine hop E ι1 a1 w1 hp hc1 K _ fun ι2 σ2 a2 w2 hk hc2=>hK _ _ ?_
 have:=X2u (ro:=none) (Q:=fun ex a' w'=>∃ι' σ',Conc E ι' σ' a' w'∧Φ ex σ') (more:=[]) l2 n2 σ2 hk E ι2 a2 w2 hc2 fun ι' σ' a' w' hk hc'=>wpListIn_nil ⟨ι',σ',hc',hk⟩
 rwa [List.append_nil] at this
end
theorem AWE.region_at{p:Env→Prop}{P:Program}{σ : St}{Φ : Exit→St→Prop}{id:Nat}{ops:Array Oper}(k:Nat){o:Oper}(hk:ops.toList[k]? = some o)(n0:ops.toList.all (fun x=>opNd x)=true)
 (h:∀R:St→Prop,(∀σ1,((o.guard=none∨∃j want d,o.guard=some (j,want)∧(ops[j]?).bind (·.dst)=some d∧σ1.T.getD d .any = .c (.v (.bool want)))∧OpE p P o σ1 fun σ2=>∀R2:St→Prop,(∀σ',Φ .normal σ'→R2 σ')→evL P ops (ops.toList.drop (k+1)) σ2 R2)→R σ1)→evL P ops (ops.toList.take k) σ R):AWE p P (.region id ops false) σ Φ:=by
 obtain⟨hlt,rfl⟩:=List.getElem?_eq_some_iff.1 hk
 have n0':=List.all_eq_true.1 n0
 refine AWE.region (ops.toList.take k) ops.toList[k] (ops.toList.drop (k+1)) (by rw[←List.drop_eq_getElem_cons hlt,List.take_append_drop]) (List.all_eq_true.2 fun x hx=>n0' x (List.mem_of_mem_take hx)) (List.all_eq_true.2 fun x hx=>n0' x (List.mem_of_mem_drop hx)) ?_
 refine h _ fun σ1 ⟨h1,h2⟩=>⟨h1,fun E ι a w hp hc K' Q hK'=>h2 E ι a w hp hc K' Q fun ι' σ' a' w' hk hc'=>hK' ι' σ' a' w' (hk _ fun _ h=>h) hc'⟩
abbrev yv(l:Nat):AV:=.c (.v (.func (.yield l) #[] #[]))
theorem AW.range{P:Program}{σ : St}{Φ : Exit→St→Prop}{g:Operand}{t:Tmp}{assign body:Code}{gf:FuncId}{fn:Func}{caps:List AV}{cargs:List AV}{H0 H1:List (Nat×List AV)}{res:AV}{T0:List AV}(ρ : Nat→Nat)
 (hF:∀l,FnW (LoopAt t assign body T0 (H0.map (·.1)) l) P gf (yv l::cargs) H0 res H1) (hg0:Q0k g=true) (hg:σ.ev g = .fn gf caps) (hfn:P.funcs[gf]? = some fn) (hname:(fn.name == "runtime.NumGoroutine")=false) (hbody:fn.body.isNone=false)
 (hD0:H0.all (fun x=>decide (1000≤x.1))=true) (hargs:Q1d ρ cargs caps) (hT0:Q1d ρ T0 σ.T) (hH0:∀r∈H0.map (·.1),hget σ.H (ρ r)=(hget H0 r).map (AV.renL ρ)) (hinj:∀r∈H0.map (·.1)++H1.map (·.1),∀q∈H0.map (·.1)++H1.map (·.1),ρ r = ρ q→r=q)
 (hnew:Q1r σ ρ H0 H1) (hin:AV.inN (H1.map (·.1)) res=true) (hinH:inH (H1.map (·.1)) H1=true)
 (hK:Φ .normal ⟨σ.T,Q0u (Q1m σ.H (renH ρ H0)) (renH ρ H1)⟩):AW P (.rangeFunc g #[t] assign body) σ Φ:=by
 intro E ι a w hc
 have hfv:=hc.ev g hg0
 rw[hg] at hfv
 generalize hge:a.eval g=fv at hfv
 cases hfv with
 |fn _ us _ hul hus=>
  refine(wpIn_wide (n:=0)).1 (wpIn_rangeFunc fun f _=>?_)
  obtain⟨w1,hw1⟩:∃w1,(w.alloc (.deferred (some []))).alloc (.loop (Q1v #[t] assign body f a.tmps w.heap.size))=w1:=⟨_,rfl⟩
  have hc1:Conc E ι σ a w1:=hw1▸(hc.alloc _).alloc _
  have hL:w1.heap[w.heap.size+1]? = some (.loop (Q1v #[t] assign body f a.tmps w.heap.size)):=by
   rw[←hw1]
   have:=World.alloc_heap_new (w.alloc (.deferred (some []))) (.loop (Q1v #[t] assign body f a.tmps w.heap.size))
   rwa [World.size_alloc] at this
  have hB:w1.heap[w.heap.size]? = some (.deferred (some [])):=by
   rw[←hw1,Below.heap_alloc _ _ _ (by rw[World.size_alloc];omega)]
   exact World.alloc_heap_new _ _
  have hD0':∀r∈H0.map (·.1),1000≤r:=fun r hr=>by
   obtain⟨y,hy,rfl⟩:=List.mem_map.1 hr
   have:=List.all_eq_true.1 hD0 y hy
   simpa using this
  have hH0':∀r cs,hget H0 r=some cs→hget σ.H (ρ r)=some (AV.renL ρ cs):=fun r cs hr=>by rw[hH0 r (Q2q hr),hr];rfl
  obtain⟨E',hE'⟩:∃E':Env,E'={w:=w1,S:=Sx E ι σ.H,ι:=fun r=>ι (ρ r),D:=H0.map (·.1),hD:=hD0',hG:=hc1.glob hH0'}:=⟨_,rfl⟩
  have hwE:E'.w=w1:=by rw[hE']
  have hED:E'.D=H0.map (·.1):=by rw[hE']
  have hconcH:ConcH E'.S E'.ι H0 E'.w:=by
   subst hE'
   exact hc1.enter ρ hH0' fun r hr q hq=>hinj r (List.mem_append_left _ hr) q (List.mem_append_left _ hq)
  have hdis:∀r cs b,hget H0 r=some cs→(E'.ι r).2.1≠0→E'.S b→(E'.ι r).1≠b:=fun r cs b hr hz hS=>by
   subst hE'
   exact hS.2 (ρ r) _ (hH0' r cs hr) hz
  have hneL:∀r∈E'.D,(E'.ι r).2.1≠0→(E'.ι r).1≠w.heap.size+1:=by
   rw[hED];exact Q6e hconcH (by rw[hwE];exact hL) rfl
  have hneB:∀r∈E'.D,(E'.ι r).2.1≠0→(E'.ι r).1≠w.heap.size:=by
   rw[hED];exact Q6e hconcH (by rw[hwE];exact hB) rfl
  obtain⟨hTl,hTg⟩:=Q3e hT0
  obtain⟨hal,hag⟩:=Q3e hargs
  have hat:LoopAt t assign body T0 (H0.map (·.1)) (w.heap.size+1) E':=by
   refine⟨⟨f,a.tmps,w.heap.size,by rw[hwE];exact hL,hc1.size.trans hTl.symm,fun i=>?_⟩,hneL,fun r hr hz b hb=>?_,hED⟩
   · subst hE'
     have hv:=hc1.tmp i
     rw[List.getD_eq_getElem?_getD] at hv ⊢
     cases hi:T0[i]? with
     |none=>exact .any _
     |some x=>
      have hlt:=(List.getElem?_eq_some_iff.1 hi).1
      rw[List.getElem?_eq_getElem (by omega)] at hv
      rcases hTg i x _ hi (List.getElem?_eq_getElem (by omega)) with rfl|e
      · exact .any _
      · exact hv.unren x e
   · obtain⟨cs,hcs⟩:=Q1e (hED▸hr)
     exact hdis r cs b hcs hz hb
  have hcall:=hF (w.heap.size+1) E' (.func (.yield (w.heap.size+1)) #[] #[]::us) hat hED hdis hconcH (by simp[hul,hal]) (fun j v x hv hx=>by
   cases j with
   |zero=>cases hv;cases hx;exact .c _ _ (.v _ rfl)
   |succ j=>
    simp only[List.getElem?_cons_succ] at hv hx
    have hlt:=(List.getElem?_eq_some_iff.1 hx).1
    subst hE'
    rcases hag j x _ hx (List.getElem?_eq_getElem (by omega)) with rfl|e
    · exact .any _
    · have:=hus j v _ hv (List.getElem?_eq_getElem (by omega))
      exact(this.mono (S':=Sx E ι σ.H) (w':=w1) (fun b hb hlt=>⟨hb,by rw[←hw1,Below.heap_alloc _ _ _ (by rw[World.size_alloc];omega),Below.heap_alloc _ _ _ hlt]⟩) fun _ _=>rfl).unren x e)
  rw[hwE] at hcall
  refine⟨w.heap.size+1,[{target:=.collected w.heap.size,args:=#[]}],w1,{target:=.fn (.func gf) us.toArray,args:=#[.func (.yield (w.heap.size+1)) #[] #[]]},w1,gf,(.func (.yield (w.heap.size+1)) #[] #[]::us:List Value).toArray,w1,?_,?_,fun _ _=>trivial,?_,fun e=>(by cases e),(callsIn_wide (n:=0-1)).2 (hcall.mono fun e w'=>?_)⟩
  · rw[←hw1];exact run_enterLoop_outer f a.tmps #[t] assign body
  · simp only[resolve,hge,Deferred.ofValue,List.map_toArray,List.map_cons,List.map_nil,Sem.run_bind,Sem.run_pure,Result.andThen_ok,Array.empty_append]
    rfl
  · have hen:=Q4t hfn hname hbody (.func (.yield (w.heap.size+1)) #[] #[]::us:List Value).toArray w1
    simpa only[invoke,List.append_toArray,List.cons_append,List.nil_append] using hen
  · rintro ⟨v,ι',rfl,hres,hcH,hk⟩
    obtain⟨ι2,hcn,-⟩:=hc1.back ρ hD0' hH0' hinj hnew hin hinH hE' hres hcH hk
    have hlt1:w.heap.size+1<w1.heap.size:=(Array.getElem?_eq_some_iff.1 hL).1
    have hL':w'.heap[w.heap.size+1]? = some (.loop (Q1v #[t] assign body f a.tmps w.heap.size)):=by
     rw[hk.block _ (by rw[hwE];exact hlt1) hneL,hwE];exact hL
    have hB':w'.heap[w.heap.size]? = some (.deferred (some [])):=by
     rw[hk.block _ (by rw[hwE];omega) hneB,hwE];exact hB
    refine⟨none,_,run_endLoop hL' (by simp),?_⟩
    have hE0:=hc.keep.size
    have hMk:Marks E (Sx E ι2 (Q0u (Q1m σ.H (renH ρ H0)) (renH ρ H1))) (w'.putObj (w.heap.size+1) (.loop {Q1v #[t] assign body f a.tmps w.heap.size with state:=.exhausted})) ({target:=.collected w.heap.size,args:=#[]}::a.defers):=by
     obtain⟨Ds,g1,g2,g3⟩:=hcn.defers
     obtain⟨Ds0,k1,k2,k3⟩:=hc.defers
     have hinjm:Ds=Ds0:=by
      have:=g2.symm.trans k2
      exact(List.map_inj_right (fun x y e=>by simpa using e)).1 this
     subst hinjm
     refine⟨w.heap.size::Ds,List.nodup_cons.2 ⟨fun hm=>?_,g1⟩,by rw[List.map_cons,←g2],fun D hD=>?_⟩
     · have:=(Array.getElem?_eq_some_iff.1 (k3 _ hm).2.2).1;omega
     · rcases List.mem_cons.1 hD with rfl|hD
       · refine⟨hE0,⟨.inr (.inl hE0),fun r cs hr hz e=>?_⟩,(World.putObj_heap_other (by omega)).trans hB'⟩
         rcases hcn.heap.blk r cs hr with⟨h0,_⟩|⟨cur,hh,_⟩
         · exact hz h0
         · rw[e,hB'] at hh;cases hh
       · obtain⟨m1,m2,m3⟩:=g3 D hD
         have:=(Array.getElem?_eq_some_iff.1 (k3 D hD).2.2).1
         exact⟨m1,m2,(World.putObj_heap_other (by omega)).trans m3⟩
    exact⟨ι2,_,hcn.turn _ hL' rfl (by omega) hMk,hK⟩
theorem St.to.nilcell{σ : St}(r d e sz j:Nat){cs:List AV}(hr:hget σ.H r=some cs)(h1:cs[j]? = some (.c (.v (.slice none 0 0))))(hf:σ.free d=true)(hrd:d≠r)(hd:d<1000):σ.to ⟨σ.T,hput (hput σ.H d []) r (cs.set j (.row d e sz 0))⟩:=fun E ι a w hc=>by
 have hg:Conc E (upd ι d (0,0,e)) ⟨σ.T,hput σ.H d []⟩ a w:=hc.grow (w':=w) hf hd (World.grownBy.refl w none) none (fun b hb=>by cases hb) (0,0,e) (cs:=[]) (fun h=>absurd rfl h) rfl (.inl ⟨rfl,rfl⟩)
 refine⟨upd ι d (0,0,e),?_⟩
 have hget':∀q ds,hget (hput (hput σ.H d []) r (cs.set j (.row d e sz 0))) q=some ds→(q=r∧ds=cs.set j (.row d e sz 0))∨(q≠r∧hget (hput σ.H d []) q=some ds):=fun q ds hq=>by
  rw[Q2j] at hq
  split at hq
  · rename_i e;cases hq;exact .inl ⟨e,rfl⟩
  · rename_i e;exact .inr ⟨e,hq⟩
 have hr':hget (hput σ.H d []) r=some cs:=by rw[Q2j,if_neg (Ne.symm hrd)];exact hr
 have hold:∀q ds,hget (hput (hput σ.H d []) r (cs.set j (.row d e sz 0))) q=some ds→∃es,hget (hput σ.H d []) q=some es:=fun q ds hq=>by
  rcases hget' q ds hq with⟨rfl,_⟩|⟨_,h⟩
  · exact⟨_,hr'⟩
  · exact⟨_,h⟩
 have hSx:∀b,Sx E (upd ι d (0,0,e)) (hput σ.H d []) b→Sx E (upd ι d (0,0,e)) (hput (hput σ.H d []) r (cs.set j (.row d e sz 0))) b:=fun b ⟨g1,g2⟩=>⟨g1,fun q ds hq hz=>by
  obtain⟨es,hes⟩:=hold q ds hq
  exact g2 q es hes hz⟩
 have hR:∀{v:Value} {x:AV},RV (Sx E (upd ι d (0,0,e)) (hput σ.H d [])) (upd ι d (0,0,e)) w v x→RV (Sx E (upd ι d (0,0,e)) (hput (hput σ.H d []) r (cs.set j (.row d e sz 0)))) (upd ι d (0,0,e)) w v x:=fun hv=>hv.mono (fun b hb _=>⟨hSx b hb,rfl⟩) fun _ _=>rfl
 refine⟨hg.defers.mono fun b hb _=>⟨hSx b hb,rfl⟩,hg.size,fun i=>hR (hg.tmp i),⟨fun q ds hq=>?_,fun q q' ds es hq hq'=>?_⟩,⟨hg.keep.os,hg.keep.tape,hg.keep.output,hg.keep.size,hg.keep.block,fun q ds hq=>?_⟩⟩
 · rcases hget' q ds hq with⟨rfl,rfl⟩|⟨_,h⟩
   · rcases hg.heap.blk q cs hr' with⟨_,rfl⟩|⟨cur,hh,hs,hlen,hcur,hone1⟩
     · simp at h1
     · refine .inr ⟨cur,hh,hs,by rw[List.length_set];exact hlen,fun i u x hu hx=>?_,hone1⟩
       rw[List.getElem?_set] at hx
       split at hx
       · rename_i hji
         subst hji
         have hcv:=hcur j u _ hu h1
         obtain⟨rfl,_⟩:=hcv.1.v_inv
         split at hx
         · cases hx;exact⟨.rnil none d e sz (by rw[Q1k]),rfl⟩
         · cases hx
       · exact⟨hR (hcur i u x hu hx).1,(hcur i u x hu hx).2⟩
   · rcases hg.heap.blk q ds h with h0|⟨cur,hh,hs,hlen,hcur,hone1⟩
     · exact .inl h0
     · exact .inr ⟨cur,hh,hs,hlen,fun i u x hu hx=>⟨hR (hcur i u x hu hx).1,(hcur i u x hu hx).2⟩,hone1⟩
 · obtain⟨ds',h1'⟩:=hold q ds hq
   obtain⟨es',h2'⟩:=hold q' es hq'
   exact hg.heap.inj q q' ds' es' h1' h2'
 · obtain⟨ds',h1'⟩:=hold q ds hq
   exact hg.keep.mine q ds' h1'
end
section
open Go.RowKit Go.Lib
def YC2(P:Program)(t u:Tmp)(assign body:Code)(T0:List AV)(l:Nat)(x y:AV)(H0 H1:List (Nat×List AV)):Prop:=
 ∀(E:Env) (v v2:Value) (f:FuncId) (ts:Array Value) (D:Nat),E.D=H0.map (·.1)→(∀r cs b,hget H0 r=some cs→(E.ι r).2.1≠0→E.S b→(E.ι r).1≠b)→ConcH E.S E.ι H0 E.w→RV E.S E.ι E.w v x→RV E.S E.ι E.w v2 y →
  E.w.heap[l]? = some (.loop (Q1v #[t,u] assign body f ts D))→ts.size=T0.length→(∀i,RV E.S E.ι E.w (ts.getD i undef) (T0.getD i .any)) →
  RoundIn Fence.wide 0 P l f ((ts.setIfInBounds t v).setIfInBounds u v2) assign body E.w fun e w'=>∃v ι',e = .returned v∧RV (Sx E ι' H1) ι' w' v (.c (.v (.bool true)))∧ConcH (Sx E ι' H1) ι' H1 w'∧Keep E ι' H1 w'
theorem Q5y{P:Program}{ro:Option Nat}{ops:Array Oper}{Q:Exit→Act→World→Prop}(hnd:ops.toList.all opNd=true):∀(fuel:Nat) (listed:Array Bool) (a:Act) (w:World),Q6l P ops Q fuel listed a w→wpAnyIn (Fr ro) 0 P .any ops Q fuel listed a w
 |0,_,_,_,h=>h
 |fuel+1,listed,a,w,h=>⟨h.1,fun i hi=>by
  have h2:=h.2 i hi
  unfold X8y at h2
  unfold wpOpIn
  split
  · rename_i e;simp only[e] at h2;exact Q5y hnd fuel _ _ _ h2
  · rename_i o e
    simp only[e] at h2
    have ho:opNd o=true:=List.all_eq_true.1 hnd o (by rw[←Array.getElem?_toList] at e;exact List.mem_of_getElem? e)
    split at h2
    · rename_i hw
      rw[if_pos hw]
      exact Q7m ho (Oper.wp_mono (fun a w h=>Q5y hnd fuel _ a w h) h2)
    · rename_i hw
      rw[if_neg hw]
      exact⟨fun _ _=>trivial,Q5y hnd fuel _ _ _ h2⟩⟩
def AWR(ro:Option Nat)(P:Program)(c:Code)(σ : St)(Φ : Exit→St→Prop):Prop:=
 ∀(E:Env) (ι : Nat→Nat×Nat×Nat) (a:Act) (w:World),Conc E ι σ a w→c.wpIn (Fr ro) 0 P (fun ex a' w'=>∃ι' σ',Conc E ι' σ' a' w'∧Φ ex σ') a w
section
variable {ro:Option Nat} {P:Program} {σ : St} {Φ : Exit→St→Prop}
theorem AWR.of{c:Code}(hr:Q4o c=true)(h:evC P c σ Φ):AWR ro P c σ Φ:=fun E ι a w hc=>Q8l c hr σ Φ h E ι a w hc
theorem AWR.seq{x y:Code}(h:AWR ro P x σ fun ex σ'=>match ex with | .normal=>AWR ro P y σ' Φ | ex=>Φ ex σ'):AWR ro P (.seq x y) σ Φ:=fun E ι a w hc=>by
 refine wpIn_seq (wpIn_mono (h E ι a w hc) fun ex a' w'=>?_)
 rintro ⟨ι',σ',hc',hΦ⟩
 cases ex with
 |normal=>exact hΦ E ι' a' w' hc'
 |_=>exact⟨ι',σ',hc',hΦ⟩
theorem AWR.block{id:Nat}{c:Code}(h:AWR ro P c σ fun ex σ'=>match ex with | .exit j=>if j=id then Φ .normal σ' else Φ (.exit j) σ'|ex=>Φ ex σ'):AWR ro P (.block id c) σ Φ:=fun E ι a w hc=>by
 refine wpIn_block (wpIn_mono (h E ι a w hc) fun ex a' w'=>?_)
 rintro ⟨ι',σ',hc',hΦ⟩
 cases ex with
 |exit j=>
  unfold Exit.inBlock
  simp only at hΦ ⊢
  split at hΦ
  · rename_i e;rw[if_pos e];exact⟨ι',σ',hc',hΦ⟩
  · rename_i e;rw[if_neg e];exact⟨ι',σ',hc',hΦ⟩
 |_=>exact⟨ι',σ',hc',hΦ⟩
theorem AWR.draw{id:Nat}{l0:List Oper}(hnd:l0.all opNd=true)(hm:P.follows .mixedOrders=true)(hback:Q7l l0=true)(hnew:(Q2a l0).all (fun d=>σ.free d)=true)(h:∀R:St→Prop,(∀σ',Φ .normal σ'→R σ')→evD P l0 l0 σ [] R):AWR ro P (.region id l0.toArray true) σ Φ:=fun E ι a w hc=>by
 obtain⟨es,h1,_,h3,h4,h5⟩:=X2v (P:=P) (l0:=l0) (σ0:=σ) l0 σ [] 0 rfl rfl (Nat.zero_le _) (fun _ _=>rfl) (h _ fun _ h=>h)
 exact wpIn_region_any hm (Q5y (by simpa using hnd) _ _ _ _ (Q5m hm h1 h3 hback (fun d hd=>List.all_eq_true.1 hnew d hd) (fun i o e ho he=>h4 i o e (Nat.zero_le _) ho he) h5 E ι a w hc))
end
theorem X5t{P:Program}{t u:Tmp}{assign body:Code}{T0:List AV}{l:Nat}{x y:AV}{H0 H1:List (Nat×List AV)}(hA:Q4o assign=true)
 (h:evC P assign ⟨(T0.set t x).set u y,H0⟩ fun ex σ1=>ex = .normal∧∀ro,AWR ro P body σ1 fun ex σ2=>ex = .normal∧∀r cs,hget H1 r=some cs→hget σ2.H r=some cs):YC2 P t u assign body T0 l x y H0 H1:=by
 intro E v v2 f ts D hED hS hH hv hvy hl hsz hts
 have hlt:=(Array.getElem?_eq_some_iff.1 hl).1
 have hne:∀r∈E.D,(E.ι r).2.1≠0→(E.ι r).1≠l:=by rw[hED];exact Q6e hH hl rfl
 have hv':RV (Sx E E.ι H0) E.ι E.w v x:=hv.mono (fun b hb _=>⟨⟨.inl hb,fun r cs hr hz=>hS r cs b hr hz hb⟩,rfl⟩) fun _ _=>rfl
 have hv2':RV (Sx E E.ι H0) E.ι E.w v2 y:=hvy.mono (fun b hb _=>⟨⟨.inl hb,fun r cs hr hz=>hS r cs b hr hz hb⟩,rfl⟩) fun _ _=>rfl
 have hc0:=((Conc.begin E hED hS hH hsz hts).put (some t) hv').put (some u) hv2'
 refine roundIn_of_wpIn trivial ?_
 refine wpIn_mono (Q8l (ro:=some l) assign hA _ _ h E E.ι _ E.w hc0) ?_
 rintro ex a1 w1 ⟨ι1,σ1,hc1,rfl,h2⟩
 have hl1:w1.heap[l]? = some (.loop (Q1v #[t,u] assign body f ts D)):=(hc1.keep.block l hlt hne).trans hl
 refine⟨_,run_beginRound hl1 rfl,?_⟩
 have hc2:=hc1.rebase (.loop {Q1v #[t,u] assign body f ts D with state:=.busy}) hl hl1 rfl
 refine wpIn_mono (h2 (some l) _ ι1 _ _ hc2) ?_
 rintro ex a2 w3 ⟨ι2,σ2,hc3,rfl,h3⟩
 have hlb:(E.w.putObj l (.loop {Q1v #[t,u] assign body f ts D with state:=.busy})).heap[l]? = some (.loop {Q1v #[t,u] assign body f ts D with state:=.busy}):=World.putObj_heap_same hlt
 have hl3:w3.heap[l]? = some (.loop {Q1v #[t,u] assign body f ts D with state:=.busy}):=(hc3.keep.block l (by simpa using hlt) hne).trans hlb
 refine⟨_,_,run_endRound none hl3,?_⟩
 have hc4:=hc3.rebase (.loop (Q1v #[t,u] assign body f ts D)) hlb hl3 rfl
 have key:∀(w':World) (hG':GlobOK w' E.S E.ι E.D),w'=E.w→Conc {E with w:=w',hG:=hG'} ι2 σ2 a2 (w3.putObj l (.loop (Q1v #[t,u] assign body f ts D)))→Conc E ι2 σ2 a2 (w3.putObj l (.loop (Q1v #[t,u] assign body f ts D))):=by
  rintro _ _ rfl h;exact h
 have hc5:Conc E ι2 σ2 a2 (w3.putObj l (.loop (Q1v #[t,u] assign body f ts D))):=key _ _ (Q6h hl) hc4
 have hc6:=hc5.leH h3
 exact⟨_,ι2,rfl,.c _ _ (.v _ rfl),hc6.heap,hc6.keep⟩
structure LoopAt2 (t u:Tmp) (assign body:Code) (T0:List AV) (DD:List Nat) (l:Nat) (E:Env):Prop where
 rc:∃f ts D,E.w.heap[l]? = some (.loop (Q1v #[t,u] assign body f ts D))∧ts.size=T0.length∧∀i,RV E.S E.ι E.w (ts.getD i undef) (T0.getD i .any)
 free:∀r∈E.D,(E.ι r).2.1≠0→(E.ι r).1≠l
 dis:∀r∈E.D,(E.ι r).2.1≠0→∀b,E.S b→(E.ι r).1≠b
 names:E.D=DD
theorem X1b{P:Program}{o:Oper}{σ : St}{K:St→Prop}{t u:Tmp}{assign body:Code}{T0:List AV}{DD:List Nat}{l:Nat}{x y:AV}{H0 H1:List (Nat×List AV)}(hY:YC2 P t u assign body T0 l x y H0 H1)(ρ : Nat→Nat)
 {fo ao bo:Operand} {ts:Array TypeId} (ho:o.op = .call {callee:=.value fo,args:=#[ao,bo],argTypes:=ts}) (hfo:Q0k fo=true) (hao:Q0k ao=true) (hbo:Q0k bo=true) (hf:σ.ev fo = .c (.v (.func (.yield l) #[] #[]))) (hx:Q1x ρ x (σ.ev ao)) (hy:Q1x ρ y (σ.ev bo))
 (hD0:H0.all (fun x=>decide (1000≤x.1))=true) (hH0:∀r∈H0.map (·.1),hget σ.H (ρ r)=(hget H0 r).map (AV.renL ρ)) (hinj:∀r∈H0.map (·.1)++H1.map (·.1),∀q∈H0.map (·.1)++H1.map (·.1),ρ r = ρ q→r=q)
 (hnew:Q1r σ ρ H0 H1) (hinH:inH (H1.map (·.1)) H1=true) (NT:List Nat) (hT0:AV.inNL NT T0=true) (hNT:∀r∈NT,r∈DD∧ρ r=r∧(hget σ.H r).isSome=true)
 (hK:K ((St.mk σ.T (Q0u (Q1m σ.H (renH ρ H0)) (renH ρ H1))).put o.dst (.c (.v (.bool true))))):OpE (LoopAt2 t u assign body T0 DD l) P o σ K:=by
 intro E ι a w hp hc K' Q hK'
 obtain⟨⟨f,tt,D,hl,hsz,htt⟩,hfree,hdis,hnames⟩:=hp
 have hlt:=(Array.getElem?_eq_some_iff.1 hl).1
 have hlw:w.heap[l]? = some (.loop (Q1v #[t,u] assign body f tt D)):=(hc.keep.block l hlt hfree).trans hl
 have hfv:=hc.ev fo hfo
 rw[hf] at hfv
 obtain⟨hfe,_⟩:=hfv.v_inv
 have hav:=hc.ev ao hao
 have hbv:=hc.ev bo hbo
 have hD0':∀r∈H0.map (·.1),1000≤r:=fun r hr=>by
  obtain⟨y,hy,rfl⟩:=List.mem_map.1 hr
  have:=List.all_eq_true.1 hD0 y hy
  simpa using this
 have hH0':∀r cs,hget H0 r=some cs→hget σ.H (ρ r)=some (AV.renL ρ cs):=fun r cs hr=>by rw[hH0 r (Q2q hr),hr];rfl
 obtain⟨E',hE'⟩:∃E':Env,E'={w:=w,S:=Sx E ι σ.H,ι:=fun r=>ι (ρ r),D:=H0.map (·.1),hD:=hD0',hG:=hc.glob hH0'}:=⟨_,rfl⟩
 have hconcH:ConcH E'.S E'.ι H0 E'.w:=by
  subst hE'
  exact hc.enter ρ hH0' fun r hr q hq=>hinj r (List.mem_append_left _ hr) q (List.mem_append_left _ hq)
 have hSE:∀b,E.S b→b<E.w.heap.size→Sx E ι σ.H b∧w.heap[b]? = E.w.heap[b]?:=fun b hb hlt=>by
  refine⟨⟨.inl hb,fun r cs hr hz=>?_⟩,hc.keep.block b hlt fun r hr hz=>hdis r hr hz b hb⟩
  obtain⟨m1,m2⟩:=hc.keep.mine r cs hr
  by_cases hm:r∈E.D
  · rw[m1 hm] at hz ⊢;exact hdis r hm hz b hb
  · rcases m2 hm hz with h1|⟨q,hq,hqz,h1⟩
    · omega
    · rw[←h1];exact hdis q hq hqz b hb
 have hround:=hY E' (a.eval ao) (a.eval bo) f tt D (by rw[hE']) (fun r cs b hr hz hS=>by
  subst hE'
  exact hS.2 (ρ r) _ (hH0' r cs hr) hz) hconcH (by
   subst hE'
   rcases hx with rfl|e
   · exact .any _
   · exact hav.unren x e) (by
   subst hE'
   rcases hy with rfl|e
   · exact .any _
   · exact hbv.unren y e) (by rw[hE'];exact hlw) hsz (fun i=>by
     subst hE'
     refine(htt i).mono hSE fun r hr=>?_
     have hin:AV.inN NT (T0.getD i .any)=true:=X2m hT0 i
     obtain⟨g1,g2,g3⟩:=hNT r (Q8r _ hin hr)
     obtain⟨cs,hcs⟩:=Option.isSome_iff_exists.1 g3
     show ι (ρ r)=E.ι r
     rw[g2]
     exact(hc.keep.mine r cs hcs).1 (by rw[hnames];exact g1))
 have hwE:E'.w=w:=by rw[hE']
 rw[hwE] at hround
 have hrun:(execOp a.eval o).run P w = .ok (.round l f ((tt.setIfInBounds t (a.eval ao)).setIfInBounds u (a.eval bo)) assign body) w:=by
  have hyy:=run_yield (P:=P) (args:=#[a.eval ao,a.eval bo]) hlw rfl
  simp only[execOp,ho,resolve,hfe,Deferred.ofValue,List.map_toArray,List.map_cons,List.map_nil,Sem.run_bind,Sem.run_pure,Result.andThen_ok,invoke,callFunc,Array.empty_append,List.append_toArray,List.nil_append,List.append_nil]
  simpa using hyy
 refine⟨fun _ _=>trivial,?_⟩
 rw[Oper.semAt_eq _ _ _ (fun c e=>by rw[ho] at e;cases e),hrun,Oper.uponIn_round]
 refine⟨fun e=>(by cases e),RoundIn.mono hround fun e w'=>?_⟩
 rintro ⟨v,ι',rfl,hres,hcH,hk⟩
 simp only
 obtain⟨ι2,hcn,hrv⟩:=hc.back ρ hD0' hH0' hinj hnew rfl hinH hE' hres hcH hk
 exact hK' ι2 _ _ _ hK (hcn.put o.dst hrv)
theorem AW.range2{P:Program}{σ : St}{Φ : Exit→St→Prop}{g:Operand}{t u:Tmp}{assign body:Code}{gf:FuncId}{fn:Func}{caps:List AV}{cargs:List AV}{H0 H1:List (Nat×List AV)}{res:AV}{T0:List AV}(ρ : Nat→Nat)
 (hF:∀l,FnW (LoopAt2 t u assign body T0 (H0.map (·.1)) l) P gf (yv l::cargs) H0 res H1) (hg0:Q0k g=true) (hg:σ.ev g = .fn gf caps) (hfn:P.funcs[gf]? = some fn) (hname:(fn.name == "runtime.NumGoroutine")=false) (hbody:fn.body.isNone=false)
 (hD0:H0.all (fun x=>decide (1000≤x.1))=true) (hargs:Q1d ρ cargs caps) (hT0:Q1d ρ T0 σ.T) (hH0:∀r∈H0.map (·.1),hget σ.H (ρ r)=(hget H0 r).map (AV.renL ρ)) (hinj:∀r∈H0.map (·.1)++H1.map (·.1),∀q∈H0.map (·.1)++H1.map (·.1),ρ r = ρ q→r=q)
 (hnew:Q1r σ ρ H0 H1) (hin:AV.inN (H1.map (·.1)) res=true) (hinH:inH (H1.map (·.1)) H1=true)
 (hK:Φ .normal ⟨σ.T,Q0u (Q1m σ.H (renH ρ H0)) (renH ρ H1)⟩):AW P (.rangeFunc g #[t,u] assign body) σ Φ:=by
 intro E ι a w hc
 have hfv:=hc.ev g hg0
 rw[hg] at hfv
 generalize hge:a.eval g=fv at hfv
 cases hfv with
 |fn _ us _ hul hus=>
  refine(wpIn_wide (n:=0)).1 (wpIn_rangeFunc fun f _=>?_)
  obtain⟨w1,hw1⟩:∃w1,(w.alloc (.deferred (some []))).alloc (.loop (Q1v #[t,u] assign body f a.tmps w.heap.size))=w1:=⟨_,rfl⟩
  have hc1:Conc E ι σ a w1:=hw1▸(hc.alloc _).alloc _
  have hL:w1.heap[w.heap.size+1]? = some (.loop (Q1v #[t,u] assign body f a.tmps w.heap.size)):=by
   rw[←hw1]
   have:=World.alloc_heap_new (w.alloc (.deferred (some []))) (.loop (Q1v #[t,u] assign body f a.tmps w.heap.size))
   rwa [World.size_alloc] at this
  have hB:w1.heap[w.heap.size]? = some (.deferred (some [])):=by
   rw[←hw1,Below.heap_alloc _ _ _ (by rw[World.size_alloc];omega)]
   exact World.alloc_heap_new _ _
  have hD0':∀r∈H0.map (·.1),1000≤r:=fun r hr=>by
   obtain⟨y,hy,rfl⟩:=List.mem_map.1 hr
   have:=List.all_eq_true.1 hD0 y hy
   simpa using this
  have hH0':∀r cs,hget H0 r=some cs→hget σ.H (ρ r)=some (AV.renL ρ cs):=fun r cs hr=>by rw[hH0 r (Q2q hr),hr];rfl
  obtain⟨E',hE'⟩:∃E':Env,E'={w:=w1,S:=Sx E ι σ.H,ι:=fun r=>ι (ρ r),D:=H0.map (·.1),hD:=hD0',hG:=hc1.glob hH0'}:=⟨_,rfl⟩
  have hwE:E'.w=w1:=by rw[hE']
  have hED:E'.D=H0.map (·.1):=by rw[hE']
  have hconcH:ConcH E'.S E'.ι H0 E'.w:=by
   subst hE'
   exact hc1.enter ρ hH0' fun r hr q hq=>hinj r (List.mem_append_left _ hr) q (List.mem_append_left _ hq)
  have hdis:∀r cs b,hget H0 r=some cs→(E'.ι r).2.1≠0→E'.S b→(E'.ι r).1≠b:=fun r cs b hr hz hS=>by
   subst hE'
   exact hS.2 (ρ r) _ (hH0' r cs hr) hz
  have hneL:∀r∈E'.D,(E'.ι r).2.1≠0→(E'.ι r).1≠w.heap.size+1:=by
   rw[hED];exact Q6e hconcH (by rw[hwE];exact hL) rfl
  have hneB:∀r∈E'.D,(E'.ι r).2.1≠0→(E'.ι r).1≠w.heap.size:=by
   rw[hED];exact Q6e hconcH (by rw[hwE];exact hB) rfl
  obtain⟨hTl,hTg⟩:=Q3e hT0
  obtain⟨hal,hag⟩:=Q3e hargs
  have hat:LoopAt2 t u assign body T0 (H0.map (·.1)) (w.heap.size+1) E':=by
   refine⟨⟨f,a.tmps,w.heap.size,by rw[hwE];exact hL,hc1.size.trans hTl.symm,fun i=>?_⟩,hneL,fun r hr hz b hb=>?_,hED⟩
   · subst hE'
     have hv:=hc1.tmp i
     rw[List.getD_eq_getElem?_getD] at hv ⊢
     cases hi:T0[i]? with
     |none=>exact .any _
     |some x=>
      have hlt:=(List.getElem?_eq_some_iff.1 hi).1
      rw[List.getElem?_eq_getElem (by omega)] at hv
      rcases hTg i x _ hi (List.getElem?_eq_getElem (by omega)) with rfl|e
      · exact .any _
      · exact hv.unren x e
   · obtain⟨cs,hcs⟩:=Q1e (hED▸hr)
     exact hdis r cs b hcs hz hb
  have hcall:=hF (w.heap.size+1) E' (.func (.yield (w.heap.size+1)) #[] #[]::us) hat hED hdis hconcH (by simp[hul,hal]) (fun j v x hv hx=>by
   cases j with
   |zero=>cases hv;cases hx;exact .c _ _ (.v _ rfl)
   |succ j=>
    simp only[List.getElem?_cons_succ] at hv hx
    have hlt:=(List.getElem?_eq_some_iff.1 hx).1
    subst hE'
    rcases hag j x _ hx (List.getElem?_eq_getElem (by omega)) with rfl|e
    · exact .any _
    · have:=hus j v _ hv (List.getElem?_eq_getElem (by omega))
      exact(this.mono (S':=Sx E ι σ.H) (w':=w1) (fun b hb hlt=>⟨hb,by rw[←hw1,Below.heap_alloc _ _ _ (by rw[World.size_alloc];omega),Below.heap_alloc _ _ _ hlt]⟩) fun _ _=>rfl).unren x e)
  rw[hwE] at hcall
  refine⟨w.heap.size+1,[{target:=.collected w.heap.size,args:=#[]}],w1,{target:=.fn (.func gf) us.toArray,args:=#[.func (.yield (w.heap.size+1)) #[] #[]]},w1,gf,(.func (.yield (w.heap.size+1)) #[] #[]::us:List Value).toArray,w1,?_,?_,fun _ _=>trivial,?_,fun e=>(by cases e),(callsIn_wide (n:=0-1)).2 (hcall.mono fun e w'=>?_)⟩
  · rw[←hw1];exact run_enterLoop_outer f a.tmps #[t,u] assign body
  · simp only[resolve,hge,Deferred.ofValue,List.map_toArray,List.map_cons,List.map_nil,Sem.run_bind,Sem.run_pure,Result.andThen_ok,Array.empty_append]
    rfl
  · have hen:=Q4t hfn hname hbody (.func (.yield (w.heap.size+1)) #[] #[]::us:List Value).toArray w1
    simpa only[invoke,List.append_toArray,List.cons_append,List.nil_append] using hen
  · rintro ⟨v,ι',rfl,hres,hcH,hk⟩
    obtain⟨ι2,hcn,-⟩:=hc1.back ρ hD0' hH0' hinj hnew hin hinH hE' hres hcH hk
    have hlt1:w.heap.size+1<w1.heap.size:=(Array.getElem?_eq_some_iff.1 hL).1
    have hL':w'.heap[w.heap.size+1]? = some (.loop (Q1v #[t,u] assign body f a.tmps w.heap.size)):=by
     rw[hk.block _ (by rw[hwE];exact hlt1) hneL,hwE];exact hL
    have hB':w'.heap[w.heap.size]? = some (.deferred (some [])):=by
     rw[hk.block _ (by rw[hwE];omega) hneB,hwE];exact hB
    refine⟨none,_,run_endLoop hL' (by simp),?_⟩
    have hE0:=hc.keep.size
    have hMk:Marks E (Sx E ι2 (Q0u (Q1m σ.H (renH ρ H0)) (renH ρ H1))) (w'.putObj (w.heap.size+1) (.loop {Q1v #[t,u] assign body f a.tmps w.heap.size with state:=.exhausted})) ({target:=.collected w.heap.size,args:=#[]}::a.defers):=by
     obtain⟨Ds,g1,g2,g3⟩:=hcn.defers
     obtain⟨Ds0,k1,k2,k3⟩:=hc.defers
     have hinjm:Ds=Ds0:=by
      have:=g2.symm.trans k2
      exact(List.map_inj_right (fun x y e=>by simpa using e)).1 this
     subst hinjm
     refine⟨w.heap.size::Ds,List.nodup_cons.2 ⟨fun hm=>?_,g1⟩,by rw[List.map_cons,←g2],fun D hD=>?_⟩
     · have:=(Array.getElem?_eq_some_iff.1 (k3 _ hm).2.2).1;omega
     · rcases List.mem_cons.1 hD with rfl|hD
       · refine⟨hE0,⟨.inr (.inl hE0),fun r cs hr hz e=>?_⟩,(World.putObj_heap_other (by omega)).trans hB'⟩
         rcases hcn.heap.blk r cs hr with⟨h0,_⟩|⟨cur,hh,_⟩
         · exact hz h0
         · rw[e,hB'] at hh;cases hh
       · obtain⟨m1,m2,m3⟩:=g3 D hD
         have:=(Array.getElem?_eq_some_iff.1 (k3 D hD).2.2).1
         exact⟨m1,m2,(World.putObj_heap_other (by omega)).trans m3⟩
    exact⟨ι2,_,hcn.turn _ hL' rfl (by omega) hMk,hK⟩
end
section
open Go.RowKit
section
variable {P:Program} {o:Oper} {σ : St}
theorem X4l{f:FuncId}{fn:Func}{cargs:List AV}{d r e sz n:Nat}{pcs:List PV}{fo:Operand}{cas:Array Operand}{ts:Array TypeId}{caps:List AV}(hF:Fn P f cargs [] (.row r e sz n) [(r,pcs.map .c)])(ho:o.op = .call {callee:=.value fo,args:=cas,argTypes:=ts})(hfo:Q0k fo=true)(has:cas.toList.all Q0k=true)(hf:σ.ev fo = .fn f caps)
 (hfn:P.funcs[f]? = some fn) (hname:(fn.name == "runtime.NumGoroutine")=false) (hbody:fn.body.isNone=false) (hargs:Q1d (fun _=>d) cargs (cas.toList.map σ.ev++caps)) (hd:o.dst=some d) (hd2:d<1000) :
 OpN P o σ.ev (hget σ.H) ⟨.row d e sz n,[],[(d,pcs.map .c)],[d]⟩:=fun τ hA _ hN=>by
 have h1:τ.ev fo = σ.ev fo:=hA fo (by rw[ho];simp[Op.operands,Call.operands])
 have h2:cas.toList.map τ.ev=cas.toList.map σ.ev:=List.map_congr_left fun x hx=>hA x (by rw[ho];simp[Op.operands,Call.operands];first|exact .inr (by simpa using hx))
 have hrn:AV.renL (fun _=>d) (pcs.map .c)=pcs.map .c:=by simp
 refine X2g hF (fun _=>d) ho hfo has (by rw[h1];exact hf) hfn hname hbody rfl (by rw[h2];exact hargs) (fun r hr=>by cases hr) (fun a ha b hb _=>?_) ⟨.inr ⟨hN d (by simp),hd2⟩,trivial⟩ (by simp[AV.inN]) (by simp[inH]) ?_
 · simp at ha hb
   rw[ha,hb]
 · rw[hd]
   simp only[renH,Q1m,Q0u,hrn,AV.ren]
   rfl
theorem X5b{f:FuncId}{fn:Func}{cargs:List AV}{d r e sz n:Nat}{pcs:List PV}{fo:Operand}{cas:Array Operand}{ts:Array TypeId}{caps:List AV}{l0 rest:List Oper}{acc:List Ef}{K:St→Prop}(hF:Fn P f cargs [] (.row r e sz n) [(r,pcs.map .c)])(hg:o.guard=none)(ho:o.op = .call {callee:=.value fo,args:=cas,argTypes:=ts})(hfo:Q0k fo=true)(has:cas.toList.all Q0k=true)(hf:σ.ev fo = .fn f caps)
 (hfn:P.funcs[f]? = some fn) (hname:(fn.name == "runtime.NumGoroutine")=false) (hbody:fn.body.isNone=false) (hargs:Q1d (fun _=>d) cargs (cas.toList.map σ.ev++caps)) (hd:o.dst=some d) (hd2:d<1000)
 (h:evD P l0 rest (σ.eff o.dst (.row d e sz n) [(d,pcs.map .c)]) (⟨.row d e sz n,[],[(d,pcs.map .c)],[d]⟩::acc) K):evD P l0 (o::rest) σ acc K:=
 ⟨_,.inl ⟨hg,X4l hF ho hfo has hf hfn hname hbody hargs hd hd2⟩,h⟩
end
end
section
open Go.RowKit Go.MapKept
mutual
def PV.hasMp:PV→Bool
 |.v _=>false
 |.sl _ _ _ cs=>PV.hasMpL cs
 |.mp _ _=>true
def PV.hasMpL:List PV→Bool
 |[]=>false
 |x::l=>PV.hasMp x||PV.hasMpL l
end
theorem Q7v:∀{l:List PV},PV.hasMpL l=false→∀(j:Nat) (x:PV),l[j]? = some x→PV.hasMp x=false
 |[],_,j,x,hx=>by simp at hx
 |y::l,h,j,x,hx=>by
  unfold PV.hasMpL at h
  rw[Bool.or_eq_false_iff] at h
  cases j with
  |zero=>simp at hx;subst hx;exact h.1
  |succ j=>exact Q7v h.2 j x (by simpa using hx)
theorem Z0l(l r:List PV):PV.hasMpL (l++r)=(PV.hasMpL l||PV.hasMpL r):=by
 induction l with
 |nil=>simp[PV.hasMpL]
 |cons x l ih=>simp[PV.hasMpL,ih,Bool.or_assoc]
theorem X6v{α : Type}(f:α→List PV)(h:∀x,PV.hasMpL (f x)=false)(l:List α):PV.hasMpL (l.flatMap f)=false:=by
 induction l with
 |nil=>rfl
 |cons x l ih=>rw[List.flatMap_cons,Z0l,h,ih];rfl
mutual
def AV.hasMp:AV→Bool
 |.any=>false
 |.c p=>PV.hasMp p
 |.agg cs=>AV.hasMpA cs
 |.tup cs=>AV.hasMpA cs
 |.ptr _ _=>false
 |.row _ _ _ _=>false
 |.cut _ _ _ _ _ _ _=>false
 |.ep cs=>PV.hasMpL cs
 |.fn _ cs=>AV.hasMpA cs
 |.fnb _ cs=>AV.hasMpA cs
 |.amp _ _ _=>true
def AV.hasMpA:List AV→Bool
 |[]=>false
 |x::l=>AV.hasMp x||AV.hasMpA l
end
theorem Q3u:∀{l:List AV},AV.hasMpA l=false→∀(j:Nat) (x:AV),l[j]? = some x→AV.hasMp x=false
 |[],_,j,x,hx=>by simp at hx
 |y::l,h,j,x,hx=>by
  unfold AV.hasMpA at h
  rw[Bool.or_eq_false_iff] at h
  cases j with
  |zero=>simp at hx;subst hx;exact h.1
  |succ j=>exact Q3u h.2 j x (by simpa using hx)
def Q7g(H:List (Nat×List AV)):Bool:=
 match H with
 |[]=>false
 |(_,cs)::H=>AV.hasMpA cs||Q7g H
theorem X1f:∀{H:List (Nat×List AV)},Q7g H=false→∀(r:Nat) (cs:List AV),hget H r=some cs→AV.hasMpA cs=false
 |[],_,r,cs,h=>by cases h
 |(k,ds)::H,hm,r,cs,h=>by
  unfold Q7g at hm
  rw[Bool.or_eq_false_iff] at hm
  unfold hget at h
  split at h
  · cases h;exact hm.1
  · exact X1f hm.2 r cs h
section
variable {S S':Nat→Prop} {ι : Nat→Nat×Nat×Nat} {w w':World}
theorem RVp.nmono(hS:∀b cur e z,S b→w.heap[b]? = some (Obj.cells cur e z)→S' b∧w'.heap[b]? = w.heap[b]?){v:Value}{p:PV}(h:RVp S w v p):PV.hasMp p=false→RVp S' w' v p:=by
 induction h with
 |v x h=>exact fun _=>.v x h
 |sl ex sz A n c us cs h1 h2 h3 hx hl hn h4 _ ih=>
  intro hm
  refine .sl ex sz A n c us cs h1 h2 h3 hx hl hn (fun hne=>?_) fun j u x hu hx'=>ih j u x hu hx' (Q7v (by unfold PV.hasMp at hm;exact hm) j x hx')
  obtain⟨b,o,hA,hb,hc⟩:=h4 hne
  obtain⟨u,rest,hu⟩:=List.exists_cons_of_ne_nil hne
  obtain⟨cur,e,z,hh0⟩:=Q4e (hc 0 u (by rw[hu];rfl))
  obtain⟨hS',hh⟩:=hS b cur e z hb hh0
  exact⟨b,o,hA,hS',fun j u hu=>(World.cell?_of_block (w:=w) (a:=⟨b,o+j,none⟩) hh).trans (hc j u hu)⟩
 |mp=>intro hm;cases hm
theorem RV.nmono(hS:∀b cur e z,S b→w.heap[b]? = some (Obj.cells cur e z)→S' b∧w'.heap[b]? = w.heap[b]?){v:Value}{x:AV}(h:RV S ι w v x):AV.hasMp x=false→RV S' ι w' v x:=by
 induction h with
 |any x=>exact fun _=>.any x
 |c x p h=>exact fun hm=>.c x p (h.nmono hS (by unfold AV.hasMp at hm;exact hm))
 |agg us cs hl h1 _ ih=>exact fun hm=>.agg us cs hl h1 fun j u x hu hx=>ih j u x hu hx (Q3u (by unfold AV.hasMp at hm;exact hm) j x hx)
 |tup us cs hl _ ih=>exact fun hm=>.tup us cs hl fun j u x hu hx=>ih j u x hu hx (Q3u (by unfold AV.hasMp at hm;exact hm) j x hx)
 |ptr r off=>exact fun _=>.ptr r off
 |row r e sz n c h1 h2 h3 h4 h0=>exact fun _=>.row r e sz n c h1 h2 h3 h4 h0
 |rnil A r e sz h=>exact fun _=>.rnil A r e sz h
 |cut r e sz lo n c ex h1 h2 h3 hx h4 h0=>exact fun _=>.cut r e sz lo n c ex h1 h2 h3 hx h4 h0
 |cnil A r e sz lo ex h=>exact fun _=>.cnil A r e sz lo ex h
 |ep b o us cs hl hne hb h4 h5=>
  intro hm
  obtain⟨u0,rest,hu0⟩:=List.exists_cons_of_ne_nil hne
  obtain⟨cur,e,z,hh0⟩:=Q4e (h4 0 u0 (by rw[hu0];rfl))
  obtain⟨hS',hh⟩:=hS b cur e z hb hh0
  exact .ep b o _ cs hl hne hS' (fun j u hu=>(World.cell?_of_block (w:=w) (a:=⟨b,o+j,none⟩) hh).trans (h4 j u hu)) (fun j u x hu hx=>(h5 j u x hu hx).nmono hS (Q7v (by unfold AV.hasMp at hm;exact hm) j x hx))
 |fn f us cs hl _ ih=>exact fun hm=>.fn f us cs hl fun j u x hu hx=>ih j u x hu hx (Q3u (by unfold AV.hasMp at hm;exact hm) j x hx)
 |fnb f us cs hl _ ih=>exact fun hm=>.fnb f us cs hl fun j u x hu hx=>ih j u x hu hx (Q3u (by unfold AV.hasMp at hm;exact hm) j x hx)
 |amp b X clk ks us cs hb hh hk hu hl _ ih=>exact fun hm=>by cases hm
end
section
variable {E:Env} {ι : Nat→Nat×Nat×Nat} {σ : St} {a:Act} {w:World} {b clk clk':Nat} {X X':Array MapEntry}
theorem X8d(hb:w.heap[b]? = some (.map X clk))(o':Obj){b':Nat}{o:Obj}(h:w.heap[b']? = some o)(hn:∀Y c,o≠.map Y c):(w.putObj b o').heap[b']? = w.heap[b']?:=
 World.putObj_heap_other fun e=>by subst e;rw[hb] at h;cases h;exact hn _ _ rfl
end
section
variable {V:Type}
end
section
variable {P:Program} {o:Oper} {σ : St} {K:St→Prop} {V:Type}
theorem run_zeroV{t:TypeId}{z:Value}(h:(P.info? t).bind (·.zero)=some z)(w:World):(zeroValue t).run P w = .ok z w:=by
 cases hi:P.info? t with
 |none=>simp[hi] at h
 |some i=>
  cases hz:i.zero with
  |none=>simp[hi,hz] at h
  |some v=>simp[hi,hz] at h;subst h;simp[zeroValue,typeInfo,hi,hz]
def OpW(p:Env→Prop)(P:Program)(o:Oper)(σ : St)(K:St→Prop):Prop:=
 ∀(E:Env) (ι : Nat→Nat×Nat×Nat) (a:Act) (w:World),p E→Conc E ι σ a w→∀(K':Act→World→Prop) (Q:Exit→Act→World→Prop),(∀ι' σ' a' w',K σ'→Conc E ι' σ' a' w'→K' a' w')→o.wp P a w K' Q
theorem OpA.toW{p:Env→Prop}(h:OpA P o σ K):OpW p P o σ K:=fun E ι a w _ hc=>h E ι a w hc
end
section
variable {P:Program} {o:Oper} {σ : St} {K:St→Prop} {κ : Type}
end
section
variable {p:Env→Prop} {P:Program} {σ : St} {Φ : Exit→St→Prop}
theorem AWE.seqI{x y:Code}(h:∀J:Exit→St→Prop,(∀σ',AWE p P y σ' Φ→J .normal σ')→(∀ex σ',ex≠.normal→Φ ex σ'→J ex σ')→AWE p P x σ J):AWE p P (.seq x y) σ Φ:=
 AWE.seq (h _ (fun _ h=>h) fun ex σ' hne h'=>by
  cases ex with
  |normal=>exact absurd rfl hne
  |_=>exact h')
end
section
variable {p:Env→Prop} {P:Program} {σ : St} {Φ : Exit→St→Prop}
end
theorem Fn.known{P:Program}{f:FuncId}{args:List AV}{H0 H1:List (Nat×List AV)}{res:AV}(h:∀E0,FnW (fun E=>E=E0) P f args H0 res H1):Fn P f args H0 res H1:=fun E vs=>h E E vs rfl
end
section
open Go.RowKit
theorem St.to.cells{σ : St}(r:Nat){cs ds:List AV}(hr:hget σ.H r=some cs)(hle:leL cs ds):σ.to ⟨σ.T,hput σ.H r ds⟩:=fun E ι a w hg=>by
 refine⟨ι,?_⟩
 obtain⟨hlen0,hle2⟩:=leL_get hle
 have hget':∀q es,hget (hput σ.H r ds) q=some es→(q=r∧es=ds)∨(q≠r∧hget σ.H q=some es):=fun q es hq=>by
  rw[Q2j] at hq
  split at hq
  · rename_i e;cases hq;exact .inl ⟨e,rfl⟩
  · rename_i e;exact .inr ⟨e,hq⟩
 have hold:∀q es,hget (hput σ.H r ds) q=some es→∃fs,hget σ.H q=some fs:=fun q es hq=>by
  rcases hget' q es hq with⟨rfl,_⟩|⟨_,h⟩
  · exact⟨_,hr⟩
  · exact⟨_,h⟩
 have hSx:∀b,Sx E ι σ.H b→Sx E ι (hput σ.H r ds) b:=fun b ⟨g1,g2⟩=>⟨g1,fun q es hq hz=>by
  obtain⟨fs,hes⟩:=hold q es hq
  exact g2 q fs hes hz⟩
 have hR:∀{v:Value} {x:AV},RV (Sx E ι σ.H) ι w v x→RV (Sx E ι (hput σ.H r ds)) ι w v x:=fun hv=>hv.mono (fun b hb _=>⟨hSx b hb,rfl⟩) fun _ _=>rfl
 refine⟨hg.defers.mono fun b hb _=>⟨hSx b hb,rfl⟩,hg.size,fun i=>hR (hg.tmp i),⟨fun q es hq=>?_,fun q q' es fs hq hq'=>?_⟩,⟨hg.keep.os,hg.keep.tape,hg.keep.output,hg.keep.size,hg.keep.block,fun q es hq=>?_⟩⟩
 · rcases hget' q es hq with⟨rfl,rfl⟩|⟨_,h⟩
   · rcases hg.heap.blk q cs hr with⟨h0,rfl⟩|⟨cur,hh,hs,hlen,hcur,hone1⟩
     · exact .inl ⟨h0,List.eq_nil_of_length_eq_zero hlen0.symm⟩
     · refine .inr ⟨cur,hh,hs,by rw[←hlen0];exact hlen,fun i u x hu hx=>?_,hone1⟩
       have hi:i<cs.length:=by rw[hlen0];exact(List.getElem?_eq_some_iff.1 hx).1
       have hy:cs[i]? = some cs[i]:=List.getElem?_eq_getElem hi
       exact⟨hle2 i _ _ hy hx _ _ _ _ (hR (hcur i u _ hu hy).1),(hcur i u _ hu hy).2⟩
   · rcases hg.heap.blk q es h with h0|⟨cur,hh,hs,hlen,hcur,hone1⟩
     · exact .inl h0
     · exact .inr ⟨cur,hh,hs,hlen,fun i u x hu hx=>⟨hR (hcur i u x hu hx).1,(hcur i u x hu hx).2⟩,hone1⟩
 · obtain⟨ds',h1'⟩:=hold q es hq
   obtain⟨es',h2'⟩:=hold q' fs hq'
   exact hg.heap.inj q q' ds' es' h1' h2'
 · obtain⟨ds',h1'⟩:=hold q es hq
   exact hg.keep.mine q ds' h1'
section
variable {P:Program} {o:Oper} {σ : St} {K:St→Prop}
theorem X4q{t sz n:Nat}{g:Bool}{x i:Operand}{cs:List PV}{k:IntKind}{m:Int}(ho:o.op = .indexAddr t x i)(hx:Q0k x=true)(hi0:Q0k i=true)(h1:σ.ev x = .ep cs)(hi:σ.ev i = .c (.v (.int k m)))(hs:arrT P t=some (n,sz,g))
 (hb:0≤m∧m<n) (hl:m.toNat*sz<cs.length) (hK:K (σ.put o.dst (.ep (cs.drop (m.toNat*sz))))):OpA P o σ K:=
 Q1g _ hK fun E ι a w h=>by
  have hxv:=h.ev x hx
  rw[h1] at hxv
  have hiv:=h.ev i hi0
  rw[hi] at hiv
  obtain⟨ei,_⟩:=hiv.v_inv
  generalize he:a.eval x=v at hxv
  unfold arrT at hs
  split at hs
  · rename_i n' e' hu
    split at hs
    · rename_i s' g' hs1 hs2
      simp only[Option.some.injEq,Prod.mk.injEq] at hs
      obtain⟨rfl,rfl,rfl⟩:=hs
      cases hxv with
      |ep b off us cs hl' hne hS h4 h5=>
       refine⟨_,?_,.ep b (off+m.toNat*s') (us.drop (m.toNat*s')) _ (by simp;omega) (fun e=>?_) hS (fun j u hu=>?_) fun j u x hu hx=>?_⟩
       · simp only[execOp,ho,he,ei,Instr.indexAt,Sem.run_bind,Q2t,run_underlying hu,Result.andThen_ok,Sem.run_pure,Instr.sureAddr,Q2w hs1,Sem.run_ite,if_pos hb,Q1u]
       · have:=congrArg List.length e;simp at this;omega
       · rw[List.getElem?_drop] at hu;rw[Nat.add_assoc];exact h4 _ u hu
       · rw[List.getElem?_drop] at hu hx;exact h5 _ u x hu hx
    · cases hs
  · cases hs
theorem X4m{t sz n:Nat}{g:Bool}{x i:Operand}{cs:List PV}{k:IntKind}{m:Int}(ho:o.op = .indexAddr t x i)(hx:Q0k x=true)(hi0:Q0k i=true)(h1:σ.ev x = .ep cs)(hi:σ.ev i = .c (.v (.int k m)))(hs:arrT P t=some (n,sz,g))
 (hb:0≤m∧m<n) (hl:m.toNat*sz<cs.length):OpF P o σ.ev (hget σ.H) (.ep (cs.drop (m.toNat*sz))) [] []:=fun τ hA _=>by
 refine X4q ho hx hi0 (by rw[hA x (by rw[ho];simp[Op.operands])];exact h1) (by rw[hA i (by rw[ho];simp[Op.operands])];exact hi) hs hb hl ?_
 cases o.dst<;>rfl
end
end
section
open Go.RowKit
open Nat (reduceBEq)
set_option maxRecDepth 20000
set_option maxHeartbeats 2000000
theorem AWE.scope{p:Env→Prop}{P:Program}{c:Code}{σ : St}{Φ : Exit→St→Prop}(h:AWE p P c σ fun ex σ'=>(∀j,ex = .goto j→False)∧Φ ex σ'):AWE p P (.scope c) σ Φ:=fun E ι a w hp hc=>by
 refine wp_scope_straight ?_
 refine wp_mono (h E ι a w hp hc) fun ex a' w'=>?_
 rintro ⟨ι',σ',hc',hg,hΦ⟩
 cases ex<;>first|exact⟨ι',σ',hc',hΦ⟩|exact(hg _ rfl).elim
abbrev lvA(x:UInt64):AV:=.c (.v (.int .u64 (x.toNat:Int)))
def rcV(l:List UInt64):List AV:=l.map lvA
theorem Q1a(l:List UInt64):(rcV l).length=l.length:=by unfold rcV;rw[List.length_map]
theorem Q0n(d:Nat)(l:List UInt64):AV.refsL d (rcV l)=false:=by
 unfold rcV
 induction l with
 |nil=>rfl
 |cons x l ih=>rw[List.map_cons,AV.refsL,ih];rfl
theorem Q1n(ρ : Nat→Nat)(l:List UInt64):AV.renL ρ (rcV l)=rcV l:=by
 unfold rcV
 induction l with
 |nil=>rfl
 |cons x l ih=>rw[List.map_cons,AV.renL,ih];rfl
theorem Q2i(N:List Nat)(l:List UInt64):AV.inNL N (rcV l)=true:=by
 unfold rcV
 induction l with
 |nil=>rfl
 |cons x l ih=>rw[List.map_cons,AV.inNL,ih];rfl
theorem rcV_at{l:List UInt64}{j:Nat}{y:UInt64}(h:l[j]? = some y):(rcV l)[j]? = some (lvA y):=by
 unfold rcV;rw[List.getElem?_map,h];rfl
theorem Q3t(l:List UInt64)(j:Nat)(y:UInt64)(h:j<l.length):spl (rcV l) j [lvA y]=rcV (l.set j y):=by
 unfold spl rcV
 rw[List.map_set,List.set_eq_take_append_cons_drop,if_pos (by rw[List.length_map];exact h)]
 simp
theorem Q1y(l:List UInt64)(h:l.length=25):(rcV l).take 25=rcV l:=List.take_of_length_le (by rw[Q1a,h];omega)
theorem u64w(n:Nat):IntKind.u64.wrap (n:Int)=((n%18446744073709551616:Nat):Int):=by
 unfold IntKind.wrap;simp[IntKind.bits,IntKind.signed]
theorem bvU(x:UInt64):BitVec.ofInt 64 (x.toNat:Int)=x.toBitVec:=by
 apply BitVec.eq_of_toNat_eq
 simp[BitVec.toNat_ofInt]
theorem Q3y(x y:UInt64):IntKind.u64.wrap ((@HXor.hXor (BitVec 64) (BitVec 64) (BitVec 64) (@instHXorOfXorOp (BitVec IntKind.u64.bits) (@BitVec.instXorOp IntKind.u64.bits)) (BitVec.ofInt 64 (x.toNat:Int)) (BitVec.ofInt 64 (y.toNat:Int))).toNat:Int)=((x ^^^ y).toNat:Int):=by
 show IntKind.u64.wrap ((BitVec.ofInt 64 (x.toNat:Int) ^^^ BitVec.ofInt 64 (y.toNat:Int)).toNat:Int)=_
 rw[bvU,bvU,u64w,show(x.toBitVec ^^^ y.toBitVec).toNat=(x ^^^ y).toNat from rfl,Nat.mod_eq_of_lt (x ^^^ y).toNat_lt]
theorem u64_and(x y:UInt64):IntKind.u64.wrap ((@HAnd.hAnd (BitVec 64) (BitVec 64) (BitVec 64) (@instHAndOfAndOp (BitVec IntKind.u64.bits) (@BitVec.instAndOp IntKind.u64.bits)) (BitVec.ofInt 64 (x.toNat:Int)) (BitVec.ofInt 64 (y.toNat:Int))).toNat:Int)=((x &&& y).toNat:Int):=by
 show IntKind.u64.wrap ((BitVec.ofInt 64 (x.toNat:Int) &&& BitVec.ofInt 64 (y.toNat:Int)).toNat:Int)=_
 rw[bvU,bvU,u64w,show(x.toBitVec &&& y.toBitVec).toNat=(x &&& y).toNat from rfl,Nat.mod_eq_of_lt (x &&& y).toNat_lt]
theorem X7m(x y:UInt64):IntKind.u64.wrap ((@HOr.hOr (BitVec 64) (BitVec 64) (BitVec 64) (@instHOrOfOrOp (BitVec IntKind.u64.bits) (@BitVec.instOrOp IntKind.u64.bits)) (BitVec.ofInt 64 (x.toNat:Int)) (BitVec.ofInt 64 (y.toNat:Int))).toNat:Int)=((x ||| y).toNat:Int):=by
 show IntKind.u64.wrap ((BitVec.ofInt 64 (x.toNat:Int) ||| BitVec.ofInt 64 (y.toNat:Int)).toNat:Int)=_
 rw[bvU,bvU,u64w,show(x.toBitVec ||| y.toBitVec).toNat=(x ||| y).toNat from rfl,Nat.mod_eq_of_lt (x ||| y).toNat_lt]
theorem u64_not(x:UInt64):IntKind.u64.wrap ((@HXor.hXor (BitVec 64) (BitVec 64) (BitVec 64) (@instHXorOfXorOp (BitVec IntKind.u64.bits) (@BitVec.instXorOp IntKind.u64.bits)) (BitVec.ofInt 64 (if IntKind.u64.signed=true then -1 else IntKind.u64.max)) (BitVec.ofInt 64 (x.toNat:Int))).toNat:Int)=((~~~x).toNat:Int):=by
 show IntKind.u64.wrap ((BitVec.ofInt 64 18446744073709551615 ^^^ BitVec.ofInt 64 (x.toNat:Int)).toNat:Int)=_
 have h1:BitVec.ofInt 64 18446744073709551615=BitVec.allOnes 64:=by decide
 have h2:(BitVec.allOnes 64 ^^^ x.toBitVec).toNat=(~~~x).toNat:=by
  show(BitVec.allOnes 64 ^^^ x.toBitVec).toNat=(~~~x.toBitVec).toNat
  rw[BitVec.allOnes_xor]
 rw[bvU,u64w,h1,h2,Nat.mod_eq_of_lt (~~~x).toNat_lt]
def rotU(x:UInt64)(n:Nat):UInt64:=UInt64.ofNat (x.toNat*2 ^ n%18446744073709551616) ||| UInt64.ofNat (x.toNat/2 ^ (64-n))
theorem and63(n:Nat)(h:n<64):IntKind.u64.wrap ((@HAnd.hAnd (BitVec 64) (BitVec 64) (BitVec 64) (@instHAndOfAndOp (BitVec IntKind.u64.bits) (@BitVec.instAndOp IntKind.u64.bits)) (BitVec.ofInt 64 (n:Int)) (BitVec.ofInt 64 63)).toNat:Int)=(n:Int):=by
 have h2:∀k:Fin 64,IntKind.u64.wrap ((BitVec.ofInt 64 ((k.1:Nat):Int) &&& BitVec.ofInt 64 63).toNat:Int)=((k.1:Nat):Int):=by decide +kernel
 exact h2 ⟨n,h⟩
theorem rot_fn(x:UInt64)(n:Nat)(hn:n<64):Fn Tryz.prog 201 [lvA x,vi .i64 (n:Int)] [] (lvA (rotU x n)) []:=by
 have k1:=and63 n hn
 have k0:IntKind.u64.wrap (n:Int)=(n:Int):=by rw[u64w,Nat.mod_eq_of_lt (by omega)]
 have k2:IntKind.u64.wrap (64-(n:Int))=((64-n:Nat):Int):=by
  rw[show(64-(n:Int))=((64-n:Nat):Int) by omega,u64w,Nat.mod_eq_of_lt (by omega)]
 have hx:=x.toNat_lt
 have k3:IntKind.u64.wrap ((x.toNat:Int)*2 ^ min n 64)=((UInt64.ofNat (x.toNat*2 ^ n%18446744073709551616)).toNat:Int):=by
  rw[Nat.min_eq_left (by omega),show((x.toNat:Int)*2 ^ n)=((x.toNat*2 ^ n:Nat):Int) by push_cast;rfl,u64w,UInt64.toNat_ofNat_of_lt' (by exact Nat.mod_lt _ (by decide))]
 have k4:Int.fdiv (x.toNat:Int) (2 ^ min (64-n) 64)=((UInt64.ofNat (x.toNat/2 ^ (64-n))).toNat:Int):=by
  rw[Nat.min_eq_left (by omega),UInt64.toNat_ofNat_of_lt' (by exact Nat.lt_of_le_of_lt (Nat.div_le_self _ _) hx),show((2:Int) ^ (64-n))=((2 ^ (64-n):Nat):Int) by push_cast;rfl]
  rw[Int.fdiv_eq_ediv_of_nonneg _ (Int.natCast_nonneg _)]
  rfl
 have k5:=X7m (UInt64.ofNat (x.toNat*2 ^ n%18446744073709551616)) (UInt64.ofNat (x.toNat/2 ^ (64-n)))
 have kb:IntKind.u64.bits=64:=rfl
 have e:rotU x n=UInt64.ofNat (x.toNat*2 ^ n%18446744073709551616) ||| UInt64.ofNat (x.toNat/2 ^ (64-n)):=rfl
 rw[e]
 generalize UInt64.ofNat (x.toNat*2 ^ n%18446744073709551616)=p at *
 generalize UInt64.ofNat (x.toNat/2 ^ (64-n))=q at *
 (refine Q0t Tryz.func201 rfl (by rfl) ?_;simp only[Tryz.ntmps201,List.length_cons,List.length_nil,Nat.reduceAdd,Nat.reduceSub,List.replicate,List.cons_append,List.nil_append])
 (have W:=ndI k0 (ndI k1 (ndI k2 (ndI k3 (ndI k4 k5))));(repeat(any_goals(first|((with_reducible refine Q0b ?_ ?_);rfl;intro K hK;simp(disch:=omega) only[go_sem,W];((repeat(refine ndI (by first|assumption|rfl) ?_));refine hK _ ?_;clear hK K))|(with_reducible first|(refine Q0c ?_;refine hR _ ?_;clear hR R)|((first|refine Q0e ?_);intro J hJ hJ')|(refine Q0a ?_;intro R hR)|(refine hJ _ ?_;clear hJ hJ' J)|refine Q0j ?_)))))
 all_goals(refine⟨by simp,⟨_,?_,AV.le_refl _⟩,Q0g (by simp[leH,hget])⟩;simp only[Tryz.results201,resL,ldA,Q0m,go_sem])
theorem X3q(x:UInt64)(n:Nat)(hn:n<64):Fn Tryz.prog 199 [lvA x,vi .i64 (n:Int)] [] (lvA (rotU x n)) []:=by
 have r:=rot_fn x n hn
 (refine Q0t Tryz.func199 rfl (by rfl) ?_;simp only[Tryz.ntmps199,List.length_cons,List.length_nil,Nat.reduceAdd,Nat.reduceSub,List.replicate,List.cons_append,List.nil_append])
 (repeat(any_goals(first|((with_reducible refine Q0l ?_ ?_ ?_);rfl;rfl;intro K hK;((apply Q0i (r);rfl;rfl;rfl;rfl;exact Tryz.func201);kernel_rfl;rfl;(focus((simp only[go_sem]);(try rfl);done));(first|rfl));(simp only[go_sem];refine hK _ ?_;clear hK K))|((with_reducible refine Q0b ?_ ?_);rfl;intro K hK;simp only[go_sem];((repeat(refine ndI (by first|assumption) ?_));refine hK _ ?_;clear hK K))|(with_reducible first|(refine Q0c ?_;refine hR _ ?_;clear hR R)|((first|refine Q0e ?_);intro J hJ hJ')|(refine Q0a ?_;intro R hR)|(refine hJ _ ?_;clear hJ hJ' J)|refine Q0j ?_))))
 all_goals(refine⟨by simp,⟨_,?_,AV.le_refl _⟩,Q0g (by simp[leH,hget])⟩;simp only[Tryz.results199,resL,ldA,Q0m,go_sem])
theorem Z0w(x y:Nat)(hx:x<100)(hy:y<100):Fn Tryz.prog 198 [vi .i64 (x:Int),vi .i64 (y:Int)] [] (vi .i64 ((5*(y%5)+x%5:Nat):Int)) []:=by
 have k1:Int.tmod (y:Int) 5=((y%5:Nat):Int):=by rw[Int.tmod_eq_emod_of_nonneg (by omega)];omega
 have k2:Int.tmod (x:Int) 5=((x%5:Nat):Int):=by rw[Int.tmod_eq_emod_of_nonneg (by omega)];omega
 have k3:(5:Int)*((y%5:Nat):Int)=((5*(y%5):Nat):Int):=by omega
 have k4:((5*(y%5):Nat):Int)+((x%5:Nat):Int)=((5*(y%5)+x%5:Nat):Int):=by omega
 have h1:5*(y%5)<25:=by omega
 have h2:x%5<5:=by omega
 generalize y%5=b at *
 generalize x%5=a at *
 (refine Q0t Tryz.func198 rfl (by rfl) ?_;simp only[Tryz.ntmps198,List.length_cons,List.length_nil,Nat.reduceAdd,Nat.reduceSub,List.replicate,List.cons_append,List.nil_append])
 (have W:=ndI k1 (ndI k2 (ndI k3 (ndI k4 @wrI)));(repeat(any_goals(first|((with_reducible refine Q0b ?_ ?_);rfl;intro K hK;simp(disch:=omega) only[go_sem,W];((repeat(refine ndI (by first|assumption|rfl) ?_));refine hK _ ?_;clear hK K))|(with_reducible first|(refine Q0c ?_;refine hR _ ?_;clear hR R)|((first|refine Q0e ?_);intro J hJ hJ')|(refine Q0a ?_;intro R hR)|(refine hJ _ ?_;clear hJ hJ' J)|refine Q0j ?_)))))
 all_goals(refine⟨by simp,⟨_,?_,AV.le_refl _⟩,Q0g (by simp[leH,hget])⟩;simp only[Tryz.results198,resL,ldA,Q0m,go_sem])
theorem Q9l:Fn Tryz.prog 197 [] [] (.fn 200 []) []:=by
 (refine Q0t Tryz.func197 rfl (by rfl) ?_;simp only[Tryz.ntmps197,List.length_cons,List.length_nil,Nat.reduceAdd,Nat.reduceSub,List.replicate,List.cons_append,List.nil_append])
 (repeat(any_goals(first|((with_reducible refine Q0b ?_ ?_);rfl;intro K hK;simp only[go_sem];((repeat(refine ndI (by first|assumption) ?_));refine hK _ ?_;clear hK K))|(with_reducible first|(refine Q0c ?_;refine hR _ ?_;clear hR R)|((first|refine Q0e ?_);intro J hJ hJ')|(refine Q0a ?_;intro R hR)|(refine hJ _ ?_;clear hJ hJ' J)|refine Q0j ?_))))
 all_goals(refine⟨by simp,⟨_,?_,AV.le_refl _⟩,Q0g (by simp[leH,hget])⟩;simp only[Tryz.results197,resL,ldA,Q0m,go_sem])
end
section
open Go.RowKit
open Nat (reduceBEq)
set_option maxRecDepth 20000
set_option maxHeartbeats 2000000
theorem places2(A B:Nat→List UInt64){t u:Tmp}{asg bod:Code}{T0:List AV}(hT0:AV.inNL [1001,1002] T0=true)(lp:Nat)
 (hY:∀x y:Nat,x<5→y<5→YC2 Tryz.prog t u asg bod T0 lp (vi .i64 (x:Int)) (vi .i64 (y:Int)) [(1001,rcV (A (5*y+x))),(1002,rcV (B (5*y+x)))] [(1001,rcV (A (5*y+x+1))),(1002,rcV (B (5*y+x+1)))]) :
 FnW (LoopAt2 t u asg bod T0 [1001,1002] lp) Tryz.prog 200 [yv lp] [(1001,rcV (A 0)),(1002,rcV (B 0))] (.tup []) [(1001,rcV (A 25)),(1002,rcV (B 25))]:=by
 (refine Q4r Tryz.func200 rfl (by rfl) ?_;simp only[Tryz.ntmps200,List.length_cons,List.length_nil,Nat.reduceAdd,Nat.reduceSub,List.replicate,List.cons_append,List.nil_append])
 refine AWE.scope ?_
 refine AWE.seq (AWE.of (X5c ?_))
 show AWE _ _ _ _ _
 refine AWE.seq (AWE.of ?_)
 (repeat(any_goals(first|((with_reducible refine Q0b ?_ ?_);rfl;intro K hK;simp only[go_sem];((repeat(refine ndI (by first|assumption) ?_));refine hK _ ?_;clear hK K))|(with_reducible first|(refine Q0c ?_;refine hR _ ?_;clear hR R)|(refine Q0a ?_;intro R hR)))))
 show AWE _ _ _ _ _
 refine AWE.block ?_
 refine AWE.loop (α:={y:Nat // y≤5}) (fun y=>⟨[yv lp,.any,.any,.any,vi .i64 (y.1:Int),.any,.any,.any,.any,.any,.any,.any,.any,.any,.any,.any,.any],[(1001,rcV (A (5*y.1))),(1002,rcV (B (5*y.1)))]⟩) (fun y=>5-y.1) ⟨0,by omega⟩ (St.to.of_le (St.le_of (by simp[leT]) (by simp[leH,hget]))) ?_
 rintro ⟨y,hy⟩
 dsimp only
 rcases Nat.lt_or_ge y 5 with hlt|hge
 case inr=>
  have k1:(decide ((y:Int)<5))=false:=decide_eq_false (by omega)
  obtain rfl:y=5:=by omega
  refine AWE.seq (AWE.of ?_)
  (repeat(any_goals(first|((with_reducible refine Q0b ?_ ?_);rfl;intro K hK;simp only[go_sem,k1];((repeat(refine ndI (by first|assumption) ?_));refine hK _ ?_;clear hK K))|(with_reducible first|(refine Q0c ?_;refine hR _ ?_;clear hR R)|(refine Q0a ?_;intro R hR)))))
  refine AWE.seq (AWE.of ?_)
  (repeat(any_goals(first|(with_reducible first|refine Q0q ?_)|((with_reducible apply Q0d);rfl;rfl;all_goals(intro hc;first|(cases hc;done)|(try simp only at hc))))))
  exact⟨fun j h=>(by cases h),by simp,⟨_,rfl,AV.le_of (by simp[Q0m])⟩,Q0g (by simp[leH,hget])⟩
 have k1:(decide ((y:Int)<5))=true:=decide_eq_true (by omega)
 have k7:(y:Int)+1=((y+1:Nat):Int):=by omega
 refine AWE.seq (AWE.of ?_)
 (repeat(any_goals(first|((with_reducible refine Q0b ?_ ?_);rfl;intro K hK;simp only[go_sem,k1];((repeat(refine ndI (by first|assumption) ?_));refine hK _ ?_;clear hK K))|(with_reducible first|(refine Q0c ?_;refine hR _ ?_;clear hR R)|(refine Q0a ?_;intro R hR)))))
 refine AWE.seq (AWE.of ?_)
 (repeat(any_goals(first|(with_reducible first|refine Q0h ?_)|((with_reducible apply Q0d);rfl;rfl;all_goals(intro hc;first|(cases hc;done)|(try simp only at hc))))))
 refine AWE.seq (AWE.block (AWE.seq (AWE.of ?_)))
 (repeat(any_goals(first|((with_reducible refine Q0b ?_ ?_);rfl;intro K hK;simp only[go_sem,k1];((repeat(refine ndI (by first|assumption) ?_));refine hK _ ?_;clear hK K))|(with_reducible first|(refine Q0c ?_;refine hR _ ?_;clear hR R)|(refine Q0a ?_;intro R hR)))))
 show AWE _ _ _ _ _
 refine AWE.seq (AWE.of ?_)
 (repeat(any_goals(first|((with_reducible refine Q0b ?_ ?_);rfl;intro K hK;simp only[go_sem];((repeat(refine ndI (by first|assumption) ?_));refine hK _ ?_;clear hK K))|(with_reducible first|(refine Q0c ?_;refine hR _ ?_;clear hR R)|(refine Q0a ?_;intro R hR)))))
 show AWE _ _ _ _ _
 refine AWE.block ?_
 refine AWE.loop (α:={x:Nat // x≤5}) (fun x=>⟨[yv lp,.any,vi .i64 (y:Int),.any,vi .i64 (y:Int),.any,.any,vi .i64 (x.1:Int),.any,.any,.any,.any,.any,.any,.any,.any,.any],[(1001,rcV (A (5*y+x.1))),(1002,rcV (B (5*y+x.1)))]⟩) (fun x=>5-x.1) ⟨0,by omega⟩ (St.to.of_le (St.le_of (by simp[leT]) (by simp[leH,hget]))) ?_
 rintro ⟨x,hx⟩
 dsimp only
 rcases Nat.lt_or_ge x 5 with hlt2|hge2
 case inr=>
  have k2:(decide ((x:Int)<5))=false:=decide_eq_false (by omega)
  obtain rfl:x=5:=by omega
  refine AWE.seq (AWE.of ?_)
  (repeat(any_goals(first|((with_reducible refine Q0b ?_ ?_);rfl;intro K hK;simp only[go_sem,k2];((repeat(refine ndI (by first|assumption) ?_));refine hK _ ?_;clear hK K))|(with_reducible first|(refine Q0c ?_;refine hR _ ?_;clear hR R)|(refine Q0a ?_;intro R hR)))))
  refine AWE.seq (AWE.of ?_)
  (repeat(any_goals(first|(with_reducible first|refine Q0q ?_)|((with_reducible apply Q0d);rfl;rfl;all_goals(intro hc;first|(cases hc;done)|(try simp only at hc))))))
  show AWE _ _ _ _ _
  refine AWE.of ?_
  (repeat(any_goals(first|((with_reducible refine Q0b ?_ ?_);rfl;intro K hK;simp(disch:=omega) only[go_sem,k7,wrI];((repeat(refine ndI (by first|assumption|rfl) ?_));refine hK _ ?_;clear hK K))|(with_reducible first|(refine Q0c ?_;refine hR _ ?_;clear hR R)|(refine Q0a ?_;intro R hR)))))
  exact⟨⟨y+1,hlt⟩,by dsimp only;omega,St.to.of_le (St.le_of (by simp[leT]) (by simp[leH,hget,Nat.mul_add]))⟩
 have k2:(decide ((x:Int)<5))=true:=decide_eq_true (by omega)
 have k8:(x:Int)+1=((x+1:Nat):Int):=by omega
 refine AWE.seq (AWE.of ?_)
 (repeat(any_goals(first|((with_reducible refine Q0b ?_ ?_);rfl;intro K hK;simp only[go_sem,k2];((repeat(refine ndI (by first|assumption) ?_));refine hK _ ?_;clear hK K))|(with_reducible first|(refine Q0c ?_;refine hR _ ?_;clear hR R)|(refine Q0a ?_;intro R hR)))))
 refine AWE.seq (AWE.of ?_)
 (repeat(any_goals(first|(with_reducible first|refine Q0h ?_)|((with_reducible apply Q0d);rfl;rfl;all_goals(intro hc;first|(cases hc;done)|(try simp only at hc))))))
 refine AWE.seq (AWE.block (AWE.seq (AWE.of ?_)))
 (repeat(any_goals(first|((with_reducible refine Q0b ?_ ?_);rfl;intro K hK;simp only[go_sem,k2];((repeat(refine ndI (by first|assumption) ?_));refine hK _ ?_;clear hK K))|(with_reducible first|(refine Q0c ?_;refine hR _ ?_;clear hR R)|(refine Q0a ?_;intro R hR)))))
 refine AWE.seq (AWE.region_at 3 rfl rfl ?_)
 intro R hR
 simp only[List.take,List.drop]
 (repeat(any_goals(first|((with_reducible refine Q0b ?_ ?_);rfl;intro K hK;simp only[go_sem];((repeat(refine ndI (by first|assumption) ?_));refine hK _ ?_;clear hK K))|(with_reducible first|(refine Q0c ?_;refine hR _ ?_;clear hR R)))))
 refine⟨.inl rfl,X1b (hY x y hlt2 hlt) (fun r=>r) rfl rfl rfl rfl rfl (.inr ?_) (.inr ?_) (by rfl) ?_ ?_ ?_ ?_ [1001,1002] hT0 ?_ ?_⟩
 · simp[AV.ren,AV.renL,St.ev]
 · simp[AV.ren,AV.renL,St.ev]
 · simp[hget,AV.renL,AV.ren,Q1n]
 · intro r hr q hq h;exact h
 · simp[Q1r]
 · simp[inH,AV.inNL,AV.inN,Q2i]
 · simp[hget]
 intro R hR
 simp only[List.drop,Q0u,Q1m,renH,AV.ren,AV.renL,Q1n,hput,hdel,hget,St.put,List.set,Nat.reduceEqDiff,↓reduceIte]
 (repeat(any_goals(first|((with_reducible refine Q0b ?_ ?_);rfl;intro K hK;simp only[go_sem];((repeat(refine ndI (by first|assumption) ?_));refine hK _ ?_;clear hK K))|(with_reducible first|(refine Q0c ?_;refine hR _ ?_;clear hR R)))))
 show AWE _ _ _ _ _
 refine AWE.of ?_
 (repeat(any_goals(first|(with_reducible first|refine Q0h ?_)|((with_reducible apply Q0d);rfl;rfl;all_goals(intro hc;first|(cases hc;done)|(try simp only at hc))))))
 show AWE _ _ _ _ _
 refine AWE.of ?_
 (repeat(any_goals(first|((with_reducible refine Q0b ?_ ?_);rfl;intro K hK;simp(disch:=omega) only[go_sem,k8,wrI];((repeat(refine ndI (by first|assumption|rfl) ?_));refine hK _ ?_;clear hK K))|(with_reducible first|(refine Q0c ?_;refine hR _ ?_;clear hR R)|(refine Q0a ?_;intro R hR)))))
 exact⟨⟨x+1,hlt2⟩,by dsimp only;omega,St.to.of_le (St.le_of (by simp[leT]) (by simp[leH,hget,Nat.add_assoc]))⟩
theorem places3(A B C:Nat→List UInt64){t u:Tmp}{asg bod:Code}{T0:List AV}(hT0:AV.inNL [1001,1002,1003] T0=true)(lp:Nat)
 (hY:∀x y:Nat,x<5→y<5→YC2 Tryz.prog t u asg bod T0 lp (vi .i64 (x:Int)) (vi .i64 (y:Int)) [(1001,rcV (A (5*y+x))),(1002,rcV (B (5*y+x))),(1003,rcV (C (5*y+x)))] [(1001,rcV (A (5*y+x+1))),(1002,rcV (B (5*y+x+1))),(1003,rcV (C (5*y+x+1)))]) :
 FnW (LoopAt2 t u asg bod T0 [1001,1002,1003] lp) Tryz.prog 200 [yv lp] [(1001,rcV (A 0)),(1002,rcV (B 0)),(1003,rcV (C 0))] (.tup []) [(1001,rcV (A 25)),(1002,rcV (B 25)),(1003,rcV (C 25))]:=by
 (refine Q4r Tryz.func200 rfl (by rfl) ?_;simp only[Tryz.ntmps200,List.length_cons,List.length_nil,Nat.reduceAdd,Nat.reduceSub,List.replicate,List.cons_append,List.nil_append])
 refine AWE.scope ?_
 refine AWE.seq (AWE.of (X5c ?_))
 show AWE _ _ _ _ _
 refine AWE.seq (AWE.of ?_)
 (repeat(any_goals(first|((with_reducible refine Q0b ?_ ?_);rfl;intro K hK;simp only[go_sem];((repeat(refine ndI (by first|assumption) ?_));refine hK _ ?_;clear hK K))|(with_reducible first|(refine Q0c ?_;refine hR _ ?_;clear hR R)|(refine Q0a ?_;intro R hR)))))
 show AWE _ _ _ _ _
 refine AWE.block ?_
 refine AWE.loop (α:={y:Nat // y≤5}) (fun y=>⟨[yv lp,.any,.any,.any,vi .i64 (y.1:Int),.any,.any,.any,.any,.any,.any,.any,.any,.any,.any,.any,.any],[(1001,rcV (A (5*y.1))),(1002,rcV (B (5*y.1))),(1003,rcV (C (5*y.1)))]⟩) (fun y=>5-y.1) ⟨0,by omega⟩ (St.to.of_le (St.le_of (by simp[leT]) (by simp[leH,hget]))) ?_
 rintro ⟨y,hy⟩
 dsimp only
 rcases Nat.lt_or_ge y 5 with hlt|hge
 case inr=>
  have k1:(decide ((y:Int)<5))=false:=decide_eq_false (by omega)
  obtain rfl:y=5:=by omega
  refine AWE.seq (AWE.of ?_)
  (repeat(any_goals(first|((with_reducible refine Q0b ?_ ?_);rfl;intro K hK;simp only[go_sem,k1];((repeat(refine ndI (by first|assumption) ?_));refine hK _ ?_;clear hK K))|(with_reducible first|(refine Q0c ?_;refine hR _ ?_;clear hR R)|(refine Q0a ?_;intro R hR)))))
  refine AWE.seq (AWE.of ?_)
  (repeat(any_goals(first|(with_reducible first|refine Q0q ?_)|((with_reducible apply Q0d);rfl;rfl;all_goals(intro hc;first|(cases hc;done)|(try simp only at hc))))))
  exact⟨fun j h=>(by cases h),by simp,⟨_,rfl,AV.le_of (by simp[Q0m])⟩,Q0g (by simp[leH,hget])⟩
 have k1:(decide ((y:Int)<5))=true:=decide_eq_true (by omega)
 have k7:(y:Int)+1=((y+1:Nat):Int):=by omega
 refine AWE.seq (AWE.of ?_)
 (repeat(any_goals(first|((with_reducible refine Q0b ?_ ?_);rfl;intro K hK;simp only[go_sem,k1];((repeat(refine ndI (by first|assumption) ?_));refine hK _ ?_;clear hK K))|(with_reducible first|(refine Q0c ?_;refine hR _ ?_;clear hR R)|(refine Q0a ?_;intro R hR)))))
 refine AWE.seq (AWE.of ?_)
 (repeat(any_goals(first|(with_reducible first|refine Q0h ?_)|((with_reducible apply Q0d);rfl;rfl;all_goals(intro hc;first|(cases hc;done)|(try simp only at hc))))))
 refine AWE.seq (AWE.block (AWE.seq (AWE.of ?_)))
 (repeat(any_goals(first|((with_reducible refine Q0b ?_ ?_);rfl;intro K hK;simp only[go_sem,k1];((repeat(refine ndI (by first|assumption) ?_));refine hK _ ?_;clear hK K))|(with_reducible first|(refine Q0c ?_;refine hR _ ?_;clear hR R)|(refine Q0a ?_;intro R hR)))))
 show AWE _ _ _ _ _
 refine AWE.seq (AWE.of ?_)
 (repeat(any_goals(first|((with_reducible refine Q0b ?_ ?_);rfl;intro K hK;simp only[go_sem];((repeat(refine ndI (by first|assumption) ?_));refine hK _ ?_;clear hK K))|(with_reducible first|(refine Q0c ?_;refine hR _ ?_;clear hR R)|(refine Q0a ?_;intro R hR)))))
 show AWE _ _ _ _ _
 refine AWE.block ?_
 refine AWE.loop (α:={x:Nat // x≤5}) (fun x=>⟨[yv lp,.any,vi .i64 (y:Int),.any,vi .i64 (y:Int),.any,.any,vi .i64 (x.1:Int),.any,.any,.any,.any,.any,.any,.any,.any,.any],[(1001,rcV (A (5*y+x.1))),(1002,rcV (B (5*y+x.1))),(1003,rcV (C (5*y+x.1)))]⟩) (fun x=>5-x.1) ⟨0,by omega⟩ (St.to.of_le (St.le_of (by simp[leT]) (by simp[leH,hget]))) ?_
 rintro ⟨x,hx⟩
 dsimp only
 rcases Nat.lt_or_ge x 5 with hlt2|hge2
 case inr=>
  have k2:(decide ((x:Int)<5))=false:=decide_eq_false (by omega)
  obtain rfl:x=5:=by omega
  refine AWE.seq (AWE.of ?_)
  (repeat(any_goals(first|((with_reducible refine Q0b ?_ ?_);rfl;intro K hK;simp only[go_sem,k2];((repeat(refine ndI (by first|assumption) ?_));refine hK _ ?_;clear hK K))|(with_reducible first|(refine Q0c ?_;refine hR _ ?_;clear hR R)|(refine Q0a ?_;intro R hR)))))
  refine AWE.seq (AWE.of ?_)
  (repeat(any_goals(first|(with_reducible first|refine Q0q ?_)|((with_reducible apply Q0d);rfl;rfl;all_goals(intro hc;first|(cases hc;done)|(try simp only at hc))))))
  show AWE _ _ _ _ _
  refine AWE.of ?_
  (repeat(any_goals(first|((with_reducible refine Q0b ?_ ?_);rfl;intro K hK;simp(disch:=omega) only[go_sem,k7,wrI];((repeat(refine ndI (by first|assumption|rfl) ?_));refine hK _ ?_;clear hK K))|(with_reducible first|(refine Q0c ?_;refine hR _ ?_;clear hR R)|(refine Q0a ?_;intro R hR)))))
  exact⟨⟨y+1,hlt⟩,by dsimp only;omega,St.to.of_le (St.le_of (by simp[leT]) (by simp[leH,hget,Nat.mul_add]))⟩
 have k2:(decide ((x:Int)<5))=true:=decide_eq_true (by omega)
 have k8:(x:Int)+1=((x+1:Nat):Int):=by omega
 refine AWE.seq (AWE.of ?_)
 (repeat(any_goals(first|((with_reducible refine Q0b ?_ ?_);rfl;intro K hK;simp only[go_sem,k2];((repeat(refine ndI (by first|assumption) ?_));refine hK _ ?_;clear hK K))|(with_reducible first|(refine Q0c ?_;refine hR _ ?_;clear hR R)|(refine Q0a ?_;intro R hR)))))
 refine AWE.seq (AWE.of ?_)
 (repeat(any_goals(first|(with_reducible first|refine Q0h ?_)|((with_reducible apply Q0d);rfl;rfl;all_goals(intro hc;first|(cases hc;done)|(try simp only at hc))))))
 refine AWE.seq (AWE.block (AWE.seq (AWE.of ?_)))
 (repeat(any_goals(first|((with_reducible refine Q0b ?_ ?_);rfl;intro K hK;simp only[go_sem,k2];((repeat(refine ndI (by first|assumption) ?_));refine hK _ ?_;clear hK K))|(with_reducible first|(refine Q0c ?_;refine hR _ ?_;clear hR R)|(refine Q0a ?_;intro R hR)))))
 refine AWE.seq (AWE.region_at 3 rfl rfl ?_)
 intro R hR
 simp only[List.take,List.drop]
 (repeat(any_goals(first|((with_reducible refine Q0b ?_ ?_);rfl;intro K hK;simp only[go_sem];((repeat(refine ndI (by first|assumption) ?_));refine hK _ ?_;clear hK K))|(with_reducible first|(refine Q0c ?_;refine hR _ ?_;clear hR R)))))
 refine⟨.inl rfl,X1b (hY x y hlt2 hlt) (fun r=>r) rfl rfl rfl rfl rfl (.inr ?_) (.inr ?_) (by rfl) ?_ ?_ ?_ ?_ [1001,1002,1003] hT0 ?_ ?_⟩
 · simp[AV.ren,AV.renL,St.ev]
 · simp[AV.ren,AV.renL,St.ev]
 · simp[hget,AV.renL,AV.ren,Q1n]
 · intro r hr q hq h;exact h
 · simp[Q1r]
 · simp[inH,AV.inNL,AV.inN,Q2i]
 · simp[hget]
 intro R hR
 simp only[List.drop,Q0u,Q1m,renH,AV.ren,AV.renL,Q1n,hput,hdel,hget,St.put,List.set,Nat.reduceEqDiff,↓reduceIte]
 (repeat(any_goals(first|((with_reducible refine Q0b ?_ ?_);rfl;intro K hK;simp only[go_sem];((repeat(refine ndI (by first|assumption) ?_));refine hK _ ?_;clear hK K))|(with_reducible first|(refine Q0c ?_;refine hR _ ?_;clear hR R)))))
 show AWE _ _ _ _ _
 refine AWE.of ?_
 (repeat(any_goals(first|(with_reducible first|refine Q0h ?_)|((with_reducible apply Q0d);rfl;rfl;all_goals(intro hc;first|(cases hc;done)|(try simp only at hc))))))
 show AWE _ _ _ _ _
 refine AWE.of ?_
 (repeat(any_goals(first|((with_reducible refine Q0b ?_ ?_);rfl;intro K hK;simp(disch:=omega) only[go_sem,k8,wrI];((repeat(refine ndI (by first|assumption|rfl) ?_));refine hK _ ?_;clear hK K))|(with_reducible first|(refine Q0c ?_;refine hR _ ?_;clear hR R)|(refine Q0a ?_;intro R hR)))))
 exact⟨⟨x+1,hlt2⟩,by dsimp only;omega,St.to.of_le (St.le_of (by simp[leT]) (by simp[leH,hget,Nat.add_assoc]))⟩
end
section
open Go.RowKit
open Nat (reduceBEq)
set_option maxRecDepth 20000
set_option maxHeartbeats 4000000
abbrev lnA(l:List UInt64):AV:=.agg (rcV l)
theorem Q1l{l:List UInt64}{i:Nat}(h:i<l.length):(rcV l)[i]? = some (lvA (l.getD i 0)):=rcV_at (by rw[List.getD_eq_getElem?_getD,List.getElem?_eq_getElem h];rfl)
def zer(n:Nat):List UInt64:=List.replicate n 0
theorem Q5f(n:Nat):(zer n).length=n:=List.length_replicate
def cA(l:List UInt64):Nat→List UInt64
 |0=>zer 5
 |k+1=>(cA l k).set (k%5) ((cA l k).getD (k%5) 0 ^^^ l.getD k 0)
theorem X5l(l:List UInt64):∀k,(cA l k).length=5
 |0=>rfl
 |k+1=>by unfold cA;rw[List.length_set,X5l l k]
def X1q(k:Nat):Nat:=(X0q.getD k 0).toNat
def bA(l c:List UInt64):Nat→List UInt64
 |0=>zer 25
 |k+1=>(bA l c k).set (5*((2*(k%5)+3*(k/5))%5)+(k/5)%5) (rotU (l.getD k 0 ^^^ (c.getD ((k%5+4)%5) 0 ^^^ rotU (c.getD ((k%5+1)%5) 0) 1)) (X1q k))
theorem X5q(l c:List UInt64):∀k,(bA l c k).length=25
 |0=>rfl
 |k+1=>by unfold bA;rw[List.length_set,X5q l c k]
def mixC(l:List UInt64):List UInt64:=bA l (cA l 25) 25
def rA(l:List UInt64):Nat→List UInt64
 |0=>zer 25
 |k+1=>(rA l k).set k (l.getD k 0 ^^^ (~~~ l.getD (5*(k/5)+(k%5+1)%5) 0 &&& l.getD (5*(k/5)+(k%5+2)%5) 0))
theorem X4i(l:List UInt64):∀k,(rA l k).length=25
 |0=>rfl
 |k+1=>by unfold rA;rw[List.length_set,X4i l k]
def X6c(l:List UInt64):List UInt64:=rA l 25
def Q8a:List PV:=X0q.map fun n=>.v (.int .i64 n)
theorem gev_turns:gev 1 = .ep Q8a:=rfl
theorem turns_at(k:Nat)(h:k<25):(Q8a.drop k)[0]? = some (.v (.int .i64 ((X1q k:Nat):Int)))∧X1q k<64:=by
 have key:∀k:Fin 25,(Q8a.drop k.1)[0]? = some (.v (.int .i64 ((X1q k.1:Nat):Int)))∧X1q k.1<64:=by
  intro k
  refine⟨?_,?_⟩
  · have h2:(X0q.drop k.1)[0]? = some ((X1q k.1:Nat):Int):=by revert k;decide
    unfold Q8a
    rw[←List.map_drop,List.getElem?_map,h2]
    rfl
  · revert k;decide
 exact key ⟨k,h⟩
theorem X9o:Q8a.length=25:=rfl
theorem Q4v:rcV (zer 25)=List.replicate 25 (.c (.v (.int .u64 0))):=rfl
theorem X7x:rcV (zer 5)=List.replicate 5 (.c (.v (.int .u64 0))):=rfl
theorem opF_turns{o:Oper}{σ : St}{i:Operand}{k:IntKind}{m:Int}(ho:o.op = .indexAddr 226 (.global 1) i)(hi0:Q0k i=true)(hi:σ.ev i = .c (.v (.int k m)))(hb:0≤m∧m<25):OpF Tryz.prog o σ.ev (hget σ.H) (.ep (Q8a.drop m.toNat)) [] []:=by
 have h:=X4m (P:=Tryz.prog) (σ:=σ) (o:=o) (n:=25) (sz:=1) (g:=false) (cs:=Q8a) ho rfl hi0 (show σ.ev (.global 1) = .ep Q8a from gev_turns) hi (by kernel_rfl) hb (by rw[X9o];omega)
 rwa [Nat.mul_one] at h
theorem mix_fnE(l m:List UInt64)(hl:l.length=25)(hm:True→bA l (cA l 25) 25=m):Fn Tryz.prog 196 [lnA l] [] (lnA m) []:=by
 have r1:=fun d=>Q0n d l
 (refine Q0t Tryz.func196 rfl (by rfl) ?_;simp only[Tryz.ntmps196,List.length_cons,List.length_nil,Nat.reduceAdd,Nat.reduceSub,List.replicate,List.cons_append,List.nil_append])
 (repeat(any_goals(first|((with_reducible refine Q0l ?_ ?_ ?_);rfl;rfl;intro K hK;((apply Q0i (Q9l);rfl;rfl;rfl;rfl;exact Tryz.func197);kernel_rfl;rfl;(focus((simp only[go_sem,r1]);(try rfl);done));(first|rfl));(simp only[go_sem,r1];refine hK _ ?_;clear hK K))|((with_reducible refine Q0b ?_ ?_);rfl;intro K hK;simp only[go_sem,r1];((repeat(refine ndI (by first|assumption) ?_));refine hK _ ?_;clear hK K))|(with_reducible first|(refine Q0c ?_;refine hR _ ?_;clear hR R)|((first|refine Q0e ?_|refine Q0f ?_);intro J hJ hJ')|(refine Q0a ?_;intro R hR)|(refine hJ _ ?_;clear hJ hJ' J)))))
 show AW _ _ _ _
 refine AW.to (St.to.of_le (τ:=⟨[.any,.ptr 1 0,.ptr 2 0,.ptr 3 0,.any,.any,.any,.any,.any,.fn 200 [],.any,.any,.any,.any,.any,.any,.any,.any,.any,.any,.any,.any,.any,.any,.any,.any,.any,.any,.any,.any,.any,.any,.any,.any,.any,.any,.any,.any,.any,.any,.any,.any,.any,.any,.any,.any,.any,.any,.any,.any,.any,.any,.any,.any,.any,.any,.any,.any,.any,.any],[(1,rcV l),(2,rcV (zer 25)),(3,rcV (zer 5))]⟩) (St.le_of (by simp[leT]) (by rw[Q4v,X7x];simp[leH,hget]))) ?_
 refine AW.range2 (T0:=[.any,.ptr 1001 0,.ptr 1002 0,.ptr 1003 0,.any,.any,.any,.any,.any,.any,.any,.any,.any,.any,.any,.any,.any,.any,.any,.any,.any,.any,.any,.any,.any,.any,.any,.any,.any,.any,.any,.any,.any,.any,.any,.any,.any,.any,.any,.any,.any,.any,.any,.any,.any,.any,.any,.any,.any,.any,.any,.any,.any,.any,.any,.any,.any,.any,.any,.any]) (cargs:=[]) (H0:=[(1001,rcV l),(1002,rcV (zer 25)),(1003,rcV (cA l 0))]) (H1:=[(1001,rcV l),(1002,rcV (zer 25)),(1003,rcV (cA l 25))]) (res:=.tup []) (fun r=>r-1000) (fun lp=>places3 (fun _=>l) (fun _=>zer 25) (cA l) rfl lp fun x y hx hy=>X5t rfl ?_) rfl rfl Tryz.func200 (by kernel_rfl) rfl rfl ?_ ?_ ?_ ?_ ?_ rfl ?_ ?_
 · have af:=Z0w x y (by omega) (by omega)
   have e0:5*(y%5)+x%5=5*y+x:=by omega
   rw[e0] at af
   have cl:=X5l l (5*y+x)
   have e1:cA l (5*y+x+1)=(cA l (5*y+x)).set x ((cA l (5*y+x)).getD x 0 ^^^ l.getD (5*y+x) 0):=by
    show(cA l (5*y+x)).set ((5*y+x)%5) _=_
    rw[show(5*y+x)%5=x by omega]
   rw[e1]
   have hk:5*y+x<25:=by omega
   generalize cA l (5*y+x)=c at *
   generalize 5*y+x=k at *
   have k1:=Q1l (l:=c) (i:=x) (by omega)
   have k2:=Q1l (l:=l) (i:=k) (by omega)
   have k3:=Q3y (c.getD x 0) (l.getD k 0)
   have k4:=Q3t c x (c.getD x 0 ^^^ l.getD k 0) (by omega)
   have k5:=Q1a c
   have r2:=fun d=>Q0n d (c.set x (c.getD x 0 ^^^ l.getD k 0))
   generalize c.getD x 0=cx at *
   generalize l.getD k 0=lk at *
   generalize cx ^^^ lk=z at *
   simp only[List.set]
   (repeat(any_goals(first|((with_reducible refine Q0b ?_ ?_);rfl;intro K hK;simp only[go_sem];((repeat(refine ndI (by first|assumption) ?_));refine hK _ ?_;clear hK K))|(with_reducible first|(refine Q0c ?_;refine hR _ ?_;clear hR R)|((first|refine Q0e ?_);intro J hJ hJ')|(refine Q0a ?_;intro R hR)|(refine hJ _ ?_;clear hJ hJ' J)))))
   refine⟨rfl,fun ro=>AWR.block (AWR.draw rfl (by kernel_rfl) (by kernel_rfl) (by simp[Q2a,Q5q,St.free,Q1z,AV.refsL,AV.refs,Q0n]) ?_)⟩
   intro R hR
   (have W:=ndI k1 (ndI k2 (ndI k3 (ndI k4 k5)));(repeat(any_goals(first|((with_reducible refine Q0z ?_ ?_);(apply Q2e);(focus(repeat(first|exact Sims.nil|((apply Sims.cons);(focus(first|((apply Ef.sim_row);assumption)|exact Ef.sim_refl _))))));kernel_rfl;(with_reducible refine hR _ ?_);clear hR R)|((first|((first|((with_reducible apply Q1h);rfl;rfl));((apply Q0y (af);rfl;rfl;rfl;rfl;exact Tryz.func198);kernel_rfl;rfl;(focus((simp(disch:=omega) only[go_sem,W,Nat.mul_one,Nat.zero_add]);(try rfl);done));(first|rfl)))|((first|((with_reducible apply Q0x);rfl;rfl));(simp(disch:=omega) only[rdE,rdOf,go_sem,W,Nat.mul_one,Nat.zero_add];rfl);(intro τ hA hQ hN;((try simp only[Q1i,Op.operands,Call.operands,go_sem,W,Nat.mul_one,Nat.zero_add,go_sem,List.mem_cons,List.not_mem_nil,forall_eq_or_imp,forall_eq,List.append_toArray,Option.toArray] at hA);(try simp only[go_sem,W,Nat.mul_one,Nat.zero_add,List.mem_cons,List.not_mem_nil,forall_eq_or_imp,forall_eq] at hQ hN);(first|(revert hA;intro hA));(first|(revert hQ;intro hQ));(first|(revert hN;intro hN));simp(disch:=omega) only[go_sem,W,Nat.mul_one,Nat.zero_add,go_sem,hA,hQ,hN];(repeat(refine ndI (by first|assumption|omega|rfl) ?_));(first|apply Q1b|apply Q4a)))));(simp(disch:=omega) only[St.eff,setO,Q0u,go_sem,W,Nat.mul_one,Nat.zero_add]))))))
   exact⟨rfl,Q0g (by simp[leH,hget])⟩
 · simp[Q1d,Q1x,AV.ren]
 · simp[Q1d,Q1x,AV.ren]
 · simp[hget,Q1n,cA]
 · intro r hr q hq h
   simp only[List.map_cons,List.map_nil,List.cons_append,List.nil_append,List.mem_cons,List.not_mem_nil,or_false] at hr hq
   omega
 · simp[Q1r]
 · simp[inH,Q2i]
 · simp only[Q0u,Q1m,renH,AV.ren,AV.renL,Q1n,hput,hdel,hget,Nat.reduceLeDiff,Nat.reduceSub,Nat.reduceEqDiff,↓reduceIte]
   (repeat(any_goals(first|((with_reducible refine Q0l ?_ ?_ ?_);rfl;rfl;intro K hK;((apply Q0i (Q9l);rfl;rfl;rfl;rfl;exact Tryz.func197);kernel_rfl;rfl;(focus((simp only[go_sem,r1]);(try rfl);done));(first|rfl));(simp only[go_sem,r1];refine hK _ ?_;clear hK K))|(with_reducible first|(refine Q0c ?_;refine hR _ ?_;clear hR R)|((first|refine Q0e ?_|refine Q0f ?_);intro J hJ hJ')|(refine Q0a ?_;intro R hR)|(refine hJ _ ?_;clear hJ hJ' J))|((with_reducible refine hJ' _ _ ?_ ?_);(focus(simp;done));clear hJ hJ' J))))
   show AW _ _ _ _
   refine AW.range2 (T0:=[.any,.ptr 1001 0,.ptr 1002 0,.ptr 1003 0,.any,.any,.any,.any,.any,.any,.any,.any,.any,.any,.any,.any,.any,.any,.any,.any,.any,.any,.any,.any,.any,.any,.any,.any,.any,.any,.any,.any,.any,.any,.any,.any,.any,.any,.any,.any,.any,.any,.any,.any,.any,.any,.any,.any,.any,.any,.any,.any,.any,.any,.any,.any,.any,.any,.any,.any]) (cargs:=[]) (H0:=[(1001,rcV l),(1002,rcV (bA l (cA l 25) 0)),(1003,rcV (cA l 25))]) (H1:=[(1001,rcV l),(1002,rcV (bA l (cA l 25) 25)),(1003,rcV (cA l 25))]) (res:=.tup []) (fun r=>r-1000) (fun lp=>places3 (fun _=>l) (bA l (cA l 25)) (fun _=>cA l 25) rfl lp fun x y hx hy=>X5t rfl ?_) rfl rfl Tryz.func200 (by kernel_rfl) rfl rfl ?_ ?_ ?_ ?_ ?_ rfl ?_ ?_
   · have cl:=X5l l 25
     generalize cA l 25=c at *
     have af:=Z0w x y (by omega) (by omega)
     have ag:=Z0w y (2*x+3*y) (by omega) (by omega)
     have e0:5*(y%5)+x%5=5*y+x:=by omega
     rw[e0] at af
     have bl:=X5q l c (5*y+x)
     have e1:bA l c (5*y+x+1)=(bA l c (5*y+x)).set (5*((2*x+3*y)%5)+y%5) (rotU (l.getD (5*y+x) 0 ^^^ (c.getD ((x+4)%5) 0 ^^^ rotU (c.getD ((x+1)%5) 0) 1)) (X1q (5*y+x))):=by
      show(bA l c (5*y+x)).set _ _=_
      rw[show(5*y+x)%5=x by omega,show(5*y+x)/5=y by omega]
     rw[e1]
     have hk:5*y+x<25:=by omega
     generalize bA l c (5*y+x)=b at *
     generalize 5*y+x=k at *
     obtain⟨t1,t2⟩:=turns_at k hk
     have k1:=Q1l (l:=c) (i:=(x+4)%5) (by omega)
     have k2:=Q1l (l:=c) (i:=(x+1)%5) (by omega)
     have k3:=Q1l (l:=l) (i:=k) (by omega)
     have hi:5*((2*x+3*y)%5)+y%5<25:=by omega
     have j1:(x:Int)+5=((x+5:Nat):Int):=by omega
     have j2:((x+5:Nat):Int)-1=((x+4:Nat):Int):=by omega
     have j3:Int.tmod ((x+4:Nat):Int) 5=(((x+4)%5:Nat):Int):=by rw[Int.tmod_eq_emod_of_nonneg (by omega)];omega
     have j4:(x:Int)+1=((x+1:Nat):Int):=by omega
     have j5:Int.tmod ((x+1:Nat):Int) 5=(((x+1)%5:Nat):Int):=by rw[Int.tmod_eq_emod_of_nonneg (by omega)];omega
     have j6:(2:Int)*(x:Int)=((2*x:Nat):Int):=by omega
     have j7:(3:Int)*(y:Int)=((3*y:Nat):Int):=by omega
     have j8:((2*x:Nat):Int)+((3*y:Nat):Int)=((2*x+3*y:Nat):Int):=by omega
     have m1:(x+4)%5<5:=by omega
     have m2:(x+1)%5<5:=by omega
     generalize c.getD ((x+4)%5) 0=c1 at *
     generalize c.getD ((x+1)%5) 0=c2 at *
     generalize l.getD k 0=lk at *
     generalize 5*((2*x+3*y)%5)+y%5=q at *
     generalize (x+4)%5=x4 at *
     generalize (x+1)%5=x1 at *
     have tu1:Fn Tryz.prog 199 [lvA c2,vi .i64 1] [] (lvA (rotU c2 1)) []:=X3q c2 1 (by decide)
     have u1:=Q3y c1 (rotU c2 1)
     generalize rotU c2 1=c3 at *
     generalize c1 ^^^ c3=d at *
     have u2:=Q3y lk d
     generalize lk ^^^ d=z at *
     have tu2:=X3q z (X1q k) t2
     generalize X1q k=tn at *
     generalize rotU z tn=zz at *
     have k4:=Q3t b q zz (by omega)
     have k5:=Q1a b
     have r2:=fun d=>Q0n d (b.set q zz)
     have b25:b.length=25:=bl
     have hx4:2*x+3*y<100:=by omega
     simp only[List.set]
     (repeat(any_goals(first|((with_reducible refine Q0b ?_ ?_);rfl;intro K hK;simp only[go_sem];((repeat(refine ndI (by first|assumption) ?_));refine hK _ ?_;clear hK K))|(with_reducible first|(refine Q0c ?_;refine hR _ ?_;clear hR R)|((first|refine Q0e ?_);intro J hJ hJ')|(refine Q0a ?_;intro R hR)|(refine hJ _ ?_;clear hJ hJ' J)))))
     refine⟨rfl,fun ro=>AWR.block (AWR.seq (AWR.draw rfl (by kernel_rfl) (by kernel_rfl) (by simp[Q2a,Q5q,St.free,Q1z,AV.refsL,AV.refs,Q0n]) ?_))⟩
     intro R hR
     (have W:=ndI j1 (ndI j2 (ndI j3 (ndI j4 (ndI j5 (ndI k1 (ndI k2 (ndI u1 @wrI)))))));(repeat(any_goals(first|((with_reducible refine Q0z ?_ ?_);(apply Q2e);(focus(repeat(first|exact Sims.nil|((apply Sims.cons);(focus(first|exact Ef.sim_refl _))))));kernel_rfl;(with_reducible refine hR _ ?_);clear hR R)|((first|((first|((with_reducible apply Q1h);rfl;rfl));((apply Q0y (tu1);rfl;rfl;rfl;rfl;exact Tryz.func199);kernel_rfl;rfl;(focus((simp(disch:=omega) only[go_sem,W,Nat.mul_one,Nat.zero_add]);(try rfl);done));(first|rfl)))|((first|((with_reducible apply Q0x);rfl;rfl));(simp(disch:=omega) only[rdE,rdOf,go_sem,W,Nat.mul_one,Nat.zero_add];rfl);(intro τ hA hQ hN;((try simp only[Q1i,Op.operands,Call.operands,go_sem,W,Nat.mul_one,Nat.zero_add,go_sem,List.mem_cons,List.not_mem_nil,forall_eq_or_imp,forall_eq,List.append_toArray,Option.toArray] at hA);(try simp only[go_sem,W,Nat.mul_one,Nat.zero_add,List.mem_cons,List.not_mem_nil,forall_eq_or_imp,forall_eq] at hQ hN);(first|(revert hA;intro hA));(first|(revert hQ;intro hQ));(first|(revert hN;intro hN));simp(disch:=omega) only[go_sem,W,Nat.mul_one,Nat.zero_add,go_sem,hA,hQ,hN];(repeat(refine ndI (by first|assumption|omega|rfl) ?_));(first|apply Q1b)))));(simp(disch:=omega) only[St.eff,setO,Q0u,go_sem,W,Nat.mul_one,Nat.zero_add]))))))
     show AWR _ _ _ _ _
     refine AWR.draw rfl (by kernel_rfl) (by kernel_rfl) (by simp[Q2a,Q5q,St.free,Q1z,AV.refsL,AV.refs,Q0n]) ?_
     intro R hR
     (have W:=ndI j6 (ndI j7 (ndI j8 (ndI k3 (ndI k4 (ndI k5 (ndI t1 (ndI u2 @wrI)))))));(repeat(any_goals(first|((with_reducible refine Q0z ?_ ?_);(apply Q2e);(focus(repeat(first|exact Sims.nil|((apply Sims.cons);(focus(first|((apply Ef.sim_row);assumption)|exact Ef.sim_refl _))))));kernel_rfl;(with_reducible refine hR _ ?_);clear hR R)|((first|((first|((with_reducible apply Q1h);rfl;rfl));(first|((apply Q0y (tu2);rfl;rfl;rfl;rfl;exact Tryz.func199);kernel_rfl;rfl;(focus((simp(disch:=omega) only[go_sem,W,Nat.mul_one,Nat.zero_add]);(try rfl);done));(first|rfl))|((apply Q0y (af);rfl;rfl;rfl;rfl;exact Tryz.func198);kernel_rfl;rfl;(focus((simp(disch:=omega) only[go_sem,W,Nat.mul_one,Nat.zero_add]);(try rfl);done));(first|rfl))|((apply Q0y (ag);rfl;rfl;rfl;rfl;exact Tryz.func198);kernel_rfl;rfl;(focus((simp(disch:=omega) only[go_sem,W,Nat.mul_one,Nat.zero_add]);(try rfl);done));(first|rfl))))|((first|((with_reducible apply Q0x);rfl;rfl));(simp(disch:=omega) only[rdE,rdOf,go_sem,W,Nat.mul_one,Nat.zero_add];rfl);(intro τ hA hQ hN;((try simp only[Q1i,Op.operands,Call.operands,go_sem,W,Nat.mul_one,Nat.zero_add,go_sem,List.mem_cons,List.not_mem_nil,forall_eq_or_imp,forall_eq,List.append_toArray,Option.toArray] at hA);(try simp only[go_sem,W,Nat.mul_one,Nat.zero_add,List.mem_cons,List.not_mem_nil,forall_eq_or_imp,forall_eq] at hQ hN);(first|(revert hA;intro hA));(first|(revert hQ;intro hQ));(first|(revert hN;intro hN));simp(disch:=omega) only[go_sem,W,Nat.mul_one,Nat.zero_add,go_sem,hA,hQ,hN];(repeat(refine ndI (by first|assumption|omega|rfl) ?_));(first|apply Q1b|apply Q4a))))|((first|((with_reducible apply Q6j);rfl));apply opF_turns;rfl;rfl;rfl;(first|omega)));(simp(disch:=omega) only[St.eff,setO,Q0u,go_sem,W,Nat.mul_one,Nat.zero_add]))))))
     exact⟨rfl,Q0g (by simp[leH,hget])⟩
   · simp[Q1d,Q1x,AV.ren]
   · simp[Q1d,Q1x,AV.ren]
   · simp[hget,Q1n,bA]
   · intro r hr q hq h
     simp only[List.map_cons,List.map_nil,List.cons_append,List.nil_append,List.mem_cons,List.not_mem_nil,or_false] at hr hq
     omega
   · simp[Q1r]
   · simp[inH,Q2i]
   · simp only[Q0u,Q1m,renH,AV.ren,AV.renL,Q1n,hput,hdel,hget,Nat.reduceLeDiff,Nat.reduceSub,Nat.reduceEqDiff,↓reduceIte]
     have b1:=Q1y _ (X5q l (cA l 25) 25)
     have b2:(rcV (bA l (cA l 25) 25)).length=25:=by rw[Q1a,X5q]
     rw[hm trivial] at b1 b2 ⊢
     have b3:List.drop 25 (rcV m)=[]:=List.drop_eq_nil_of_le (by omega)
     (have W:=ndI b1 (ndI b2 b3);(repeat(any_goals(first|((with_reducible refine Q0b ?_ ?_);rfl;intro K hK;simp(disch:=omega) only[go_sem,W];((repeat(refine ndI (by first|assumption|rfl) ?_));refine hK _ ?_;clear hK K))|(with_reducible first|(refine Q0c ?_;refine hR _ ?_;clear hR R)|((first|refine Q0e ?_);intro J hJ hJ')|(refine Q0a ?_;intro R hR)|(refine hJ _ ?_;clear hJ hJ' J)|refine Q0j ?_)|((with_reducible refine hJ' _ _ ?_ ?_);(focus(simp;done));clear hJ hJ' J)))))
     all_goals(refine⟨by simp,⟨_,?_,AV.le_refl _⟩,Q0g (by simp[leH,hget])⟩;simp only[Tryz.results196,resL,ldA,Q0m,go_sem,b1];rw[if_pos (by omega)];rfl)
theorem rows_fnE(l m:List UInt64)(hl:l.length=25)(hm:True→rA l 25=m):Fn Tryz.prog 195 [lnA l] [] (lnA m) []:=by
 have r1:=fun d=>Q0n d l
 (refine Q0t Tryz.func195 rfl (by rfl) ?_;simp only[Tryz.ntmps195,List.length_cons,List.length_nil,Nat.reduceAdd,Nat.reduceSub,List.replicate,List.cons_append,List.nil_append])
 (repeat(any_goals(first|((with_reducible refine Q0l ?_ ?_ ?_);rfl;rfl;intro K hK;((apply Q0i (Q9l);rfl;rfl;rfl;rfl;exact Tryz.func197);kernel_rfl;rfl;(focus((simp only[go_sem,r1]);(try rfl);done));(first|rfl));(simp only[go_sem,r1];refine hK _ ?_;clear hK K))|((with_reducible refine Q0b ?_ ?_);rfl;intro K hK;simp only[go_sem,r1];((repeat(refine ndI (by first|assumption) ?_));refine hK _ ?_;clear hK K))|(with_reducible first|(refine Q0c ?_;refine hR _ ?_;clear hR R)|((first|refine Q0e ?_|refine Q0f ?_);intro J hJ hJ')|(refine Q0a ?_;intro R hR)|(refine hJ _ ?_;clear hJ hJ' J)))))
 show AW _ _ _ _
 refine AW.to (St.to.of_le (τ:=⟨[.any,.ptr 1 0,.ptr 2 0,.any,.any,.fn 200 [],.any,.any,.any,.any,.any,.any,.any,.any,.any,.any,.any,.any,.any,.any,.any,.any,.any,.any,.any,.any,.any,.any,.any,.any,.any,.any,.any],[(1,rcV l),(2,rcV (zer 25))]⟩) (St.le_of (by simp[leT]) (by rw[Q4v];simp[leH,hget]))) ?_
 refine AW.range2 (T0:=[.any,.ptr 1001 0,.ptr 1002 0,.any,.any,.any,.any,.any,.any,.any,.any,.any,.any,.any,.any,.any,.any,.any,.any,.any,.any,.any,.any,.any,.any,.any,.any,.any,.any,.any,.any,.any,.any]) (cargs:=[]) (H0:=[(1001,rcV l),(1002,rcV (rA l 0))]) (H1:=[(1001,rcV l),(1002,rcV (rA l 25))]) (res:=.tup []) (fun r=>r-1000) (fun lp=>places2 (fun _=>l) (rA l) rfl lp fun x y hx hy=>X5t rfl ?_) rfl rfl Tryz.func200 (by kernel_rfl) rfl rfl ?_ ?_ ?_ ?_ ?_ rfl ?_ ?_
 · have af:=Z0w x y (by omega) (by omega)
   have ag:=Z0w (x+1) y (by omega) (by omega)
   have ah:=Z0w (x+2) y (by omega) (by omega)
   have e0:5*(y%5)+x%5=5*y+x:=by omega
   have e2:5*(y%5)+(x+1)%5=5*y+(x+1)%5:=by omega
   have e3:5*(y%5)+(x+2)%5=5*y+(x+2)%5:=by omega
   rw[e0] at af
   rw[e2] at ag
   rw[e3] at ah
   have bl:=X4i l (5*y+x)
   have e1:rA l (5*y+x+1)=(rA l (5*y+x)).set (5*y+x) (l.getD (5*y+x) 0 ^^^ (~~~ l.getD (5*y+(x+1)%5) 0 &&& l.getD (5*y+(x+2)%5) 0)):=by
    show(rA l (5*y+x)).set _ _=_
    rw[show(5*y+x)%5=x by omega,show(5*y+x)/5=y by omega]
   rw[e1]
   have hk:5*y+x<25:=by omega
   have hk1:5*y+(x+1)%5<25:=by omega
   have hk2:5*y+(x+2)%5<25:=by omega
   generalize rA l (5*y+x)=b at *
   generalize 5*y+x=k at *
   generalize 5*y+(x+1)%5=p at *
   generalize 5*y+(x+2)%5=q at *
   have j1:(x:Int)+1=((x+1:Nat):Int):=by omega
   have j2:(x:Int)+2=((x+2:Nat):Int):=by omega
   have k1:=Q1l (l:=l) (i:=k) (by omega)
   have k2:=Q1l (l:=l) (i:=p) (by omega)
   have k3:=Q1l (l:=l) (i:=q) (by omega)
   generalize l.getD k 0=lk at *
   generalize l.getD p 0=lp' at *
   generalize l.getD q 0=lq at *
   have u0:=u64_not lp'
   generalize ~~~lp'=n at *
   have u1:=u64_and n lq
   generalize n &&& lq=a at *
   have u2:=Q3y lk a
   generalize lk ^^^ a=z at *
   have k4:=Q3t b k z (by omega)
   have k5:=Q1a b
   have r2:=fun d=>Q0n d (b.set k z)
   have b25:b.length=25:=bl
   simp only[List.set]
   (repeat(any_goals(first|((with_reducible refine Q0b ?_ ?_);rfl;intro K hK;simp only[go_sem];((repeat(refine ndI (by first|assumption) ?_));refine hK _ ?_;clear hK K))|(with_reducible first|(refine Q0c ?_;refine hR _ ?_;clear hR R)|((first|refine Q0e ?_);intro J hJ hJ')|(refine Q0a ?_;intro R hR)|(refine hJ _ ?_;clear hJ hJ' J)))))
   refine⟨rfl,fun ro=>AWR.block (AWR.draw rfl (by kernel_rfl) (by kernel_rfl) (by simp[Q2a,Q5q,St.free,Q1z,AV.refsL,AV.refs,Q0n]) ?_)⟩
   intro R hR
   (have W:=ndI j1 (ndI j2 (ndI k1 (ndI k2 (ndI k3 (ndI k4 (ndI k5 (ndI u0 (ndI u1 (ndI u2 @wrI)))))))));(repeat(any_goals(first|((with_reducible refine Q0z ?_ ?_);(apply Q2e);(focus(repeat(first|exact Sims.nil|((apply Sims.cons);(focus(first|((apply Ef.sim_row);assumption)|exact Ef.sim_refl _))))));kernel_rfl;(with_reducible refine hR _ ?_);clear hR R)|((first|((first|((with_reducible apply Q1h);rfl;rfl));(first|((apply Q0y (af);rfl;rfl;rfl;rfl;exact Tryz.func198);kernel_rfl;rfl;(focus((simp(disch:=omega) only[go_sem,W,Nat.mul_one,Nat.zero_add]);(try rfl);done));(first|rfl))|((apply Q0y (ag);rfl;rfl;rfl;rfl;exact Tryz.func198);kernel_rfl;rfl;(focus((simp(disch:=omega) only[go_sem,W,Nat.mul_one,Nat.zero_add]);(try rfl);done));(first|rfl))|((apply Q0y (ah);rfl;rfl;rfl;rfl;exact Tryz.func198);kernel_rfl;rfl;(focus((simp(disch:=omega) only[go_sem,W,Nat.mul_one,Nat.zero_add]);(try rfl);done));(first|rfl))))|((first|((with_reducible apply Q0x);rfl;rfl));(simp(disch:=omega) only[rdE,rdOf,go_sem,W,Nat.mul_one,Nat.zero_add];rfl);(intro τ hA hQ hN;((try simp only[Q1i,Op.operands,Call.operands,go_sem,W,Nat.mul_one,Nat.zero_add,go_sem,List.mem_cons,List.not_mem_nil,forall_eq_or_imp,forall_eq,List.append_toArray,Option.toArray] at hA);(try simp only[go_sem,W,Nat.mul_one,Nat.zero_add,List.mem_cons,List.not_mem_nil,forall_eq_or_imp,forall_eq] at hQ hN);(first|(revert hA;intro hA));(first|(revert hQ;intro hQ));(first|(revert hN;intro hN));simp(disch:=omega) only[go_sem,W,Nat.mul_one,Nat.zero_add,go_sem,hA,hQ,hN];(repeat(refine ndI (by first|assumption|omega|rfl) ?_));(first|apply Q1b|apply Q4a)))));(simp(disch:=omega) only[St.eff,setO,Q0u,go_sem,W,Nat.mul_one,Nat.zero_add]))))))
   exact⟨rfl,Q0g (by simp[leH,hget])⟩
 · simp[Q1d,Q1x,AV.ren]
 · simp[Q1d,Q1x,AV.ren]
 · simp[hget,Q1n,rA]
 · intro r hr q hq h
   simp only[List.map_cons,List.map_nil,List.cons_append,List.nil_append,List.mem_cons,List.not_mem_nil,or_false] at hr hq
   omega
 · simp[Q1r]
 · simp[inH,Q2i]
 · simp only[Q0u,Q1m,renH,AV.ren,AV.renL,Q1n,hput,hdel,hget,Nat.reduceLeDiff,Nat.reduceSub,Nat.reduceEqDiff,↓reduceIte]
   have b1:=Q1y _ (X4i l 25)
   have b2:(rcV (rA l 25)).length=25:=by rw[Q1a,X4i]
   rw[hm trivial] at b1 b2 ⊢
   have b3:List.drop 25 (rcV m)=[]:=List.drop_eq_nil_of_le (by omega)
   (have W:=ndI b1 (ndI b2 b3);(repeat(any_goals(first|((with_reducible refine Q0b ?_ ?_);rfl;intro K hK;simp(disch:=omega) only[go_sem,W];((repeat(refine ndI (by first|assumption|rfl) ?_));refine hK _ ?_;clear hK K))|(with_reducible first|(refine Q0c ?_;refine hR _ ?_;clear hR R)|((first|refine Q0e ?_);intro J hJ hJ')|(refine Q0a ?_;intro R hR)|(refine hJ _ ?_;clear hJ hJ' J)|refine Q0j ?_)|((with_reducible refine hJ' _ _ ?_ ?_);(focus(simp;done));clear hJ hJ' J)))))
   all_goals(refine⟨by simp,⟨_,?_,AV.le_refl _⟩,Q0g (by simp[leH,hget])⟩;simp only[Tryz.results195,resL,ldA,Q0m,go_sem,b1];rw[if_pos (by omega)];rfl)
theorem rows_fn(l:List UInt64)(hl:l.length=25):Fn Tryz.prog 195 [lnA l] [] (lnA (X6c l)) []:=rows_fnE l _ hl fun _=>rfl
theorem mix_fn(l:List UInt64)(hl:l.length=25):Fn Tryz.prog 196 [lnA l] [] (lnA (mixC l)) []:=mix_fnE l _ hl fun _=>rfl
end
section
open Go.RowKit
open Nat (reduceBEq)
set_option maxRecDepth 20000
set_option maxHeartbeats 2000000
attribute [local simp] Q2i Q0n Q1n
theorem X2j(l:List UInt64):(mixC l).length=25:=X5q _ _ _
theorem X3y(l:List UInt64):(X6c l).length=25:=X4i _ _
def X0w(l:List UInt64)(n:UInt64):List UInt64:=(X6c (mixC l)).set 0 ((X6c (mixC l)).getD 0 0 ^^^ n)
theorem X9y(l:List UInt64)(n:UInt64):(X0w l n).length=25:=by unfold X0w;rw[List.length_set,X3y]
theorem round_fnE(l p m:List UInt64)(n:UInt64)(hl:l.length=25)(pl:p.length=25)(ml:m.length=25)
 (mx:Fn Tryz.prog 196 [lnA l] [] (lnA p) []) (rw':Fn Tryz.prog 195 [lnA p] [] (lnA m) []) :
 Fn Tryz.prog 193 [lnA l,lvA n] [] (lnA (m.set 0 (m.getD 0 0 ^^^ n))) []:=by
 have r1:=fun d=>Q0n d l
 have b1:List.take 25 (rcV l)=rcV l:=Q1y l hl
 have b2:List.drop 25 (rcV l)=[]:=List.drop_eq_nil_of_le (by rw[Q1a];omega)
 have b3:(rcV l).length=25:=by rw[Q1a];exact hl
 have c1:List.take 25 (rcV m)=rcV m:=Q1y m ml
 have c3:(rcV m).length=25:=by rw[Q1a];exact ml
 have k1:=Q1l (l:=m) (i:=0) (by omega)
 have k4:=Q3t m 0 (m.getD 0 0 ^^^ n) (by omega)
 have hs:(m.set 0 (m.getD 0 0 ^^^ n)).length=25:=by rw[List.length_set];exact ml
 generalize m.getD 0 0=m0 at *
 have u1:=Q3y m0 n
 generalize m0 ^^^ n=z at *
 generalize m.set 0 z=q at *
 have d1:List.take 25 (rcV q)=rcV q:=Q1y q hs
 have d3:(rcV q).length=25:=by rw[Q1a];exact hs
 have d2:List.drop 25 (rcV q)=[]:=List.drop_eq_nil_of_le (by omega)
 (refine Q0t Tryz.func193 rfl (by rfl) ?_;simp only[Tryz.ntmps193,List.length_cons,List.length_nil,Nat.reduceAdd,Nat.reduceSub,List.replicate,List.cons_append,List.nil_append])
 (have W:=ndI r1 (ndI b1 (ndI b2 (ndI b3 (ndI c1 (ndI c3 (ndI k1 (ndI k4 (ndI u1 (ndI d1 (ndI d2 d3))))))))));(repeat(any_goals(first|((with_reducible refine Q0l ?_ ?_ ?_);rfl;rfl;intro K hK;((first|(apply Q0i (mx);rfl;rfl;rfl;rfl;exact Tryz.func196)|(apply Q0i (rw');rfl;rfl;rfl;rfl;exact Tryz.func195));kernel_rfl;rfl;(focus((simp(disch:=omega) only[go_sem,W,Q0n]);(try rfl);done));(first|simp[AV.inNL,AV.inN]));(simp(disch:=omega) only[go_sem,W,Q0n];refine hK _ ?_;clear hK K))|((with_reducible refine Q0b ?_ ?_);rfl;intro K hK;simp(disch:=omega) only[go_sem,W,Q0n];((repeat(refine ndI (by first|assumption|omega|rfl) ?_));refine hK _ ?_;clear hK K))|(with_reducible first|(refine Q0c ?_;refine hR _ ?_;clear hR R)|((first|refine Q0e ?_);intro J hJ hJ')|(refine Q0a ?_;intro R hR)|(refine hJ _ ?_;clear hJ hJ' J)|refine Q0j ?_)))))
 all_goals(refine⟨by simp,⟨_,?_,AV.le_refl _⟩,Q0g (by simp[leH,hget])⟩;simp only[Tryz.results193,resL,ldA,Q0m,go_sem,d1];rw[if_pos (by omega)];rfl)
theorem round_fn(l:List UInt64)(n:UInt64)(hl:l.length=25):Fn Tryz.prog 193 [lnA l,lvA n] [] (lnA (X0w l n)) []:=
 round_fnE l (mixC l) (X6c (mixC l)) n hl (X2j l) (X3y _) (mix_fn l hl) (rows_fn _ (X2j l))
def numU(k:Nat):UInt64:=UInt64.ofNat (Z0i.getD k 0).toNat
def numsP:List PV:=Z0i.map fun n=>.v (.int .u64 n)
theorem gev_nums:gev 0 = .ep numsP:=rfl
def numsA:List AV:=(numsP.take 24).map .c
theorem nums_at(k:Nat)(h:k<24):numsA[k]? = some (lvA (numU k)):=by
 have key:∀k:Fin 24,Z0i[k.1]? = some ((numU k.1).toNat:Int):=by decide
 have h2:=key ⟨k,h⟩
 dsimp only at h2
 unfold numsA numsP
 rw[List.take_of_length_le (by decide),List.map_map,List.getElem?_map,h2]
 rfl
theorem numsP_len:numsP.length=24:=rfl
def pC(l:List UInt64):Nat→List UInt64
 |0=>l
 |k+1=>X0w (pC l k) (numU k)
theorem X8h(l:List UInt64)(hl:l.length=25):∀k,(pC l k).length=25
 |0=>hl
 |k+1=>X9y _ _
def Z0g(l:List UInt64):List UInt64:=pC l 24
theorem X6f(d:Nat):AV.refsL d numsA=false:=Q0o d _
theorem perm_fnE(P:Nat→List UInt64)(nu:Nat→UInt64)(A:List AV)(eA:(numsP.take 24).map .c=A)(rA':∀d,AV.refsL d A=false)(nA:∀i,i<24→A[i]? = some (lvA (nu i)))(lP:∀k,(P k).length=25)
 (rd:∀i,i<24→Fn Tryz.prog 193 [lnA (P i),lvA (nu i)] [] (lnA (P (i+1))) []):Fn Tryz.prog 187 [lnA (P 0)] [] (lnA (P 24)) []:=by
 have r1:=fun k d=>Q0n d (P k)
 have e2:=numsP_len
 (refine Q0t Tryz.func187 rfl (by rfl) ?_;simp only[Tryz.ntmps187,List.length_cons,List.length_nil,Nat.reduceAdd,Nat.reduceSub,List.replicate,List.cons_append,List.nil_append])
 (repeat(any_goals(first|((with_reducible refine Q0b ?_ ?_);rfl;intro K hK;simp(disch:=omega) only[go_sem,r1,eA,e2,gev_nums,Q0n];((repeat(refine ndI (by first|assumption|rfl) ?_));refine hK _ ?_;clear hK K))|(with_reducible first|(refine Q0c ?_;refine hR _ ?_;clear hR R)|((first|refine Q0e ?_|refine Q0f ?_);intro J hJ hJ')|(refine Q0a ?_;intro R hR)|(refine hJ _ ?_;clear hJ hJ' J)))))
 clear eA e2
 refine Q1t 24 (fun i=>⟨[lnA (P 0),.ptr 1 0,.ptr 2 0,.any,.any,.agg A,vi .i64 (i:Int),.any,.any,.any,.any,.any,.any,.any],[(1,rcV (P i)),(2,rcV (zer 25))]⟩) (St.le_of (by simp[leT]) (by simp[leH,hget];rfl)) ?_
 intro i hi J hJ hJ'
 by_cases hlt:i<24
 · have na:=nA i hlt
   have rf:=rd i hlt
   have b1:List.take 25 (rcV (P (i+1)))=rcV (P (i+1)):=Q1y _ (lP _)
   have b2:(rcV (P (i+1))).length=25:=by rw[Q1a];exact lP _
   have b3:List.drop 25 (rcV (P i))=[]:=List.drop_eq_nil_of_le (by rw[Q1a,lP];omega)
   have b4:List.take 25 (rcV (P i))=rcV (P i):=Q1y _ (lP i)
   have b5:(rcV (P i)).length=25:=by rw[Q1a];exact lP i
   clear rd nA lP r1
   have hd:decide ((i:Int)<24)=true:=by simp;omega
   (have W:=ndI b1 (ndI b2 (ndI b3 (ndI b4 (ndI b5 @wrI))));(repeat(any_goals(first|((with_reducible refine Q0l ?_ ?_ ?_);rfl;rfl;intro K hK;((apply Q0i (rf);rfl;rfl;rfl;rfl;exact Tryz.func193);kernel_rfl;rfl;(focus((simp(disch:=omega) only[go_sem,W,hd,rA',na,Q0n,Nat.mul_one,Int.toNat_natCast]);(try rfl);done));(first|simp[AV.inNL,AV.inN]));(simp(disch:=omega) only[go_sem,W,hd,rA',na,Q0n,Nat.mul_one,Int.toNat_natCast];refine hK _ ?_;clear hK K))|((with_reducible refine Q0b ?_ ?_);rfl;intro K hK;simp(disch:=omega) only[go_sem,W,hd,rA',na,Q0n,Nat.mul_one,Int.toNat_natCast];((repeat(refine ndI (by first|assumption|omega|rfl) ?_));refine hK _ ?_;clear hK K))|(with_reducible first|(refine Q0c ?_;refine hR _ ?_;clear hR R)|((first|refine Q0e ?_|refine Q0f ?_);intro J hJ hJ')|(refine Q0a ?_;intro R hR)|(refine hJ _ ?_;clear hJ hJ' J)|refine Q0h ?_)|((with_reducible refine hJ' _ _ ?_ ?_);(focus(simp;done));clear hJ hJ' J)|((with_reducible apply Q0d);rfl;rfl;all_goals(intro hc;first|(cases hc;done)|(try simp only at hc)))))))
   exact hJ _ (by omega) (St.le_of (by simp[leT]) (by simp[leH,hget]))
 · have hi24:i=24:=by omega
   subst hi24
   have b1:List.take 25 (rcV (P 24))=rcV (P 24):=Q1y _ (lP _)
   have b2:(rcV (P 24)).length=25:=by rw[Q1a];exact lP _
   have z1:List.drop 25 (rcV (zer 25))=[]:=List.drop_eq_nil_of_le (by rw[Q1a,Q5f];omega)
   have z2:(rcV (zer 25)).length=25:=by rw[Q1a,Q5f]
   generalize zer 25=z at *
   clear rd nA lP r1
   (have W:=ndI b1 (ndI b2 (ndI z1 z2));(repeat(any_goals(first|((with_reducible refine Q0b ?_ ?_);rfl;intro K hK;simp(disch:=omega) only[go_sem,W,Q0n];((repeat(refine ndI (by first|assumption|rfl) ?_));refine hK _ ?_;clear hK K))|(with_reducible first|(refine Q0c ?_;refine hR _ ?_;clear hR R)|((first|refine Q0e ?_);intro J hJ hJ')|(refine Q0a ?_;intro R hR)|(refine hJ _ ?_;clear hJ hJ' J)|refine Q0j ?_|refine Q0q ?_)|((with_reducible refine hJ' _ _ ?_ ?_);(focus(simp;done));clear hJ hJ' J)|((with_reducible apply Q0d);rfl;rfl;all_goals(intro hc;first|(cases hc;done)|(try simp only at hc)))))))
   all_goals(refine⟨by simp,⟨_,?_,AV.le_refl _⟩,Q0g (by simp[leH,hget])⟩;simp only[Tryz.results187,resL,ldA,Q0m,go_sem,b1];rw[if_pos (by omega)];rfl)
theorem perm_fn(l:List UInt64)(hl:l.length=25):Fn Tryz.prog 187 [lnA l] [] (lnA (Z0g l)) []:=
 perm_fnE (pC l) numU numsA rfl X6f nums_at (X8h l hl) fun i _=>round_fn _ _ (X8h l hl i)
end
section
open Go.RowKit
open Nat (reduceBEq)
set_option maxRecDepth 20000
set_option maxHeartbeats 2000000
attribute [local simp] Q2i Q0n Q1n
theorem X3z(x:UInt64):rotU x 0=x:=by
 have hx:=x.toNat_lt
 unfold rotU
 rw[Nat.pow_zero,Nat.mul_one,Nat.mod_eq_of_lt hx,show x.toNat/2 ^ (64-0)=0 from Nat.div_eq_of_lt hx]
 simp
theorem left_fn(x:UInt64)(n:Nat)(hn:n<1000):Fn Tryz.prog 194 [lvA x,vi .i64 (n:Int)] [] (lvA (rotU x (n%64))) []:=by
 have k1:Int.tmod (n:Int) 64=((n%64:Nat):Int):=by rw[Int.tmod_eq_emod_of_nonneg (by omega)];omega
 have hm:n%64<64:=Nat.mod_lt _ (by decide)
 by_cases h0:n%64=0
 · rw[h0] at k1
   rw[h0,X3z]
   (refine Q0t Tryz.func194 rfl (by rfl) ?_;simp only[Tryz.ntmps194,List.length_cons,List.length_nil,Nat.reduceAdd,Nat.reduceSub,List.replicate,List.cons_append,List.nil_append])
   (repeat(any_goals(first|((with_reducible refine Q0b ?_ ?_);rfl;intro K hK;simp(disch:=omega) only[go_sem,k1,wrI];((repeat(refine ndI (by first|assumption|rfl) ?_));refine hK _ ?_;clear hK K))|(with_reducible first|(refine Q0c ?_;refine hR _ ?_;clear hR R)|((first|refine Q0e ?_);intro J hJ hJ')|(refine Q0a ?_;intro R hR)|(refine hJ _ ?_;clear hJ hJ' J)|refine Q0j ?_)|((with_reducible refine hJ' _ _ ?_ ?_);(focus(simp;done));clear hJ hJ' J)|((with_reducible apply Q0d);rfl;rfl;all_goals(intro hc;first|(cases hc;done)|(try simp only at hc))))))
   all_goals(refine⟨by simp,⟨_,?_,AV.le_refl _⟩,Q0g (by simp[leH,hget])⟩;simp only[Tryz.results194,resL,ldA,Q0m,go_sem])
 · generalize n%64=m at *
   have hx:=x.toNat_lt
   have k2:(64-(m:Int))=((64-m:Nat):Int):=by omega
   have k3:IntKind.u64.wrap ((x.toNat:Int)*2 ^ min m 64)=((UInt64.ofNat (x.toNat*2 ^ m%18446744073709551616)).toNat:Int):=by
    rw[Nat.min_eq_left (by omega),show((x.toNat:Int)*2 ^ m)=((x.toNat*2 ^ m:Nat):Int) by push_cast;rfl,u64w,UInt64.toNat_ofNat_of_lt' (by exact Nat.mod_lt _ (by decide))]
   have k4:Int.fdiv (x.toNat:Int) (2 ^ min (64-m) 64)=((UInt64.ofNat (x.toNat/2 ^ (64-m))).toNat:Int):=by
    rw[Nat.min_eq_left (by omega),UInt64.toNat_ofNat_of_lt' (by exact Nat.lt_of_le_of_lt (Nat.div_le_self _ _) hx),show((2:Int) ^ (64-m))=((2 ^ (64-m):Nat):Int) by push_cast;rfl]
    rw[Int.fdiv_eq_ediv_of_nonneg _ (Int.natCast_nonneg _)]
    rfl
   have k5:=X7m (UInt64.ofNat (x.toNat*2 ^ m%18446744073709551616)) (UInt64.ofNat (x.toNat/2 ^ (64-m)))
   have kb:IntKind.u64.bits=64:=rfl
   have k6:((m:Int)==0)=false:=by simp;omega
   have e:rotU x m=UInt64.ofNat (x.toNat*2 ^ m%18446744073709551616) ||| UInt64.ofNat (x.toNat/2 ^ (64-m)):=rfl
   rw[e]
   generalize UInt64.ofNat (x.toNat*2 ^ m%18446744073709551616)=p at *
   generalize UInt64.ofNat (x.toNat/2 ^ (64-m))=q at *
   (refine Q0t Tryz.func194 rfl (by rfl) ?_;simp only[Tryz.ntmps194,List.length_cons,List.length_nil,Nat.reduceAdd,Nat.reduceSub,List.replicate,List.cons_append,List.nil_append])
   (have W:=ndI k1 (ndI k2 (ndI k3 (ndI k4 (ndI k5 (ndI k6 (ndI kb @wrI))))));(repeat(any_goals(first|((with_reducible refine Q0b ?_ ?_);rfl;intro K hK;simp(disch:=omega) only[go_sem,W];((repeat(refine ndI (by first|assumption|rfl) ?_));refine hK _ ?_;clear hK K))|(with_reducible first|(refine Q0c ?_;refine hR _ ?_;clear hR R)|((first|refine Q0e ?_);intro J hJ hJ')|(refine Q0a ?_;intro R hR)|(refine hJ _ ?_;clear hJ hJ' J)|refine Q0h ?_|refine Q0j ?_)|((with_reducible apply Q0d);rfl;rfl;all_goals(intro hc;first|(cases hc;done)|(try simp only at hc)))|((with_reducible refine Q0z ?_ ?_);kernel_rfl;(with_reducible refine hR _ ?_);clear hR R)|(((with_reducible apply Q0x);rfl;rfl;(simp(disch:=omega) only[rdE,rdOf,go_sem,W];rfl);(intro τ hA hQ hN;((try simp only[Q1i,Op.operands,Call.operands,go_sem,W,go_sem,List.mem_cons,List.not_mem_nil,forall_eq_or_imp,forall_eq,List.append_toArray,Option.toArray] at hA);(try simp only[go_sem,W,List.mem_cons,List.not_mem_nil,forall_eq_or_imp,forall_eq] at hQ hN);(first|(revert hA;intro hA));(first|(revert hQ;intro hQ));(first|(revert hN;intro hN));simp(disch:=omega) only[go_sem,W,go_sem,hA,hQ,hN];(repeat(refine ndI (by first|assumption|rfl) ?_));(first|apply Q1b))));(simp(disch:=omega) only[St.eff,setO,Q0u,go_sem,W]))|((with_reducible refine Q0w ?_ ?_ ?_ ?_);kernel_rfl;kernel_rfl;(first|kernel_rfl);intro R hR)))))
   all_goals(refine⟨by simp,⟨_,?_,AV.le_refl _⟩,Q0g (by simp[leH,hget])⟩;simp only[Tryz.results194,resL,ldA,Q0m,go_sem])
def dA(l c:List UInt64):Nat→List UInt64
 |0=>l
 |k+1=>(dA l c k).set k ((dA l c k).getD k 0 ^^^ (c.getD ((k%5+4)%5) 0 ^^^ rotU (c.getD ((k%5+1)%5) 0) 1))
theorem X9d(l c:List UInt64):∀k,(dA l c k).length=l.length
 |0=>rfl
 |k+1=>by unfold dA;rw[List.length_set,X9d l c k]
def pqA:Nat→Nat×Nat
 |0=>(1,0)
 |k+1=>((pqA k).2,(2*(pqA k).1+3*(pqA k).2)%5)
theorem pqA_lt:∀k,(pqA k).1<5∧(pqA k).2<5
 |0=>by decide
 |k+1=>by have:=pqA_lt k;exact⟨this.2,Nat.mod_lt _ (by decide)⟩
def ixA(k:Nat):Nat:=5*(pqA (k+1)).2+(pqA (k+1)).1
theorem ixA_lt(k:Nat):ixA k<25:=by have:=pqA_lt (k+1);unfold ixA;omega
def tA(m:List UInt64):Nat→UInt64×List UInt64
 |0=>(m.getD 1 0,m)
 |k+1=>((tA m k).2.getD (ixA k) 0,(tA m k).2.set (ixA k) (rotU (tA m k).1 ((k+1)*(k+2)/2%64)))
theorem X7o(m:List UInt64):∀k,(tA m k).2.length=m.length
 |0=>rfl
 |k+1=>by unfold tA;rw[List.length_set,X7o m k]
def mixR(l:List UInt64):List UInt64:=(tA (dA l (cA l 25) 25) 24).2
theorem rmix_fnE(l:List UInt64)(C D:Nat→List UInt64)(U:Nat→UInt64)(V:Nat→List UInt64)(hl:l.length=25)
 (C0:C 0=zer 5) (cl:∀k,(C k).length=5) (cs:∀k,C (k+1)=(C k).set (k%5) ((C k).getD (k%5) 0 ^^^ l.getD k 0))
 (D0:D 0=l) (dl:∀k,(D k).length=25) (ds:∀k,D (k+1)=(D k).set k ((D k).getD k 0 ^^^ ((C 25).getD ((k%5+4)%5) 0 ^^^ rotU ((C 25).getD ((k%5+1)%5) 0) 1)))
 (U0:U 0=(D 25).getD 1 0) (V0:V 0=D 25) (vl:∀k,(V k).length=25) (us:∀k,U (k+1)=(V k).getD (ixA k) 0) (vs:∀k,V (k+1)=(V k).set (ixA k) (rotU (U k) ((k+1)*(k+2)/2%64))) :
 Fn Tryz.prog 190 [lnA l] [] (lnA (V 24)) []:=by
 have r1:=fun d=>Q0n d l
 (refine Q0t Tryz.func190 rfl (by rfl) ?_;simp only[Tryz.ntmps190,List.length_cons,List.length_nil,Nat.reduceAdd,Nat.reduceSub,List.replicate,List.cons_append,List.nil_append])
 have b1:List.take 25 (rcV l)=rcV l:=Q1y _ hl
 have b2:(rcV l).length=25:=by rw[Q1a];exact hl
 (have W:=ndI r1 (ndI b1 b2);(repeat(any_goals(first|((with_reducible refine Q0b ?_ ?_);rfl;intro K hK;simp(disch:=omega) only[go_sem,W];((repeat(refine ndI (by first|assumption|rfl) ?_));refine hK _ ?_;clear hK K))|(with_reducible first|(refine Q0c ?_;refine hR _ ?_;clear hR R)|((first|refine Q0e ?_|refine Q0f ?_);intro J hJ hJ')|(refine Q0a ?_;intro R hR)|(refine hJ _ ?_;clear hJ hJ' J))))))
 clear r1 b1
 refine Q1t 25 (fun i=>⟨[lnA l,.ptr 1 0,.ptr 2 0,.ptr 3 0,.any,.any,.any,.any,.any,.any,.any,.any,.agg (rcV l),vi .i64 (i:Int),.any,.any,.any,.any,.any,.any,.any,.any,.any,.any,.any,.any,.any,.any,.any,.any,.any,.any,.any,.any,.any,.any,.any,.any,.any,.any,.any,.any,.any,.any,.any,.any,.any,.any,.any,.any,.any,.any,.any,.any,.any,.any,.any,.any,.any,.any,.any,.any,.any,.any,.any,.any,.any,.any,.any,.any,.any,.any,.any,.any,.any,.any,.any,.any,.any,.any,.any],[(1,rcV l),(2,rcV (zer 25)),(3,rcV (C i))]⟩) (St.le_of (by simp[leT]) (by rw[C0,Q4v,X7x];simp[leH,hget])) ?_
 intro i hi J hJ hJ'
 by_cases hlt:i<25
 · obtain⟨cx,hcx⟩:∃c,(C i).getD (i%5) 0=c:=⟨_,rfl⟩
   obtain⟨lk,hlk⟩:∃c,l.getD i 0=c:=⟨_,rfl⟩
   have k1:=Q1l (l:=C i) (i:=i%5) (by rw[cl];omega)
   have k2:=Q1l (l:=l) (i:=i) (by omega)
   have k3:=Q3y cx lk
   have k4:=Q3t (C i) (i%5) (cx ^^^ lk) (by rw[cl];omega)
   have k5:=cs i
   rw[hcx,hlk] at k5
   rw[←k5] at k4
   rw[hcx] at k1
   rw[hlk] at k2
   have j1:Int.tmod (i:Int) 5=((i%5:Nat):Int):=by rw[Int.tmod_eq_emod_of_nonneg (by omega)];omega
   have k6:(rcV (C i)).length=5:=by rw[Q1a,cl]
   have hd:decide ((i:Int)<25)=true:=by simp;omega
   have m1:i%5<5:=by omega
   clear k5 hcx hlk hl C0 cl cs D0 dl ds U0 V0 vl us vs
   (have W:=ndI b2 (ndI k1 (ndI k2 (ndI k3 (ndI k4 (ndI k6 (ndI j1 @wrI))))));(repeat(any_goals(first|((with_reducible refine Q0b ?_ ?_);rfl;intro K hK;simp(disch:=omega) only[go_sem,W,hd,Nat.mul_one,Int.toNat_natCast,Nat.zero_add];((repeat(refine ndI (by first|assumption|omega|rfl) ?_));refine hK _ ?_;clear hK K))|(with_reducible first|(refine Q0c ?_;refine hR _ ?_;clear hR R)|((first|refine Q0e ?_|refine Q0f ?_);intro J hJ hJ')|(refine Q0a ?_;intro R hR)|(refine hJ _ ?_;clear hJ hJ' J)|refine Q0h ?_)|((with_reducible refine hJ' _ _ ?_ ?_);(focus(simp;done));clear hJ hJ' J)|((with_reducible apply Q0d);rfl;rfl;all_goals(intro hc;first|(cases hc;done)|(try simp only at hc)))))))
   exact hJ _ (by omega) (St.le_of (by simp[leT]) (by simp[leH,hget]))
 · have hi25:i=25:=by omega
   subst hi25
   have cl':=cl 25
   obtain⟨c,hc⟩:∃c,C 25=c:=⟨_,rfl⟩
   rw[hc] at cl' ⊢
   simp only[hc] at ds
   clear C0 cs cl hlt
   (repeat(any_goals(first|((with_reducible refine Q0b ?_ ?_);rfl;intro K hK;simp(disch:=omega) only[go_sem];((repeat(refine ndI (by first|assumption|rfl) ?_));refine hK _ ?_;clear hK K))|(with_reducible first|(refine Q0c ?_;refine hR _ ?_;clear hR R)|((first|refine Q0e ?_|refine Q0f ?_);intro J hJ hJ')|(refine Q0a ?_;intro R hR)|(refine hJ _ ?_;clear hJ hJ' J)|refine Q0q ?_)|((with_reducible refine hJ' _ _ ?_ ?_);(focus(simp;done));clear hJ hJ' J)|((with_reducible apply Q0d);rfl;rfl;all_goals(intro hc;first|(cases hc;done)|(try simp only at hc))))))
   refine Q1t 25 (fun i=>⟨[lnA l,.ptr 1 0,.ptr 2 0,.ptr 3 0,.any,.any,.any,.any,.any,.any,.any,.any,.any,.any,.any,.any,.any,.any,.any,.any,.any,.any,.any,.any,.any,vi .i64 (i:Int),.any,.any,.any,.any,.any,.any,.any,.any,.any,.any,.any,.any,.any,.any,.any,.any,.any,.any,.any,.any,.any,.any,.any,.any,.any,.any,.any,.any,.any,.any,.any,.any,.any,.any,.any,.any,.any,.any,.any,.any,.any,.any,.any,.any,.any,.any,.any,.any,.any,.any,.any,.any,.any,.any,.any],[(1,rcV (D i)),(2,rcV (zer 25)),(3,rcV c)]⟩) (St.le_of (by simp[leT]) (by rw[D0];simp[leH,hget])) ?_
   intro i hi J hJ hJ'
   by_cases hlt:i<25
   · obtain⟨cx,hcx⟩:∃q,c.getD ((i%5+4)%5) 0=q:=⟨_,rfl⟩
     obtain⟨cy,hcy⟩:∃q,c.getD ((i%5+1)%5) 0=q:=⟨_,rfl⟩
     obtain⟨lk,hlk⟩:∃q,(D i).getD i 0=q:=⟨_,rfl⟩
     have lf:=left_fn cy 1 (by omega)
     obtain⟨ry,hry⟩:∃q,rotU cy 1=q:=⟨_,rfl⟩
     rw[show 1%64=1 from rfl,hry] at lf
     have k1:=Q1l (l:=c) (i:=(i%5+4)%5) (by omega)
     have k2:=Q1l (l:=c) (i:=(i%5+1)%5) (by omega)
     have k3:=Q1l (l:=D i) (i:=i) (by rw[dl];omega)
     have k5:=ds i
     rw[hcx,hcy,hlk,hry] at k5
     rw[hcx] at k1
     rw[hcy] at k2
     rw[hlk] at k3
     have u1:=Q3y cx ry
     have u2:=Q3y lk (cx ^^^ ry)
     have k4:=Q3t (D i) i (lk ^^^ (cx ^^^ ry)) (by rw[dl];omega)
     rw[←k5] at k4
     have k6:(rcV (D i)).length=25:=by rw[Q1a,dl]
     have k7:(rcV c).length=5:=by rw[Q1a,cl']
     have j1:Int.tmod (i:Int) 5=((i%5:Nat):Int):=by rw[Int.tmod_eq_emod_of_nonneg (by omega)];omega
     have j2:((i%5:Nat):Int)+4=((i%5+4:Nat):Int):=by omega
     have j3:((i%5:Nat):Int)+1=((i%5+1:Nat):Int):=by omega
     have j4:Int.tmod ((i%5+4:Nat):Int) 5=(((i%5+4)%5:Nat):Int):=by rw[Int.tmod_eq_emod_of_nonneg (by omega)];omega
     have j5:Int.tmod ((i%5+1:Nat):Int) 5=(((i%5+1)%5:Nat):Int):=by rw[Int.tmod_eq_emod_of_nonneg (by omega)];omega
     have hd:decide ((i:Int)<25)=true:=by simp;omega
     clear k5 hcx hcy hlk hry hl D0 dl ds U0 V0 vl us vs
     generalize lk ^^^ (cx ^^^ ry)=z at k4 u2
     generalize cx ^^^ ry=cr at u1 u2
     (have W:=ndI k1 (ndI k2 (ndI k3 (ndI k4 (ndI k6 (ndI k7 (ndI j1 (ndI j2 (ndI j3 (ndI j4 (ndI j5 (ndI u1 (ndI u2 @wrI))))))))))));(repeat(any_goals(first|((with_reducible refine Q0b ?_ ?_);rfl;intro K hK;simp(disch:=omega) only[go_sem,W,hd,Nat.mul_one,Int.toNat_natCast,Nat.zero_add];((repeat(refine ndI (by first|assumption|rfl) ?_));refine hK _ ?_;clear hK K))|(with_reducible first|(refine Q0c ?_;refine hR _ ?_;clear hR R)|((first|refine Q0e ?_|refine Q0f ?_);intro J hJ hJ')|(refine Q0a ?_;intro R hR)|(refine hJ _ ?_;clear hJ hJ' J)|refine Q0h ?_)|((with_reducible refine hJ' _ _ ?_ ?_);(focus(simp;done));clear hJ hJ' J)|((with_reducible apply Q0d);rfl;rfl;all_goals(intro hc;first|(cases hc;done)|(try simp only at hc)))|((with_reducible refine Q0z ?_ ?_);(apply Q2e);(focus(repeat(first|exact Sims.nil|((apply Sims.cons);(focus(first|exact Ef.sim_refl _))))));kernel_rfl;(with_reducible refine hR _ ?_);clear hR R)|((first|((first|((with_reducible apply Q1h);rfl;rfl));((apply Q0y (lf);rfl;rfl;rfl;rfl;exact Tryz.func194);kernel_rfl;rfl;(focus((simp(disch:=omega) only[go_sem,W,hd,Nat.mul_one,Int.toNat_natCast,Nat.zero_add]);(try rfl);done));(first|rfl)))|((first|((with_reducible apply Q0x);rfl;rfl));(simp(disch:=omega) only[rdE,rdOf,go_sem,W,hd,Nat.mul_one,Int.toNat_natCast,Nat.zero_add];rfl);(intro τ hA hQ hN;((try simp only[Q1i,Op.operands,Call.operands,go_sem,W,hd,Nat.mul_one,Int.toNat_natCast,Nat.zero_add,go_sem,List.mem_cons,List.not_mem_nil,forall_eq_or_imp,forall_eq,List.append_toArray,Option.toArray] at hA);(try simp only[go_sem,W,hd,Nat.mul_one,Int.toNat_natCast,Nat.zero_add,List.mem_cons,List.not_mem_nil,forall_eq_or_imp,forall_eq] at hQ hN);(first|(revert hA;intro hA));(first|(revert hQ;intro hQ));(first|(revert hN;intro hN));simp(disch:=omega) only[go_sem,W,hd,Nat.mul_one,Int.toNat_natCast,Nat.zero_add,go_sem,hA,hQ,hN];(repeat(refine ndI (by first|assumption|omega|rfl) ?_));(first|apply Q1b|apply Q4a)))));(simp(disch:=omega) only[St.eff,setO,Q0u,go_sem,W,hd,Nat.mul_one,Int.toNat_natCast,Nat.zero_add]))|((with_reducible refine Q0w ?_ ?_ ?_ ?_);kernel_rfl;kernel_rfl;(simp[Q2a,Q5q,St.free,Q1z,AV.refsL,AV.refs,Q0n]);intro R hR)))))
     exact hJ _ (by omega) (St.le_of (by simp[leT]) (by simp[leH,hget]))
   · have hi25:i=25:=by omega
     subst hi25
     have k1:=Q1l (l:=V 0) (i:=1) (by rw[vl];omega)
     have k6:(rcV (V 0)).length=25:=by rw[Q1a,vl]
     rw[show(V 0).getD 1 0=U 0 by rw[U0,V0]] at k1
     rw[←V0]
     clear D0 ds dl U0 V0 hlt
     (repeat(any_goals(first|((with_reducible refine Q0b ?_ ?_);rfl;intro K hK;simp(disch:=omega) only[go_sem,k1,k6];((repeat(refine ndI (by first|assumption|omega|rfl) ?_));refine hK _ ?_;clear hK K))|(with_reducible first|(refine Q0c ?_;refine hR _ ?_;clear hR R)|((first|refine Q0e ?_|refine Q0f ?_);intro J hJ hJ')|(refine Q0a ?_;intro R hR)|(refine hJ _ ?_;clear hJ hJ' J)|refine Q0q ?_)|((with_reducible refine hJ' _ _ ?_ ?_);(focus(simp;done));clear hJ hJ' J)|((with_reducible apply Q0d);rfl;rfl;all_goals(intro hc;first|(cases hc;done)|(try simp only at hc))))))
     clear k1 k6
     refine Q1t 24 (fun i=>⟨[lnA l,.ptr 1 0,.ptr 2 0,.ptr 3 0,.any,.any,.any,.any,vi .i64 ((pqA i).1:Int),vi .i64 ((pqA i).2:Int),lvA (U i),.any,.any,.any,.any,.any,.any,.any,.any,.any,.any,.any,.any,.any,.any,.any,.any,.any,.any,.any,.any,.any,.any,.any,.any,.any,.any,.any,.any,.any,.any,.any,.any,.any,.any,.any,.any,.any,.any,.any,vi .i64 (i:Int),.any,.any,.any,.any,.any,.any,.any,.any,.any,.any,.any,.any,.any,.any,.any,.any,.any,.any,.any,.any,.any,.any,.any,.any,.any,.any,.any,.any,.any,.any],[(1,rcV (V i)),(2,rcV (zer 25)),(3,rcV c)]⟩) (St.le_of (by simp[leT,pqA]) (by simp[leH,hget])) ?_
     intro i hi J hJ hJ'
     by_cases hlt:i<24
     · obtain⟨lx,ly⟩:=pqA_lt i
       have lz:=ixA_lt i
       have i1:(pqA (i+1)).1=(pqA i).2:=rfl
       have i2:(pqA (i+1)).2=(2*(pqA i).1+3*(pqA i).2)%5:=rfl
       have i3:ixA i=5*((2*(pqA i).1+3*(pqA i).2)%5)+(pqA i).2:=rfl
       have hg:(i+1)*(i+2)≤24*25:=Nat.mul_le_mul (by omega) (by omega)
       have g1:((i+1:Nat):Int)*((i+2:Nat):Int)=(((i+1)*(i+2):Nat):Int):=by push_cast;rfl
       have lf:=left_fn (U i) ((i+1)*(i+2)/2) (by omega)
       have k5:=vs i
       have k2:=us i
       obtain⟨g,hgv⟩:∃q,(i+1)*(i+2)=q:=⟨_,rfl⟩
       rw[hgv] at hg g1 lf k5
       have k1:=Q1l (l:=V i) (i:=ixA i) (by rw[vl];omega)
       rw[←k2] at k1
       have k4:=Q3t (V i) (ixA i) (rotU (U i) (g/2%64)) (by rw[vl];omega)
       rw[←k5] at k4
       obtain⟨z,hz⟩:∃q,rotU (U i) (g/2%64)=q:=⟨_,rfl⟩
       rw[hz] at lf k4
       have k6:(rcV (V i)).length=25:=by rw[Q1a,vl]
       have hd:decide ((i:Int)<24)=true:=by simp;omega
       have j1:(2:Int)*((pqA i).1:Int)=((2*(pqA i).1:Nat):Int):=by omega
       have j2:(3:Int)*((pqA i).2:Int)=((3*(pqA i).2:Nat):Int):=by omega
       have j3:((2*(pqA i).1:Nat):Int)+((3*(pqA i).2:Nat):Int)=((2*(pqA i).1+3*(pqA i).2:Nat):Int):=by omega
       have j4:Int.tmod ((2*(pqA i).1+3*(pqA i).2:Nat):Int) 5=(((pqA (i+1)).2:Nat):Int):=by rw[Int.tmod_eq_emod_of_nonneg (by omega),i2];omega
       have j5:(5:Int)*(((pqA (i+1)).2:Nat):Int)=((5*(pqA (i+1)).2:Nat):Int):=by omega
       have j6:((5*(pqA (i+1)).2:Nat):Int)+((pqA i).2:Int)=((ixA i:Nat):Int):=by rw[i3,i2];omega
       have j7:(i:Int)+1=((i+1:Nat):Int):=by omega
       have j8:(i:Int)+2=((i+2:Nat):Int):=by omega
       have j9:Int.tdiv ((g:Nat):Int) 2=((g/2:Nat):Int):=by rw[Int.tdiv_eq_ediv_of_nonneg (by omega)];omega
       have m2:(pqA (i+1)).2<5:=by rw[i2];omega
       clear k5 k2 hz hgv i3 us vs vl hl
       (have W:=ndI k1 (ndI k4 (ndI k6 (ndI j1 (ndI j2 (ndI j3 (ndI j4 (ndI j5 (ndI j6 (ndI j7 (ndI j8 (ndI j9 (ndI g1 @wrI))))))))))));(repeat(any_goals(first|((with_reducible refine Q0b ?_ ?_);rfl;intro K hK;simp(disch:=omega) only[go_sem,W,hd,Nat.mul_one,Int.toNat_natCast,Nat.zero_add];((repeat(refine ndI (by first|assumption|rfl) ?_));refine hK _ ?_;clear hK K))|(with_reducible first|(refine Q0c ?_;refine hR _ ?_;clear hR R)|((first|refine Q0e ?_|refine Q0f ?_);intro J hJ hJ')|(refine Q0a ?_;intro R hR)|(refine hJ _ ?_;clear hJ hJ' J)|refine Q0h ?_)|((with_reducible refine hJ' _ _ ?_ ?_);(focus(simp;done));clear hJ hJ' J)|((with_reducible apply Q0d);rfl;rfl;all_goals(intro hc;first|(cases hc;done)|(try simp only at hc)))|((with_reducible refine Q0z ?_ ?_);(apply Q2e);(focus(repeat(first|exact Sims.nil|((apply Sims.cons);(focus(first|exact Ef.sim_refl _))))));kernel_rfl;(with_reducible refine hR _ ?_);clear hR R)|((first|((first|((with_reducible apply Q1h);rfl;rfl));((apply Q0y (lf);rfl;rfl;rfl;rfl;exact Tryz.func194);kernel_rfl;rfl;(focus((simp(disch:=omega) only[go_sem,W,hd,Nat.mul_one,Int.toNat_natCast,Nat.zero_add]);(try rfl);done));(first|rfl)))|((first|((with_reducible apply Q0x);rfl;rfl));(simp(disch:=omega) only[rdE,rdOf,go_sem,W,hd,Nat.mul_one,Int.toNat_natCast,Nat.zero_add];rfl);(intro τ hA hQ hN;((try simp only[Q1i,Op.operands,Call.operands,go_sem,W,hd,Nat.mul_one,Int.toNat_natCast,Nat.zero_add,go_sem,List.mem_cons,List.not_mem_nil,forall_eq_or_imp,forall_eq,List.append_toArray,Option.toArray] at hA);(try simp only[go_sem,W,hd,Nat.mul_one,Int.toNat_natCast,Nat.zero_add,List.mem_cons,List.not_mem_nil,forall_eq_or_imp,forall_eq] at hQ hN);(first|(revert hA;intro hA));(first|(revert hQ;intro hQ));(first|(revert hN;intro hN));simp(disch:=omega) only[go_sem,W,hd,Nat.mul_one,Int.toNat_natCast,Nat.zero_add,go_sem,hA,hQ,hN];(repeat(refine ndI (by first|assumption|omega|rfl) ?_));(first|apply Q1b|apply Q4a)))));(simp(disch:=omega) only[St.eff,setO,Q0u,go_sem,W,hd,Nat.mul_one,Int.toNat_natCast,Nat.zero_add]))|((with_reducible refine Q0w ?_ ?_ ?_ ?_);kernel_rfl;kernel_rfl;(simp[Q2a,Q5q,St.free,Q1z,AV.refsL,AV.refs,Q0n]);intro R hR)))))
       exact hJ _ (by omega) (St.le_of (by simp[leT,i1]) (by simp[leH,hget]))
     · have hi24:i=24:=by omega
       subst hi24
       have b1:List.take 25 (rcV (V 24))=rcV (V 24):=Q1y _ (vl _)
       have b2:(rcV (V 24)).length=25:=by rw[Q1a];exact vl _
       have z1:List.drop 25 (rcV (zer 25))=[]:=List.drop_eq_nil_of_le (by rw[Q1a,Q5f];omega)
       have z2:(rcV (zer 25)).length=25:=by rw[Q1a,Q5f]
       clear us vs vl hl hlt
       obtain⟨z,hz⟩:∃q,zer 25=q:=⟨_,rfl⟩
       rw[hz] at z1 z2 ⊢
       (have W:=ndI b1 (ndI b2 (ndI z1 z2));(repeat(any_goals(first|((with_reducible refine Q0b ?_ ?_);rfl;intro K hK;simp(disch:=omega) only[go_sem,W,Q0n];((repeat(refine ndI (by first|assumption|rfl) ?_));refine hK _ ?_;clear hK K))|(with_reducible first|(refine Q0c ?_;refine hR _ ?_;clear hR R)|((first|refine Q0e ?_);intro J hJ hJ')|(refine Q0a ?_;intro R hR)|(refine hJ _ ?_;clear hJ hJ' J)|refine Q0j ?_|refine Q0q ?_)|((with_reducible refine hJ' _ _ ?_ ?_);(focus(simp;done));clear hJ hJ' J)|((with_reducible apply Q0d);rfl;rfl;all_goals(intro hc;first|(cases hc;done)|(try simp only at hc)))))))
       all_goals(refine⟨by simp,⟨_,?_,AV.le_refl _⟩,Q0g (by simp[leH,hget])⟩;simp only[Tryz.results190,resL,ldA,Q0m,go_sem,b1];rw[if_pos (by omega)];rfl)
theorem tA_0f(m:List UInt64):(tA m 0).1=m.getD 1 0:=rfl
theorem tA_0s(m:List UInt64):(tA m 0).2=m:=rfl
theorem tA_sf(m:List UInt64)(k:Nat):(tA m (k+1)).1=(tA m k).2.getD (ixA k) 0:=rfl
theorem tA_ss(m:List UInt64)(k:Nat):(tA m (k+1)).2=(tA m k).2.set (ixA k) (rotU (tA m k).1 ((k+1)*(k+2)/2%64)):=rfl
theorem cA_s(l:List UInt64)(k:Nat):cA l (k+1)=(cA l k).set (k%5) ((cA l k).getD (k%5) 0 ^^^ l.getD k 0):=rfl
theorem dA_s(l c:List UInt64)(k:Nat):dA l c (k+1)=(dA l c k).set k ((dA l c k).getD k 0 ^^^ (c.getD ((k%5+4)%5) 0 ^^^ rotU (c.getD ((k%5+1)%5) 0) 1)):=rfl
theorem X6q(l:List UInt64):mixR l=(tA (dA l (cA l 25) 25) 24).2:=rfl
theorem rmix_fn(l:List UInt64)(hl:l.length=25):Fn Tryz.prog 190 [lnA l] [] (lnA (mixR l)) []:=by
 rw[X6q]
 have c0:cA l 0=zer 5:=rfl
 have cs:=cA_s l
 have cl:=X5l l
 generalize cA l=C at *
 have d0:dA l (C 25) 0=l:=rfl
 have ds:=dA_s l (C 25)
 have dl:=fun k=>(X9d l (C 25) k).trans hl
 generalize dA l (C 25)=D at *
 have u0:=tA_0f (D 25)
 have v0:=tA_0s (D 25)
 have us:=tA_sf (D 25)
 have vs:=tA_ss (D 25)
 have vl:=fun k=>(X7o (D 25) k).trans (dl 25)
 generalize tA (D 25)=T at *
 exact rmix_fnE l C D (fun k=>(T k).1) (fun k=>(T k).2) hl c0 cl cs d0 dl ds u0 v0 vl us vs
end
end Go.Proofs.YtgdjkkapgghdbaaGreatDoor
