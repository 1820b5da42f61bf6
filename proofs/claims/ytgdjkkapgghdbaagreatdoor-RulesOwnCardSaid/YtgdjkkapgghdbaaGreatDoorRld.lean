/-
  A court: which spots may be touched; the court of a case. Reckoned.
-/
import Derived.Test.YtgdjkkapgghdbaaGreatDoorTrf
import Derived.Test.YtgdjkkapgghdbaaGreatDoorSf
import Derived.Calls
import Derived.Sort.Grow
import Derived.Sort.Row
import Derived.Deep.Draws
import Derived.Test.YtgdjkkapgghdbaaGreatDoorAvO
namespace Go.Proofs.YtgdjkkapgghdbaaGreatDoor
set_option linter.unusedSimpArgs false
set_option linter.unusedVariables false
section
open Go.RowKit
open Nat (reduceBEq)
set_option maxRecDepth 20000
set_option maxHeartbeats 2000000
instance decSp:DecidableEq Sp:=fun p q=>decidable_of_iff (p.a=q.a∧p.k=q.k) ⟨fun h=>by cases p;cases q;simp_all,fun h=>by rw[h];exact⟨rfl,rfl⟩⟩
theorem X1c{p q:Sp}(hp:p.ok)(hq:q.ok):(p.a==q.a&&(l0 p.k==l0 q.k&&(l1 p.k==l1 q.k&&(l2 p.k==l2 q.k&&l3 p.k==l3 q.k))))=decide (p=q):=by
 rw[wN_eq hp.2 hq.2]
 by_cases h1:p.a=q.a
 · by_cases h2:p.k=q.k
   · have e:p=q:=by cases p;cases q;simp_all
     simp[h1,h2,e]
   · have e:¬p=q:=fun h=>h2 (by rw[h])
     simp[h1,h2,e]
 · have e:¬p=q:=fun h=>h1 (by rw[h])
   simp[h1,e]
def ddS(s:List Sp):Nat→List Sp
 |0=>[]
 |i+1=>match s[i]? with
  |none=>ddS s i
  |some b=>if 0<i∧s[i-1]? = some b then ddS s i else ddS s i++[b]
theorem Q9k{s:List Sp}{i:Nat}{a b:Sp}(ha:s[i]? = some a)(hb:s[i+1]? = some b)(e:a=b):ddS s (i+2)=ddS s (i+1):=by
 show(match s[i+1]? with|none=>_|some b=>_)=_
 rw[hb]
 dsimp only
 rw[if_pos ⟨by omega,by rw[Nat.add_sub_cancel,ha,e]⟩]
theorem X8j{s:List Sp}{i:Nat}{a b:Sp}(ha:s[i]? = some a)(hb:s[i+1]? = some b)(e:a≠b):ddS s (i+2)=ddS s (i+1)++[b]:=by
 show(match s[i+1]? with|none=>_|some b=>_)=_
 rw[hb]
 dsimp only
 rw[if_neg fun h=>by
  have h2:=h.2
  rw[Nat.add_sub_cancel,ha] at h2
  exact e (Option.some.inj h2)]
theorem X8i{s:List Sp}{a:Sp}(ha:s[0]? = some a):ddS s 1=[a]:=by
 show(match s[0]? with|none=>_|some b=>_)=_
 rw[ha]
 dsimp only
 rw[if_neg fun h=>Nat.lt_irrefl 0 h.1]
 rfl
theorem Q8c{s:List Sp}:∀{k:Nat},k<s.length→(∀j,j<k→s[j]?≠s[j+1]?)→ddS s (k+1)=s.take (k+1)
 |0,hk,_=>by
  rw[X8i (List.getElem?_eq_getElem hk),List.take_add_one,List.getElem?_eq_getElem hk]
  rfl
 |k+1,hk,h=>by
  have ih:=Q8c (k:=k) (by omega) fun j hj=>h j (by omega)
  have h1:=h k (by omega)
  rw[List.getElem?_eq_getElem (by omega),List.getElem?_eq_getElem hk] at h1
  rw[X8j (List.getElem?_eq_getElem (by omega)) (List.getElem?_eq_getElem hk) (fun e=>h1 (by rw[e])),ih,List.take_add_one (i:=k+1),List.getElem?_eq_getElem hk]
  rfl
theorem Z0j(s:List Sp):∀i,(ddS s i).length≤i
 |0=>Nat.le_refl _
 |i+1=>by
  have ih:=Z0j s i
  unfold ddS
  split
  · omega
  · split
    · omega
    · rw[List.length_append];simp;omega
def rcS(l:List Sp):List AV:=raS l
theorem Q4d(l:List Sp):(rcS l).length=l.length*5:=Q6u l
theorem Q7h{l:List Sp}{i:Nat}{y:Sp}(h:l[i]? = some y):((rcS l).drop (i*5)).take 5=[vi .u64 y.a,vi .u64 (l0 y.k),vi .u64 (l1 y.k),vi .u64 (l2 y.k),vi .u64 (l3 y.k)]:=by
 unfold rcS raS
 rw[←List.map_drop,←List.map_take,Q8g h]
 rfl
theorem Q6b(l r:List Sp):rcS (l++r)=rcS l++rcS r:=by
 unfold rcS raS;rw[List.flatMap_append,List.map_append]
theorem Q9e(l:List Sp)(k:Nat):(rcS l).take (k*5)=rcS (l.take k):=by
 by_cases h:k≤l.length
 · conv=>lhs;rw[←List.take_append_drop k l,Q6b]
   exact List.take_left' (by rw[Q4d,List.length_take];omega)
 · rw[List.take_of_length_le (by rw[Q4d];omega),List.take_of_length_le (by omega)]
theorem rcS_drop(l:List Sp)(k:Nat):(rcS l).drop (k*5)=rcS (l.drop k):=by
 by_cases h:k≤l.length
 · conv=>lhs;rw[←List.take_append_drop k l,Q6b]
   exact List.drop_left' (by rw[Q4d,List.length_take];omega)
 · rw[List.drop_of_length_le (by rw[Q4d];omega),List.drop_of_length_le (by omega)]
   rfl
theorem X7q(l:List Sp)(k:Nat)(x:Sp)(h:k<l.length):(rcS l).take (k*5)++([vi .u64 x.a,vi .u64 (l0 x.k),vi .u64 (l1 x.k),vi .u64 (l2 x.k),vi .u64 (l3 x.k)]++(rcS l).drop (k*5+5))=rcS (l.set k x):=by
 rw[show k*5+5=(k+1)*5 by omega,Q9e,rcS_drop,List.set_eq_take_append_cons_drop,if_pos h,Q6b]
 rfl
theorem Q9n(k:Nat):Q4s [.int .u64 0,.int .u64 0,.int .u64 0,.int .u64 0,.int .u64 0] k=rcS (List.replicate k ⟨0,0⟩):=by
 unfold Q4s
 induction k with
 |zero=>rfl
 |succ k ih=>
  rw[List.replicate_succ,List.flatten_cons,ih,List.replicate_succ]
  rfl
theorem X1j(s:List Sp)(hs:s.length≤1000000)(ho:∀x∈s,x.ok):Fn Tryz.prog 49 [.row 1000 37 5 s.length] [(1000,rcS s)] (.row 1000 37 5 (ddS s s.length).length) [(1000,rcS (ddS s s.length++List.replicate (s.length-(ddS s s.length).length) ⟨0,0⟩))]:=by
 have e1:=Q4d s
 by_cases h2:s.length<2
 · have hd:ddS s s.length=s:=by
    match s,h2 with
    |[],_=>rfl
    |[a],_=>exact X8i rfl
   rw[hd,Nat.sub_self,List.replicate_zero,List.append_nil]
   have k1:(decide ((s.length:Int)<2))=true:=by simp;omega
   (refine Q0z Tryz.func49 rfl (by rfl) ?_;simp only[Tryz.ntmps49,List.length_cons,List.length_nil,Nat.reduceAdd,Nat.reduceSub,List.replicate,List.cons_append,List.nil_append])
   (repeat(any_goals(first|((with_reducible refine Q0b ?_ ?_);rfl;intro K hK;simp only[go_sem,k1];((repeat(refine ndI (by first|assumption) ?_));refine hK _ ?_;clear hK K))|(with_reducible first|(refine Q0c ?_;refine hR _ ?_;clear hR R)|((first|refine Q0d ?_);intro J hJ hJ')|(refine Q0a ?_;intro R hR)|(refine hJ _ ?_;clear hJ hJ' J)|refine Q0j ?_)|((with_reducible refine hJ' _ _ ?_ ?_);(focus(simp;done));clear hJ hJ' J)|((with_reducible apply Q0e);rfl;rfl;all_goals(intro hc;first|(cases hc;done)|(try simp only at hc))))))
   all_goals(refine⟨by simp,⟨_,?_,AV.le_refl _⟩,Q0h (by simp[leH,hget])⟩;simp only[Tryz.results49,resL,ldA,Q0q,go_sem])
 · have k1:(decide ((s.length:Int)<2))=false:=by simp;omega
   (refine Q0z Tryz.func49 rfl (by rfl) ?_;simp only[Tryz.ntmps49,List.length_cons,List.length_nil,Nat.reduceAdd,Nat.reduceSub,List.replicate,List.cons_append,List.nil_append])
   (repeat(any_goals(first|((with_reducible refine Q0b ?_ ?_);rfl;intro K hK;simp only[go_sem,k1];((repeat(refine ndI (by first|assumption) ?_));refine hK _ ?_;clear hK K))|(with_reducible first|(refine Q0c ?_;refine hR _ ?_;clear hR R)|((first|refine Q0d ?_|refine Q0f ?_);intro J hJ hJ')|(refine Q0a ?_;intro R hR)|(refine hJ _ ?_;clear hJ hJ' J)|refine Q0g ?_)|((with_reducible apply Q0e);rfl;rfl;all_goals(intro hc;first|(cases hc;done)|(try simp only at hc))))))
   refine Q1t (α:={j:Nat // j<s.length∧∀i,i<j→s[i]?≠s[i+1]?}) (fun x=>⟨[.row 1000 37 5 s.length,.any,.any,vi .i64 ((x.1+1:Nat):Int),.any,.any,.any,.any,.any,.any,.any,.any,.any,.any,.any,.any,.any,.any,.any,.any,.any,.any,.any,.any,.any,.any,.any,.any,.any,.any,.any,.any,.any,.any,.any,.any,.any,.any,.any,.any,.any,.any,.any,.any,.any,.any,.any,.any,.any,.any,.any,.any,.any,.any,.any,.any,.any,.any,.any,.any,.any],[(1000,rcS s)]⟩) (fun x=>s.length-x.1) ⟨0,by omega,fun i hi=>absurd hi (Nat.not_lt_zero _)⟩ (St.le_of (by simp[leT]) (by simp[leH,hget])) ?_
   rintro ⟨j,hj,hnd⟩ J hJ hJ'
   (try dsimp only at hJ ⊢)
   rcases Nat.lt_or_ge (j+1) s.length with hlt|hge
   · have k2:(decide (((j+1:Nat):Int)<(s.length:Int)))=true:=by simp;omega
     have k3:((j+1:Nat):Int)-1=(j:Int):=by omega
     have k4:((j+1:Nat):Int)+1=((j+1+1:Nat):Int):=by omega
     obtain⟨a,ha⟩:∃a,s[j]? = some a:=⟨_,List.getElem?_eq_getElem hj⟩
     obtain⟨b,hb⟩:∃b,s[j+1]? = some b:=⟨_,List.getElem?_eq_getElem hlt⟩
     have ea:=Q7h ha
     have eb:=Q7h hb
     have oa:=ho a (List.mem_of_getElem? ha)
     have ob:=ho b (List.mem_of_getElem? hb)
     by_cases hab:b=a
     · have k5:(b.a==a.a&&(l0 b.k==l0 a.k&&(l1 b.k==l1 a.k&&(l2 b.k==l2 a.k&&l3 b.k==l3 a.k))))=true:=by rw[X1c ob oa];simp[hab]
       have hd0:ddS s (j+1)=s.take (j+1):=Q8c hj hnd
       have hd1:ddS s (j+2)=s.take (j+1):=by rw[Q9k ha hb hab.symm,hd0]
       have hd2:(ddS s (j+2)).length=j+1:=by rw[hd1,List.length_take];omega
       (have W:=ndI k2 (ndI k3 (ndI k4 (ndI k5 (ndI e1 @wrI))));(repeat(any_goals(first|((with_reducible refine Q0b ?_ ?_);rfl;intro K hK;simp(disch:=omega) only[go_sem,W,ea,eb,bne,Bool.not_true,Bool.not_false];((repeat(refine ndI (by first|assumption|rfl) ?_));refine hK _ ?_;clear hK K))|((with_reducible refine Q0b ?_ ?_);rfl;intro K hK;(try simp(disch:=omega) only[go_sem,W,ea,eb,bne,Bool.not_true,Bool.not_false]);(repeat(refine ndI (by first|assumption|rfl) ?_));refine Q4f rfl rfl rfl rfl rfl ?_ rfl rfl rfl rfl ?_ ?_ ?_;(focus(simp only[go_sem];try rfl));(intro h;first|cases h);(first|omega);(intro q hq1 hq2;(simp(disch:=omega) only[go_sem,W,ea,eb,bne,Bool.not_true,Bool.not_false];refine hK _ ?_;clear hK K)))|(with_reducible first|(refine Q0c ?_;refine hR _ ?_;clear hR R)|((first|refine Q0d ?_|refine Q0f ?_);intro J hJ hJ')|(refine Q0a ?_;intro R hR)|(refine hJ _ ?_;clear hJ hJ' J)|refine Q0g ?_)|((with_reducible apply Q0e);rfl;rfl;all_goals(intro hc;first|(cases hc;done)|(try simp only at hc)))|((with_reducible refine Q0v ?_ ?_);kernel_rfl;(with_reducible refine hR _ ?_);clear hR R)|(((with_reducible apply Q0t);rfl;rfl;(simp(disch:=omega) only[rdE,rdOf,go_sem,W,ea,eb,bne,Bool.not_true,Bool.not_false];rfl);(intro τ hA hQ hN;((try simp only[Q1e,Op.operands,Call.operands,go_sem,W,ea,eb,bne,Bool.not_true,Bool.not_false,go_sem,List.mem_cons,List.not_mem_nil,forall_eq_or_imp,forall_eq,List.append_toArray,Option.toArray] at hA);(try simp only[go_sem,W,ea,eb,bne,Bool.not_true,Bool.not_false,List.mem_cons,List.not_mem_nil,forall_eq_or_imp,forall_eq] at hQ hN);(first|(revert hA;intro hA));(first|(revert hQ;intro hQ));(first|(revert hN;intro hN));simp(disch:=omega) only[go_sem,W,ea,eb,bne,Bool.not_true,Bool.not_false,go_sem,hA,hQ,hN];(repeat(refine ndI (by first|assumption|omega|rfl) ?_));(first|apply Q1a))));(simp(disch:=omega) only[St.eff,setO,Q0w,go_sem,W,ea,eb,bne,Bool.not_true,Bool.not_false]))|((with_reducible refine Q0r ?_ ?_ ?_ ?_);kernel_rfl;kernel_rfl;(first|kernel_rfl);intro R hR)))))
       refine Q1t (α:={p:Nat×List Sp // j+2+p.1≤s.length∧p.2.length=s.length∧(ddS s (j+2+p.1)).length≤j+1+p.1∧p.2.take (ddS s (j+2+p.1)).length=ddS s (j+2+p.1)∧p.2.drop (j+1+p.1)=s.drop (j+1+p.1)}) (fun x=>⟨[.row 1000 37 5 s.length,.any,.any,vi .i64 ((ddS s (j+2+x.1.1)).length:Int),.cut 1000 37 5 (j+1) (s.length-(j+1)) q true,vi .i64 ((x.1.1+1:Nat):Int),.any,.any,.any,.any,.any,.any,.any,.any,.any,.any,.any,.any,.any,.any,.any,.any,.any,.any,.any,.any,.any,.any,.any,.any,.any,.any,.any,.any,.any,.any,.any,.any,.any,.any,.any,.any,.any,.any,.any,.any,.any,.any,.any,.any,.any,.any,.any,.any,.any,.any,.any,.any,.any,.any,.any],[(1000,rcS x.1.2)]⟩) (fun x=>s.length-x.1.1) ⟨(0,s),by dsimp only;omega,rfl,by dsimp only;rw[Nat.add_zero,hd2];omega,by dsimp only;rw[Nat.add_zero,hd2,hd1],rfl⟩ (St.le_of (by simp[leT,hd2]) (by simp[leH,hget])) ?_
       rintro ⟨⟨i,m⟩,c1,c2,c3,c4,c5⟩ J hJ hJ'
       dsimp only at c1 c2 c3 c4 c5
       (try dsimp only at hJ ⊢)
       obtain⟨d,hd⟩:∃d,(ddS s (j+2+i)).length=d:=⟨_,rfl⟩
       rcases Nat.lt_or_ge (j+2+i) s.length with hlt2|hge2
       · have n2:(decide (((i+1:Nat):Int)<((s.length-(j+1):Nat):Int)))=true:=by simp;omega
         have n3:((i+1:Nat):Int)-1=(i:Int):=by omega
         have n4:((i+1:Nat):Int)+1=((i+1+1:Nat):Int):=by omega
         have n6:((d:Nat):Int)+1=((d+1:Nat):Int):=by omega
         obtain⟨a',ha'⟩:∃a,s[j+1+i]? = some a:=⟨_,List.getElem?_eq_getElem (by omega)⟩
         obtain⟨b',hb'⟩:∃b,s[j+1+i+1]? = some b:=⟨_,List.getElem?_eq_getElem (by omega)⟩
         have hm:∀x,m[j+1+i+x]? = s[j+1+i+x]?:=fun x=>by
          rw[←List.getElem?_drop,←List.getElem?_drop,c5]
         have ea':=Q7h (l:=m) (by rw[←ha'];exact hm 0)
         have eb':=Q7h (l:=m) (by rw[←hb'];exact hm 1)
         rw[Nat.add_assoc (j+1) i 1] at eb'
         rw[Nat.add_zero] at ea'
         have c3':d≤j+1+i:=by rw[←hd];exact c3
         have oa':=ho a' (List.mem_of_getElem? ha')
         have ob':=ho b' (List.mem_of_getElem? hb')
         have hset:(rcS m).take (d*5)++[vi .u64 b'.a,vi .u64 (l0 b'.k),vi .u64 (l1 b'.k),vi .u64 (l2 b'.k),vi .u64 (l3 b'.k)]++(rcS m).drop (d*5+5)=rcS (m.set d b'):=by
          rw[List.append_assoc]
          exact X7q m d b' (by omega)
         have hdl:d<s.length:=by omega
         have hml:(rcS m).length=s.length*5:=by rw[Q4d,c2]
         rw[hd] at c3 c4
         rw[hd]
         by_cases hab':b'=a'
         · have n5:(b'.a==a'.a&&(l0 b'.k==l0 a'.k&&(l1 b'.k==l1 a'.k&&(l2 b'.k==l2 a'.k&&l3 b'.k==l3 a'.k))))=true:=by rw[X1c ob' oa'];simp[hab']
           have en:=Q9k (s:=s) ha' hb' hab'.symm
           have hJ1:=fun σ'=>hJ σ' ⟨(i+1,m),by dsimp only;omega,c2,by
            dsimp only
            rw[show j+2+(i+1)=j+1+i+2 by omega,en,show j+1+i+1=j+2+i by omega,hd]
            omega,by
            dsimp only
            rw[show j+2+(i+1)=j+1+i+2 by omega,en,show j+1+i+1=j+2+i by omega,hd]
            exact c4,by
            dsimp only
            rw[show j+1+(i+1)=j+1+i+1 by omega,←List.drop_drop,c5,List.drop_drop]⟩ (by dsimp only;omega)
           dsimp only at hJ1
           rw[show j+2+(i+1)=j+1+i+2 by omega,en,show j+1+i+1=j+2+i by omega,hd] at hJ1
           (have W:=ndI n2 (ndI n3 (ndI n4 (ndI n5 (ndI n6 @wrI))));(repeat(any_goals(first|((with_reducible refine Q0b ?_ ?_);rfl;intro K hK;simp(disch:=omega) only[go_sem,W,ea',eb',hset,hml,bne,Bool.not_true,Bool.not_false];((repeat(refine ndI (by first|assumption|rfl) ?_));refine hK _ ?_;clear hK K))|(with_reducible first|(refine Q0c ?_;refine hR _ ?_;clear hR R)|((first|refine Q0d ?_|refine Q0f ?_);intro J hJ hJ')|(refine Q0a ?_;intro R hR)|(refine hJ _ ?_;clear hJ hJ' J)|refine Q0g ?_)|((with_reducible refine hJ' _ _ ?_ ?_);(focus(simp;done));clear hJ hJ' J)|((with_reducible apply Q0e);rfl;rfl;all_goals(intro hc;first|(cases hc;done)|(try simp only at hc)))|((with_reducible refine Q0v ?_ ?_);kernel_rfl;(with_reducible refine hR _ ?_);clear hR R)|((first|((with_reducible apply Q0t);rfl;rfl;(simp(disch:=omega) only[rdE,rdOf,go_sem,W,ea',eb',hset,hml,bne,Bool.not_true,Bool.not_false];rfl);(intro τ hA hQ hN;((try simp only[Q1e,Op.operands,Call.operands,go_sem,W,ea',eb',hset,hml,bne,Bool.not_true,Bool.not_false,go_sem,List.mem_cons,List.not_mem_nil,forall_eq_or_imp,forall_eq,List.append_toArray,Option.toArray] at hA);(try simp only[go_sem,W,ea',eb',hset,hml,bne,Bool.not_true,Bool.not_false,List.mem_cons,List.not_mem_nil,forall_eq_or_imp,forall_eq] at hQ hN);(first|(revert hA;intro hA));(first|(revert hQ;intro hQ));(first|(revert hN;intro hN));simp(disch:=omega) only[go_sem,W,ea',eb',hset,hml,bne,Bool.not_true,Bool.not_false,go_sem,hA,hQ,hN];(repeat(refine ndI (by first|assumption|omega|rfl) ?_));(first|apply Q1a))))|((first|((with_reducible apply Q3j);rfl));apply Q2r;rfl;rfl;rfl;rfl;rfl;(focus(simp only[go_sem];try rfl));(first|omega)));(simp(disch:=omega) only[St.eff,setO,Q0w,go_sem,W,ea',eb',hset,hml,bne,Bool.not_true,Bool.not_false]))|((with_reducible refine Q0r ?_ ?_ ?_ ?_);kernel_rfl;kernel_rfl;(first|kernel_rfl);intro R hR)))))
           all_goals exact hJ1 _ (St.le_of (by simp[leT]) (by simp[leH,hget]))
         · have n5:(b'.a==a'.a&&(l0 b'.k==l0 a'.k&&(l1 b'.k==l1 a'.k&&(l2 b'.k==l2 a'.k&&l3 b'.k==l3 a'.k))))=false:=by rw[X1c ob' oa'];simp[hab']
           have en:=X8j (s:=s) ha' hb' (fun e=>hab' e.symm)
           have hl':(ddS s (j+1+i+2)).length=d+1:=by
            rw[en,List.length_append,show j+1+i+1=j+2+i by omega,hd];rfl
           have hJ1:=fun σ'=>hJ σ' ⟨(i+1,m.set d b'),by dsimp only;omega,by dsimp only;rw[List.length_set];exact c2,by
            dsimp only
            rw[show j+2+(i+1)=j+1+i+2 by omega,hl']
            omega,by
            dsimp only
            rw[show j+2+(i+1)=j+1+i+2 by omega,hl',en,show j+1+i+1=j+2+i by omega,List.set_eq_take_append_cons_drop,if_pos (by omega),c4,List.take_append,hd]
            rw[List.take_of_length_le (by omega),show d+1-d=1 by omega]
            rfl,by
            dsimp only
            rw[List.drop_set,if_pos (by omega),show j+1+(i+1)=j+1+i+1 by omega,←List.drop_drop,c5,List.drop_drop]⟩ (by dsimp only;omega)
           dsimp only at hJ1
           rw[show j+2+(i+1)=j+1+i+2 by omega,hl'] at hJ1
           (have W:=ndI n2 (ndI n3 (ndI n4 (ndI n5 (ndI n6 @wrI))));(repeat(any_goals(first|((with_reducible refine Q0b ?_ ?_);rfl;intro K hK;simp(disch:=omega) only[go_sem,W,ea',eb',hset,hml,bne,Bool.not_true,Bool.not_false];((repeat(refine ndI (by first|assumption|omega|rfl) ?_));refine hK _ ?_;clear hK K))|((with_reducible refine Q0b ?_ ?_);rfl;intro K hK;(try simp(disch:=omega) only[go_sem,W,ea',eb',hset,hml,bne,Bool.not_true,Bool.not_false]);(repeat(refine ndI (by first|assumption|rfl) ?_));refine Q2s rfl rfl rfl rfl rfl ?_ ?_ ?_;(focus(simp only[go_sem];try rfl));(first|omega);(simp(disch:=omega) only[go_sem,W,ea',eb',hset,hml,bne,Bool.not_true,Bool.not_false];refine hK _ ?_;clear hK K))|(with_reducible first|(refine Q0c ?_;refine hR _ ?_;clear hR R)|((first|refine Q0d ?_|refine Q0f ?_);intro J hJ hJ')|(refine Q0a ?_;intro R hR)|(refine hJ _ ?_;clear hJ hJ' J)|refine Q0g ?_)|((with_reducible refine hJ' _ _ ?_ ?_);(focus(simp;done));clear hJ hJ' J)|((with_reducible apply Q0e);rfl;rfl;all_goals(intro hc;first|(cases hc;done)|(try simp only at hc)))|((with_reducible refine Q0v ?_ ?_);kernel_rfl;(with_reducible refine hR _ ?_);clear hR R)|((first|((with_reducible apply Q0t);rfl;rfl;(simp(disch:=omega) only[rdE,rdOf,go_sem,W,ea',eb',hset,hml,bne,Bool.not_true,Bool.not_false];rfl);(intro τ hA hQ hN;((try simp only[Q1e,Op.operands,Call.operands,go_sem,W,ea',eb',hset,hml,bne,Bool.not_true,Bool.not_false,go_sem,List.mem_cons,List.not_mem_nil,forall_eq_or_imp,forall_eq,List.append_toArray,Option.toArray] at hA);(try simp only[go_sem,W,ea',eb',hset,hml,bne,Bool.not_true,Bool.not_false,List.mem_cons,List.not_mem_nil,forall_eq_or_imp,forall_eq] at hQ hN);(first|(revert hA;intro hA));(first|(revert hQ;intro hQ));(first|(revert hN;intro hN));simp(disch:=omega) only[go_sem,W,ea',eb',hset,hml,bne,Bool.not_true,Bool.not_false,go_sem,hA,hQ,hN];(repeat(refine ndI (by first|assumption|omega|rfl) ?_));(first|apply Q1a))))|((first|((with_reducible apply Q3j);rfl));apply Q2r;rfl;rfl;rfl;rfl;rfl;(focus(simp only[go_sem];try rfl));(first|omega)));(simp(disch:=omega) only[St.eff,setO,Q0w,go_sem,W,ea',eb',hset,hml,bne,Bool.not_true,Bool.not_false]))|((with_reducible refine Q0r ?_ ?_ ?_ ?_);kernel_rfl;kernel_rfl;(first|kernel_rfl);intro R hR)))))
           all_goals exact hJ1 _ (St.le_of (by simp[leT]) (by simp[leH,hget]))
       · have n2:(decide (((i+1:Nat):Int)<((s.length-(j+1):Nat):Int)))=false:=by simp;omega
         have e:j+2+i=s.length:=by omega
         rw[e] at hd c4
         rw[hd] at c4
         have hdl:d≤s.length:=by rw[←hd];exact Z0j s _
         have hml:=Q4d m
         have hfin:rcS (ddS s s.length++List.replicate (s.length-d) ⟨0,0⟩)=spl (rcS m) (d*5) (Q4s [.int .u64 0,.int .u64 0,.int .u64 0,.int .u64 0,.int .u64 0] (s.length-d)):=by
          unfold spl
          rw[Q9n,Q4d,List.length_replicate,Q6b,Q9e,c4,List.drop_of_length_le (by rw[hml,c2];omega)]
          show _=_++[]
          rw[List.append_nil]
         rw[e,hd]
         have hr:(AV.row 1000 37 5 (ddS s s.length).length) = .row 1000 37 5 d:=by rw[hd]
         have hcc:ddS s s.length++List.replicate (s.length-(ddS s s.length).length) ⟨0,0⟩=ddS s s.length++List.replicate (s.length-d) ⟨0,0⟩:=by rw[hd]
         (repeat(any_goals(first|((with_reducible refine Q0b ?_ ?_);rfl;intro K hK;simp(disch:=omega) only[go_sem,n2,wrI,bne,Bool.not_true,Bool.not_false];((repeat(refine ndI (by first|assumption|rfl) ?_));refine hK _ ?_;clear hK K))|((with_reducible refine Q0b ?_ ?_);rfl;intro K hK;(try simp(disch:=omega) only[go_sem,n2,wrI,bne,Bool.not_true,Bool.not_false]);(repeat(refine ndI (by first|assumption|rfl) ?_));refine Q4f rfl rfl rfl rfl rfl ?_ rfl rfl rfl rfl ?_ ?_ ?_;(focus(simp only[go_sem];try rfl));(intro h;first|rfl|cases h);(first|omega);(intro q hq1 hq2;(simp(disch:=omega) only[go_sem,n2,wrI,bne,Bool.not_true,Bool.not_false];refine hK _ ?_;clear hK K)))|((with_reducible refine Q0b ?_ ?_);rfl;intro K hK;(try simp(disch:=omega) only[go_sem,n2,wrI,bne,Bool.not_true,Bool.not_false]);(repeat(refine ndI (by first|assumption) ?_));apply Q7q;rfl;rfl;(focus(simp only[go_sem];try rfl));(first|omega);(simp(disch:=omega) only[go_sem,Option.bind_some];rfl);rfl;rfl;rfl;rfl;(first|omega);(simp(disch:=omega) only[go_sem,n2,wrI,bne,Bool.not_true,Bool.not_false];refine hK _ ?_;clear hK K))|(with_reducible first|(refine Q0c ?_;refine hR _ ?_;clear hR R)|((first|refine Q0d ?_);intro J hJ hJ')|(refine Q0a ?_;intro R hR)|(refine hJ _ ?_;clear hJ hJ' J)|refine Q0j ?_|refine Q0o ?_)|((with_reducible refine hJ' _ _ ?_ ?_);(focus(simp;done));clear hJ hJ' J)|((with_reducible apply Q0e);rfl;rfl;all_goals(intro hc;first|(cases hc;done)|(try simp only at hc))))))
         all_goals rw[hr,hcc,hfin]
         all_goals refine⟨by simp,⟨_,rfl,AV.le_cut _ _ _ _ _⟩,Q0h ⟨?_,trivial⟩⟩
         all_goals simp[Q2h,spl,List.append_assoc]
     · have k5:(b.a==a.a&&(l0 b.k==l0 a.k&&(l1 b.k==l1 a.k&&(l2 b.k==l2 a.k&&l3 b.k==l3 a.k))))=false:=by rw[X1c ob oa];simp[hab]
       have hJ1:=fun σ'=>hJ σ' ⟨j+1,hlt,fun i hi=>by
        rcases Nat.lt_or_ge i j with h|h
        · exact hnd i h
        · obtain rfl:i=j:=by omega
          rw[ha,hb]
          exact fun e=>hab (Option.some.inj e).symm⟩ (by dsimp only;omega)
       dsimp only at hJ1
       (have W:=ndI k2 (ndI k3 (ndI k4 (ndI k5 (ndI e1 @wrI))));(repeat(any_goals(first|((with_reducible refine Q0b ?_ ?_);rfl;intro K hK;simp(disch:=omega) only[go_sem,W,ea,eb,bne,Bool.not_true,Bool.not_false];((repeat(refine ndI (by first|assumption|rfl) ?_));refine hK _ ?_;clear hK K))|(with_reducible first|(refine Q0c ?_;refine hR _ ?_;clear hR R)|((first|refine Q0d ?_|refine Q0f ?_);intro J hJ hJ')|(refine Q0a ?_;intro R hR)|(refine hJ _ ?_;clear hJ hJ' J)|refine Q0g ?_)|((with_reducible refine hJ' _ _ ?_ ?_);(focus(simp;done));clear hJ hJ' J)|((with_reducible apply Q0e);rfl;rfl;all_goals(intro hc;first|(cases hc;done)|(try simp only at hc)))|((with_reducible refine Q0v ?_ ?_);kernel_rfl;(with_reducible refine hR _ ?_);clear hR R)|(((with_reducible apply Q0t);rfl;rfl;(simp(disch:=omega) only[rdE,rdOf,go_sem,W,ea,eb,bne,Bool.not_true,Bool.not_false];rfl);(intro τ hA hQ hN;((try simp only[Q1e,Op.operands,Call.operands,go_sem,W,ea,eb,bne,Bool.not_true,Bool.not_false,go_sem,List.mem_cons,List.not_mem_nil,forall_eq_or_imp,forall_eq,List.append_toArray,Option.toArray] at hA);(try simp only[go_sem,W,ea,eb,bne,Bool.not_true,Bool.not_false,List.mem_cons,List.not_mem_nil,forall_eq_or_imp,forall_eq] at hQ hN);(first|(revert hA;intro hA));(first|(revert hQ;intro hQ));(first|(revert hN;intro hN));simp(disch:=omega) only[go_sem,W,ea,eb,bne,Bool.not_true,Bool.not_false,go_sem,hA,hQ,hN];(repeat(refine ndI (by first|assumption|omega|rfl) ?_));(first|apply Q1a))));(simp(disch:=omega) only[St.eff,setO,Q0w,go_sem,W,ea,eb,bne,Bool.not_true,Bool.not_false]))|((with_reducible refine Q0r ?_ ?_ ?_ ?_);kernel_rfl;kernel_rfl;(first|kernel_rfl);intro R hR)))))
       all_goals exact hJ1 _ (St.le_of (by simp[leT]) (by simp[leH,hget]))
   · have k2:(decide (((j+1:Nat):Int)<(s.length:Int)))=false:=by simp;omega
     have hd:ddS s s.length=s:=by
      have e:s.length=j+1:=by omega
      rw[e,Q8c hj hnd,←e,List.take_length]
     have hr:(AV.row 1000 37 5 (ddS s s.length).length) = .row 1000 37 5 s.length:=by rw[hd]
     have hcc:ddS s s.length++List.replicate (s.length-(ddS s s.length).length) ⟨0,0⟩=s:=by rw[hd,Nat.sub_self,List.replicate_zero,List.append_nil]
     (repeat(any_goals(first|((with_reducible refine Q0b ?_ ?_);rfl;intro K hK;simp only[go_sem,k2];((repeat(refine ndI (by first|assumption) ?_));refine hK _ ?_;clear hK K))|(with_reducible first|(refine Q0c ?_;refine hR _ ?_;clear hR R)|((first|refine Q0d ?_);intro J hJ hJ')|(refine Q0a ?_;intro R hR)|(refine hJ _ ?_;clear hJ hJ' J)|refine Q0j ?_|refine Q0o ?_)|((with_reducible refine hJ' _ _ ?_ ?_);(focus(simp;done));clear hJ hJ' J)|((with_reducible apply Q0e);rfl;rfl;all_goals(intro hc;first|(cases hc;done)|(try simp only at hc))))))
     all_goals rw[hr,hcc]
     all_goals(refine⟨by simp,⟨_,?_,AV.le_refl _⟩,Q0h (by simp[leH,hget])⟩;simp only[Tryz.results49,resL,ldA,Q0q,go_sem])
end
section
open Go
set_option maxRecDepth 20000
set_option maxHeartbeats 4000000
def rw_{α : Type}:Result α→World
 |.ok _ w=>w
 |.halt _ w=>w
theorem X6i(w:World)(a:Addr)(n:Nat):(w.freeze a n).drawn=w.drawn:=by
 unfold World.freeze;split<;>rfl
theorem X4t{p:Program}{w w':World}{at_:Addr}{u:TypeId}{k:Addr}{v:Value}{atomic:Bool}{l:List Addr}(h:w.viewStore p at_ u k v atomic = .ok (w',l)):w'.drawn=w.drawn:=by
 unfold World.viewStore at h
 simp only[bind,Except.bind,pure,Except.pure,throw,throwThe,MonadExceptOf.throw,MonadExcept.throw] at h
 repeat' (split at h)
 all_goals first
  |(cases h;rfl)
  |cases h
  |skip
theorem X0h{p:Program}{w w':World}{a:Addr}{v:Value}{atomic:Bool}{l:List Addr}(h:w.farStore p a v atomic = .ok (w',l)):w'.drawn=w.drawn:=by
 unfold World.farStore at h
 split at h
 · split at h
   · rename_i r hr
     cases h
     exact X4t hr
   · cases h
 · cases h
theorem ask_dr{α : Type}:∀(x:Ask α) (w:World),w.drawn≤(w.ask x).2.drawn
 |.done a,w=>Nat.le_refl _
 |.ask what range k,w=>by
  unfold World.ask
  dsimp only
  split
  · exact ask_dr (k 0) w
  · exact Nat.le_trans (Nat.le_succ _) (ask_dr (k _) {w with drawn:=w.drawn+1})
theorem sys_dr(w:World)(c:Sys):w.drawn≤(w.sys c).2.drawn:=by
 unfold World.sys
 split
 · exact Nat.le_refl _
 · rename_i r os w' h
   have:=ask_dr (Kernel.perform c w.os) w
   rw[h] at this
   exact this
theorem Q2c{α : Type}(p:Program):∀(s:Sem α) (w:World),w.drawn≤(rw_ (s.run p w)).drawn
 |.pure a,w=>Nat.le_refl _
 |.load m a k,w=>by
  unfold Sem.run
  split
  · exact Q2c p (k _) w
  · split
    · exact Q2c p (k _) w
    · exact Nat.le_refl _
 |.store m a v k,w=>by
  cases v<;>unfold Sem.run<;>try exact Nat.le_refl _
  all_goals
   split
   · split
     · exact Nat.le_refl _
     · exact Q2c p k (w.setCell a _)
   · split
     · rename_i h
       have h1:=X0h h
       exact h1▸Q2c p k _
     · exact Nat.le_refl _
 |.new o k,w=>by unfold Sem.run;exact Q2c p (k _) {w with heap:=w.heap.push o}
 |.shape r k,w=>by unfold Sem.run;exact Q2c p (k _) w
 |.freeze a n k,w=>by
  unfold Sem.run
  have h:=Q2c p k (w.freeze a n)
  rwa [X6i] at h
 |.frozen a k,w=>by unfold Sem.run;exact Q2c p (k _) w
 |.getObj r k,w=>by
  unfold Sem.run
  split
  · exact Nat.le_refl _
  · exact Q2c p (k _) w
  · exact Nat.le_refl _
 |.setObj r o k,w=>by
  unfold Sem.run
  split
  · exact Nat.le_refl _
  · exact Q2c p k {w with heap:=w.heap.setIfInBounds r o}
  · exact Nat.le_refl _
 |.choose q k,w=>by
  unfold Sem.run
  split
  · exact Q2c p (k 0) w
  · exact Nat.le_trans (Nat.le_succ _) (Q2c p (k _) {w with drawn:=w.drawn+1})
 |.sys c k,w=>by
  unfold Sem.run
  exact Nat.le_trans (sys_dr w c) (Q2c p (k _) _)
 |.program k,w=>by unfold Sem.run;exact Q2c p (k p) w
 |.mark m k,w=>by unfold Sem.run;exact Q2c p k w
 |.halt h,w=>Nat.le_refl _
theorem Q2j{α : Type}(p:Program):∀(s:Sem α) (w:World) (es:Array Event),w.drawn≤(rw_ (s.runT p w es).1).drawn
 |.pure a,w,es=>Nat.le_refl _
 |.load m a k,w,es=>by
  unfold Sem.runT
  split
  · exact Q2j p (k _) w _
  · split
    · exact Q2j p (k _) w _
    · exact Nat.le_refl _
 |.store m a v k,w,es=>by
  cases v<;>unfold Sem.runT<;>try exact Nat.le_refl _
  all_goals
   split
   · split
     · exact Nat.le_refl _
     · exact Q2j p k (w.setCell a _) _
   · split
     · rename_i h
       have h1:=X0h h
       exact h1▸Q2j p k _ _
     · exact Nat.le_refl _
 |.new o k,w,es=>by unfold Sem.runT;exact Q2j p (k _) {w with heap:=w.heap.push o} _
 |.shape r k,w,es=>by unfold Sem.runT;exact Q2j p (k _) w _
 |.freeze a n k,w,es=>by
  unfold Sem.runT
  have h:=Q2j p k (w.freeze a n) es
  rwa [X6i] at h
 |.frozen a k,w,es=>by unfold Sem.runT;exact Q2j p (k _) w _
 |.getObj r k,w,es=>by
  unfold Sem.runT
  split
  · exact Nat.le_refl _
  · exact Q2j p (k _) w _
  · exact Nat.le_refl _
 |.setObj r o k,w,es=>by
  unfold Sem.runT
  split
  · exact Nat.le_refl _
  · exact Q2j p k {w with heap:=w.heap.setIfInBounds r o} _
  · exact Nat.le_refl _
 |.choose q k,w,es=>by
  unfold Sem.runT
  split
  · exact Q2j p (k 0) w _
  · exact Nat.le_trans (Nat.le_succ _) (Q2j p (k _) {w with drawn:=w.drawn+1} _)
 |.sys c k,w,es=>by
  unfold Sem.runT
  exact Nat.le_trans (sys_dr w c) (Q2j p (k _) _ _)
 |.program k,w,es=>by unfold Sem.runT;exact Q2j p (k p) w _
 |.mark m k,w,es=>by unfold Sem.runT;exact Q2j p k w _
 |.halt h,w,es=>Nat.le_refl _
def gw:GStep→World
 |.go _ w _=>w
 |.comm _ _ _ _ w _=>w
 |.spawn _ _ w _=>w
 |.count _ w _=>w
 |.timer _ _ w _=>w
 |.alone _ _ w _=>w
 |.newcoro _ _ _ w _=>w
 |.coroswitch _ _ _ w _=>w
 |.collect _ w _=>w
 |.watch _ w _=>w
 |.ended _ w _=>w
theorem Q4w(es:Array Event)(s:GStep):gw (s.after es)=gw s:=by cases s<;>rfl
theorem Q7b(p:Program)(main:Bool)(fr:Frame)(callers:List Frame)(dying:Option Dying)(v:Value)(w:World):gw (doReturn p main fr callers dying v w)=w:=by
 unfold doReturn
 repeat' (first|split|dsimp only)
 all_goals rfl
theorem X8g(fr:Frame)(m:String)(w:World):gw (endThrow fr m w)=w:=rfl
theorem Z1x(w:World)(fd:Nat)(text:ByteArray)(o:Outcome):w.drawn≤(gw (endWith w fd text o)).drawn:=by
 have h:=sys_dr w (.write fd text)
 unfold endWith
 generalize w.sys (.write fd text)=x at h ⊢
 obtain⟨r,w'⟩:=x
 dsimp only at h ⊢
 repeat' (first|split)
 all_goals simp_all [gw]
theorem Q6o(p:Program)(fr:Frame)(v:Value)(w:World):gw (endPrinting p fr v w)=w:=by
 unfold endPrinting
 dsimp only
 split<;>rfl
theorem X0l(p:Program)(fr:Frame)(callers:List Frame)(dying:Option Dying)(m:String)(w:World):w.drawn≤(gw (endFatal p fr callers dying m w)).drawn:=by
 unfold endFatal
 extract_lets chain raw shown
 have h:=Q2c p shown w
 generalize shown.run p w=x at h ⊢
 cases x with
 |ok a w'=>exact h
 |halt e w'=>
  dsimp only[rw_] at h ⊢
  split<;>rename_i hq<;>cases hq<;>exact h
theorem Z0u(p:Program)(fr:Frame)(d:Dying)(f:Fatal)(w:World):w.drawn≤(gw (writeOn p fr d f w)).drawn:=by
 unfold writeOn
 extract_lets on
 split
 · exact Nat.le_refl _
 · dsimp only
   split
   all_goals exact Nat.le_trans (Q2j _ _ _ _) (Nat.le_of_eq (congrArg (fun x=>(rw_ x.1).drawn) ‹Sem.runT _ _ _ _=_›))
theorem die_gw(p:Program)(fr:Frame)(d:Dying)(w:World):w.drawn≤(gw (die p fr d w)).drawn:=by
 unfold die
 split
 · exact Z0u _ _ _ _ _
 · split
   · split
     · exact Nat.le_refl _
     · exact Z1x _ _ _ _
   · dsimp only
     split
     · exact Nat.le_refl _
     · have h:=Q2c p (withAddress ‹ByteArray›) w
       generalize (withAddress ‹ByteArray›).run p w=x at h ⊢
       cases x<;>exact h
     · rename_i t recv name _
       have h:=Q2j p (invoke (.fn (.method name) #[]) #[.iface t recv]) w #[]
       generalize (invoke (.fn (.method name) #[]) #[.iface t recv]).runT p w #[]=x at h ⊢
       obtain⟨x,es⟩:=x
       rw[Q4w]
       cases x<;>dsimp only[rw_] at h ⊢<;> split<;>(try(rename_i h1;cases h1))<;>first|exact h|(rw[Q6o];exact h)|exact Nat.le_refl _
     · exact Nat.le_refl _
theorem X6d{c:Prop}[Decidable c]{a b:GStep}{w:World}(ha:w.drawn≤(gw a).drawn)(hb:w.drawn≤(gw b).drawn):w.drawn≤(gw (if c then a else b)).drawn:=by
 split
 · exact ha
 · exact hb
theorem X0u(p:Program)(fr:Frame)(callers:List Frame)(dying:Option Dying)(d:Deferred)(w:World):w.drawn≤(gw (callDeferred p fr callers dying d w)).drawn:=by
 unfold callDeferred
 refine X6d ?_ ?_
 · exact Nat.le_refl _
 · have h:=Q2j p (invoke d.target d.args) w #[]
   generalize (invoke d.target d.args).runT p w #[]=x at h ⊢
   obtain⟨x,es⟩:=x
   dsimp only
   rw[Q4w]
   cases x<;>dsimp only[rw_] at h ⊢<;> split<;>(try(rename_i h1;cases h1))<;>(try(split))<;>first|exact h|(rw[X8g];exact h)|exact Nat.le_trans h (X0l _ _ _ _ _ _)
theorem unwind_gw(p:Program)(main:Bool)(fr:Frame)(callers:List Frame)(dying:Option Dying)(w:World):w.drawn≤(gw (unwind p main fr callers dying w)).drawn:=by
 unfold unwind
 split
 · rename_i block _ ds _
   have h:=Q2j p (Instr.takeDeferred block) w #[]
   generalize (Instr.takeDeferred block).runT p w #[]=x at h ⊢
   obtain⟨x,es⟩:=x
   dsimp only
   rw[Q4w]
   cases x<;>exact h
 · exact X0u _ _ _ _ _ _
 · split
   · exact Nat.le_refl _
   · split
     · exact Nat.le_refl _
     · split
       · exact Nat.le_refl _
       · split
         · split
           · exact Nat.le_refl _
           · rename_i chain _ _ _ _ _
             have h:=Q2c p (reportChain chain false) w
             generalize (reportChain chain false).run p w=x at h ⊢
             cases x<;>dsimp only[rw_] at h ⊢<;> (try split)<;>(try(rename_i h1;cases h1))<;>exact h
         · split
           · rw[Q6o];exact Nat.le_refl _
           · exact Nat.le_refl _
   · split
     · rw[Q7b];exact Nat.le_refl _
     · rename_i fn _
       have h:=Q2j p (results fn fr.tmps) w #[]
       generalize (results fn fr.tmps).runT p w #[]=x at h ⊢
       obtain⟨x,es⟩:=x
       dsimp only
       rw[Q4w]
       cases x<;>dsimp only[rw_] at h ⊢<;> (try split)<;>(try(rename_i h1;cases h1))<;>first|exact h|(rw[Q7b];exact h)
theorem early_gw(p:Program)(fr:Frame)(callers:List Frame)(dying:Option Dying)(g:Nat)(w:World):w.drawn≤(gw (early p fr callers dying g w)).drawn:=by
 have hn:∀w:World,w.drawn≤(gw (match w.heap[g]? with
  |some (.pending c elem)=>
   .go {frame:=fr,callers,status:=.running,dying} {w with heap:=w.heap.setIfInBounds g (.cells c elem)}
  |_=>.ended (.stuck "early: the variable does not wait" (fr.pos p)) w)).drawn:=fun w=>by
  split<;>exact Nat.le_refl _
 unfold early
 extract_lets refuse notYet
 have hn':∀w:World,w.drawn≤(gw (notYet w)).drawn:=fun w=>by
  show w.drawn≤(gw (match w.heap[g]? with|some (.pending c elem)=>_|_=>_)).drawn
  split<;>exact Nat.le_refl _
 split
 · exact hn' w
 · split
   · exact Nat.le_refl _
   · extract_lets there
     have ht:∀w:World,w.drawn≤(gw (there w)).drawn:=fun w=>Nat.le_refl _
     have h:=Q2c p (choose (.early g)) w
     generalize (choose (.early g)).run p w=x at h ⊢
     repeat' split
     all_goals first
      |exact hn' w
      |exact ht w
      |exact Nat.le_refl _
      |exact Nat.le_trans h (hn' _)
      |exact Nat.le_trans h (ht _)
      |exact h
theorem Q9m(p:Program)(listen:Bool)(fr:Frame)(callers:List Frame)(dying:Option Dying)(s:Sem Next)(w:World):w.drawn≤(gw (stepG.apply p listen fr callers dying s w)).drawn:=by
 unfold stepG.apply
 extract_lets go kind
 have h:w.drawn≤(rw_ (if listen then s.runT p w #[] else(s.run p w,#[])).1).drawn:=by
  split
  · exact Q2j p s w #[]
  · exact Q2c p s w
 generalize (if listen then s.runT p w #[] else(s.run p w,#[]):Result Next×Array Event)=x at h ⊢
 obtain⟨x,es⟩:=x
 dsimp only
 rw[Q4w]
 cases x<;>dsimp only[rw_] at h ⊢<;> (try split)<;>(try(rename_i h1;cases h1))<;>(try exact h)
 all_goals first
  |exact Nat.le_trans h (X0l _ _ _ _ _ _)
  |exact Nat.le_trans h (early_gw _ _ _ _ _ _)
  |(refine X6d ?_ ?_<;>exact h)
  |(split<;>exact h)
theorem oper_gw(p:Program)(listen:Bool)(fr:Frame)(callers:List Frame)(dying:Option Dying)(w:World):w.drawn≤(gw (stepG.oper p listen fr callers dying w)).drawn:=by
 unfold stepG.oper
 split
 · exact Nat.le_refl _
 · split<;>exact Q9m _ _ _ _ _ _ _
theorem exec_gw(p:Program)(main listen:Bool)(fr:Frame)(callers:List Frame)(dying:Option Dying)(w:World):w.drawn≤(gw (stepG.exec p main listen fr callers dying w)).drawn:=by
 unfold stepG.exec
 extract_lets go to lost leave
 have hgo:∀(fr:Frame) (w':World),gw (go fr w')=w':=fun _ _=>rfl
 have hto:∀l,gw (to l)=w:=fun _=>rfl
 have hlo:∀s,gw (lost s)=w:=fun _=>rfl
 have hle:∀j,w.drawn≤(gw (leave j)).drawn:=fun j=>by
  show w.drawn≤(gw (match fr.roundOf with|none=>_|some l=>_)).drawn
  split
  · refine X6d ?_ ?_<;>exact Nat.le_refl _
  · rename_i l _
    have h:=Q2j p (Instr.endRound l j) w #[]
    generalize (Instr.endRound l j).runT p w #[]=x at h ⊢
    obtain⟨x,es⟩:=x
    dsimp only
    rw[Q4w]
    cases x<;>dsimp only[rw_] at h ⊢
    · rw[Q7b];exact h
    · exact h
 clear_value go to lost leave
 split
 all_goals(try dsimp only)
 all_goals first
  |exact hle _
  |(rw[hto];exact Nat.le_refl _)
  |(rw[hlo];exact Nat.le_refl _)
  |exact Nat.le_refl _
  |exact Q9m _ _ _ _ _ _ _
  |(split<;>first|(rw[hto];exact Nat.le_refl _)|(rw[hlo];exact Nat.le_refl _))
  |skip
 · cases exitTo _ _ with
   |none=>exact hle _
   |some l=>exact Nat.le_of_eq (congrArg World.drawn (hto l)).symm
 · cases gotoIn _ _ with
   |none=>exact hle _
   |some l=>exact Nat.le_of_eq (congrArg World.drawn (hto l)).symm
 · rename_i f params assign body k _
   have h:=Q2j p (Instr.enterLoop fr.fn fr.tmps params assign body fr.roundOf) w #[]
   generalize (Instr.enterLoop fr.fn fr.tmps params assign body fr.roundOf).runT p w #[]=x at h ⊢
   obtain⟨x,es⟩:=x
   dsimp only
   rw[Q4w]
   cases x<;>dsimp only[rw_] at h ⊢
   · exact Nat.le_trans h (Q9m _ _ _ _ _ _ _)
   · exact h
 · rename_i l k _
   have h:=Q2j p (Instr.endLoop l) w #[]
   generalize (Instr.endLoop l).runT p w #[]=x at h ⊢
   obtain⟨x,es⟩:=x
   dsimp only
   rw[Q4w]
   cases x<;>dsimp only[rw_] at h ⊢<;> (try split)<;>(try(rename_i h1;cases h1))<;>first|exact h|(rw[hgo];exact h)
 · cases Extern.next _ with
   |none=>exact Nat.le_of_eq (congrArg World.drawn (hlo _)).symm
   |some e=>exact Q9m _ _ _ _ _ _ _
 · refine X6d ?_ ?_
   · rw[hto];exact Nat.le_refl _
   · rename_i id ops draw k _
     have h:=Q2c p (choose (.order fr.fn id)) w
     generalize (choose (.order fr.fn id)).run p w=x at h ⊢
     cases x<;>dsimp only[rw_] at h ⊢
     · rw[hgo];exact h
     · exact h
 · refine X6d ?_ ?_
   · exact oper_gw _ _ _ _ _ _
   · rw[hgo];exact Nat.le_refl _
theorem stepG_gw(p:Program)(main:Bool)(g:Goroutine)(w:World)(listen:Bool):w.drawn≤(gw (stepG p main g w listen)).drawn:=by
 unfold stepG
 dsimp only
 split
 · exact die_gw _ _ _ _
 · exact exec_gw _ _ _ _ _ _ _
 · exact unwind_gw _ _ _ _ _ _
def sw:Stepped→World
 |.next m=>m.world
 |.ended _ w=>w
theorem X4s{rest:Rest}{cases:Array CommCase}{w w':World}(h:waitingAt rest cases w=some w'):w'.drawn=w.drawn:=by
 unfold waitingAt at h
 split at h
 · split at h
   · cases h;rfl
   · cases h
 · cases h;rfl
theorem ite_sw{c:Prop}[Decidable c]{a b:Stepped×Array MemOp}{w:World}(ha:w.drawn≤(sw a.1).drawn)(hb:w.drawn≤(sw b.1).drawn):w.drawn≤(sw (if c then a else b).1).drawn:=by
 split
 · exact ha
 · exact hb
theorem X1k(p:Program)(rest:Rest)(gs:Array Goroutine)(i:Nat)(g:Goroutine)(cases:Array CommCase)(blocking:Bool)(shape:CommShape)(w:World) :
 w.drawn≤(sw (communicate p rest gs i g cases blocking shape w).1).drawn:=by
 unfold communicate
 extract_lets put illMade me other ready pick
 have hp:∀g gs (w:World) ops,sw (put g gs w ops).1=w:=fun _ _ _ _=>rfl
 clear_value put
 refine ite_sw (Nat.le_refl _) ?_
 refine ite_sw (ite_sw ?_ ?_) ?_
 · split
   · rename_i h
     exact Nat.le_of_eq (X4s h).symm
   · exact Nat.le_refl _
 · rw[hp];exact Nat.le_refl _
 · have h:=Q2c p pick w
   generalize pick.run p w=x at h ⊢
   cases x with
   |halt e w'=>exact h
   |ok a w'=>
    obtain⟨k,c,way⟩:=a
    dsimp only[rw_] at h ⊢
    split
    · have h2:=Q2c p (runtimePanic (.plain "send on closed channel"):Sem Unit) w'
      generalize (runtimePanic (.plain "send on closed channel"):Sem Unit).run p w'=x at h2 ⊢
      split
      · rw[hp];exact Nat.le_trans h h2
      · exact h
    · rw[hp];exact h
    · rw[hp];exact h
    · split
      · rw[hp];exact h
      · split
        · rename_i h2
          have h3:=congrArg (fun x=>(rw_ x).drawn) h2
          refine Nat.le_trans ?_ (Nat.le_of_eq (congrArg World.drawn (hp _ _ _ _)).symm)
          exact Nat.le_trans h (Nat.le_trans (Q2c p _ w') (Nat.le_of_eq h3))
        · rename_i h2
          have h3:=congrArg (fun x=>(rw_ x).drawn) h2
          exact Nat.le_trans h (Nat.le_trans (Q2c p _ w') (Nat.le_of_eq h3))
    · rw[hp];exact h
    · rw[hp];exact h
    · exact h
theorem drain_dr(w:World)(c:Nat):(drain w c).2.drawn=w.drawn:=by
 unfold drain;split<;>rfl
theorem X5h(m:Machine)(k:Nat)(t:Timer)(when period:Nat):(retime m k t when period).2.world.drawn=m.world.drawn:=by
 unfold retime
 cases t.chan with
 |none=>rfl
 |some c=>exact drain_dr m.world c
theorem Z1a{m m':Machine}{op:TimerOp}{v:Value}(h:timerOp m op = .ok (v,m')):m'.world.drawn=m.world.drawn:=by
 unfold timerOp at h
 split at h
 · split at h
   · cases h;rfl
   · split at h
     · split at h
       · cases h
       · cases h;rfl
     · cases h
 · unfold timerOp.named at h
   split at h
   · cases h;exact X5h _ _ _ _ _
   · cases h
 · unfold timerOp.opened at h
   split at h
   · rename_i m1 h1
     have e1:m1.world.drawn=m.world.drawn:=by
      split at h1
      · split at h1
        · cases h1;rfl
        · cases h1
      · cases h1;rfl
     unfold timerOp.named at h
     split at h
     · cases h;exact(X5h _ _ _ _ _).trans e1
     · cases h
   · cases h
 · cases h;rfl
theorem look_sw(p:Program)(gs:Array Goroutine)(rest:Rest)(w:World):w.drawn≤(sw (look p gs rest w)).drawn:=by
 unfold look
 split
 · dsimp only
   split
   · exact Nat.le_refl _
   · split
     · exact Nat.le_refl _
     · split
       · rename_i h2
         exact Nat.le_trans (Q2c p _ w) (Nat.le_of_eq (congrArg (fun x=>(rw_ x).drawn) h2))
       · rename_i h2
         exact Nat.le_trans (Q2c p _ w) (Nat.le_of_eq (congrArg (fun x=>(rw_ x).drawn) h2))
       · rename_i h2
         exact Nat.le_trans (Q2c p _ w) (Nat.le_of_eq (congrArg (fun x=>(rw_ x).drawn) h2))
 · exact Nat.le_refl _
theorem serve_sw(p:Program)(m:Machine)(k:Nat):m.world.drawn≤(sw (serve p m k)).drawn:=by
 unfold serve
 split
 · exact Nat.le_refl _
 · exact Nat.le_refl _
 · extract_lets
   split<;>exact Nat.le_refl _
theorem runT_sw(p:Program)(m:Machine)(i:Nat)(listen:Bool):m.world.drawn≤(sw (runT p m i listen).1).drawn:=by
 unfold runT
 generalize m.gs.swapAt! i {(default:Goroutine) with status:=.finished}=y
 obtain⟨g,gs⟩:=y
 have h:=stepG_gw p (i==0) g m.world listen
 dsimp only
 generalize stepG p (i==0) g m.world listen=s at h ⊢
 cases s<;>dsimp only[gw] at h ⊢<;> (try exact h)
 · exact Nat.le_trans h (X1k _ _ _ _ _ _ _ _ _)
 · split<;>exact h
 · split
   · rename_i h1
     have:=Z1a h1
     exact Nat.le_trans h (Nat.le_of_eq this.symm)
   · exact h
   · exact h
   · exact h
 · repeat' split
   all_goals first|exact h|(rename_i h1;cases h1;exact h)
 · exact Nat.le_trans h (look_sw _ _ _ _)
def mx(w:World):Move→Prop
 |.goroutine m _=>w.drawn≤m.world.drawn
 |.machine (.next m) _=>w.drawn≤m.world.drawn
 |.machine (.ended _ _) _=>True
theorem mx_sw{w:World}{s:Stepped}{ops:Array MemOp}(h:w.drawn≤(sw s).drawn):mx w (.machine s ops):=by
 cases s with
 |next m=>exact h
 |ended o w=>trivial
theorem Z1t{w w':World}(h:w.drawn≤w'.drawn):∀{mv:Move},mx w' mv→mx w mv
 |.goroutine m _,h'=>Nat.le_trans h h'
 |.machine (.next m) _,h'=>Nat.le_trans h h'
 |.machine (.ended _ _) _,_=>trivial
theorem X4p(p:Program)(m:Machine):mx m.world (askOn p m):=by
 unfold askOn
 extract_lets mono rs ds pick
 have hpick:∀m:Machine,mx m.world (pick m):=fun m=>by
  show mx m.world (match (choose (.sched rs.length)).run p m.world with | .halt _ w=>_ | .ok k world=>_)
  have h:=Q2c p (choose (.sched rs.length)) m.world
  generalize (choose (.sched rs.length)).run p m.world=x at h ⊢
  cases x with
  |halt e w=>trivial
  |ok k world=>
   dsimp only[rw_] at h ⊢
   split
   · exact h
   · have h2:=Q2c p (choose (.extern "sched.slice" 65536)) world
     generalize (choose (.extern "sched.slice" 65536)).run p world=x at h2 ⊢
     cases x
     · exact Nat.le_trans h h2
     · trivial
 clear_value pick rs
 split
 · trivial
 · rename_i k world h1
   have h:m.world.drawn≤world.drawn:=Nat.le_trans (Q2c p _ m.world) (Nat.le_of_eq (congrArg (fun x=>(rw_ x).drawn) h1))
   clear h1
   refine Z1t h ?_
   dsimp only
   split
   · exact mx_sw (serve_sw p {m with world} _)
   · cases rs with
     |nil=>
      dsimp only
      split
      · exact Nat.le_refl _
      · split
        · exact Nat.le_refl _
        · split<;>trivial
     |cons r rs=>
      dsimp only
      split
      · exact hpick {m with world}
      · split
        · trivial
        · rename_i w2 h1
          have h2:world.drawn≤w2.drawn:=Nat.le_trans (Q2c p _ world) (Nat.le_of_eq (congrArg (fun x=>(rw_ x).drawn) h1))
          exact Z1t h2 (hpick {m with world:=w2})
        · rename_i w2 h1
          have h2:world.drawn≤w2.drawn:=Nat.le_trans (Q2c p _ world) (Nat.le_of_eq (congrArg (fun x=>(rw_ x).drawn) h1))
          exact h2
        · rename_i w2 h1
          have h2:world.drawn≤w2.drawn:=Nat.le_trans (Q2c p _ world) (Nat.le_of_eq (congrArg (fun x=>(rw_ x).drawn) h1))
          exact Z1t h2 (hpick (({m with world:=w2}:Machine).advanceTo _))
theorem ask_mx(p:Program)(m:Machine):mx m.world (ask p m):=by
 unfold ask
 split
 · split
   · trivial
   · rename_i w h1
     have h:m.world.drawn≤w.drawn:=Nat.le_trans (Q2c p _ m.world) (Nat.le_of_eq (congrArg (fun x=>(rw_ x).drawn) h1))
     have h2:=look_sw p m.gs m.rest w
     refine Z1t h ?_
     generalize look p m.gs m.rest w=s at h2 ⊢
     cases s with
     |next m'=>exact Z1t h2 (X4p p m')
     |ended o w=>trivial
   · rename_i w _ h1
     have h:m.world.drawn≤w.drawn:=Nat.le_trans (Q2c p _ m.world) (Nat.le_of_eq (congrArg (fun x=>(rw_ x).drawn) h1))
     exact Z1t h (X4p p {m with world:=w})
 · exact X4p p m
theorem move_mx(p:Program)(m:Machine):mx m.world (move p m):=by
 unfold move
 split
 · split
   · exact Nat.le_refl _
   · trivial
 · split
   · split
     · exact Nat.le_refl _
     · exact ask_mx p {m with rest:={m.rest with slice:=none}}
   · exact ask_mx p m
theorem step_dr{p:Program}{m m':Machine}(h:step p m = .next m'):m.world.drawn≤m'.world.drawn:=by
 have h1:=move_mx p m
 unfold step stepT at h
 generalize move p m=mv at h h1
 match mv,h,h1 with
 |.goroutine m1 i,h,h1=>
  have h2:=runT_sw p m1 i true
  dsimp only at h
  rw[h] at h2
  exact Nat.le_trans h1 h2
 |.machine (.next m1) _,h,h1=>cases h;exact h1
 |.machine (.ended _ _) _,h,h1=>cases h
theorem X8v{p:Program}:∀{n:Nat} {m m':Machine},runN p n m = .next m'→m.world.drawn≤m'.world.drawn
 |0,m,m',h=>by cases h;exact Nat.le_refl _
 |n+1,m,m',h=>by
  unfold runN at h
  split at h
  · rename_i m1 h1
    exact Nat.le_trans (step_dr h1) (X8v h)
  · rename_i h1
    exact(h1 _ h).elim
open Go.Proofs in
theorem calls_dr{P:Program}{f:FuncId}{args:Array Value}{w:World}{R:Ending→World→Prop}(h:Calls P f args w fun e w'=>(∃v,e = .returned v)∧R e w') :
 Calls P f args w fun e w'=>R e w'∧w.drawn≤w'.drawn:=by
 intro cs
 obtain⟨e,w',fr,⟨⟨v,rfl⟩,hR⟩,hc,hf,hl⟩:=h cs
 obtain⟨n,hn⟩:=hc
 exact⟨_,w',fr,⟨hR,X8v hn⟩,⟨n,hn⟩,hf,hl⟩
end
section
open Go.RowKit
set_option maxHeartbeats 2000000
theorem Q6h{α : Type}[Inhabited α](enc:α→List Value)(k:Nat)(hk:∀x,(enc x).length=k)(l:List α):Sort.flatK enc k l.toArray=(l.flatMap enc).toArray:=by
 have hlen:(l.flatMap enc).length=l.length*k:=by
  induction l with
  |nil=>simp
  |cons x l ih=>rw[List.flatMap_cons,List.length_append,ih,hk,List.length_cons,Nat.add_mul,Nat.one_mul,Nat.add_comm]
 refine Sort.ext_get! (by simp[hlen]) fun t ht=>?_
 have ht':t<l.length*k:=by simpa using ht
 have k0:0<k:=by
  rcases Nat.eq_zero_or_pos k with h|h
  · subst h;simp at ht'
  · exact h
 rw[Sort.get_flatK _ _ _ t (by simpa using ht')]
 have hi:t/k<l.length:=Nat.div_lt_of_lt_mul (by rwa [Nat.mul_comm] at ht')
 have hm:t%k<k:=Nat.mod_lt _ k0
 have key:∀(l:List α) (i j:Nat) (x:α),l[i]? = some x→j<k→(l.flatMap enc)[i*k+j]? = (enc x)[j]?:=by
  intro l
  induction l with
  |nil=>intro i j x h;simp at h
  |cons y l ih=>
   intro i j x h hj
   rw[List.flatMap_cons]
   cases i with
   |zero=>
    simp at h;subst h
    rw[Nat.zero_mul,Nat.zero_add,List.getElem?_append_left (by rw[hk];exact hj)]
   |succ i=>
    rw[List.getElem?_append_right (by rw[hk,Nat.add_mul];omega),hk,show(i+1)*k+j-k=i*k+j by rw[Nat.add_mul];omega]
    exact ih i j x (by simpa using h) hj
 have h1:=key l (t/k) (t%k) _ (List.getElem?_eq_getElem hi) hm
 have e:t/k*k+t%k=t:=by rw[Nat.mul_comm];exact Nat.div_add_mod t k
 rw[e] at h1
 have e2:l.toArray[t/k]! = l[t/k]:=by rw[getElem!_pos _ _ (by simpa using hi)];simp
 rw[e2]
 have e3:t<(l.flatMap enc).toArray.size:=by simp[hlen];exact ht'
 rw[getElem!_pos _ t e3]
 rw[getElem!_pos _ _ (by rw[hk];exact hm)]
 rw[List.getElem?_eq_getElem (by rw[hlen];exact ht'),List.getElem?_eq_getElem (by rw[hk];exact hm)] at h1
 simpa using (Option.some.inj h1).symm
theorem X2h{α : Type}[Inhabited α]{P:Program}{g:FuncId}{enc:α→List Value}{k:Nat}{cf:α→α→Int}(h1:∀x,∀v∈enc x,v.oneCell'=true)
 (hF:∀x y,Fn P g [.agg ((enc x).map fun v=>.c (.v v)),.agg ((enc y).map fun v=>.c (.v v))] [] (.c (.v (.int .i64 (cf x y)))) [])
 (E:Env) {r:Nat} (hr:r∈E.D) (hz:(E.ι r).2.1≠0) (n:Nat):CmpLays P g #[] enc k cf (E.ι r).1 0 n E.w:=by
 intro m os dk hdk x y
 have hG:GlobOK (sortWorldK enc k E.w (E.ι r).1 0 m dk os) (fun _=>True) (fun _=>(0,0,0)) []:=fun b cs hg=>by
  obtain⟨_,k2,k3,k4,k5⟩:=E.hG b cs hg
  refine⟨trivial,fun r h=>(by cases h),k3,k4,fun j u hu=>?_⟩
  have hc:=k5 j u hu
  rw[cell?_sortWorldK_other enc k E.w (E.ι r).1 0 m dk os ⟨b,j,none⟩ (Ne.symm (k2 r hr hz)) (block_lt_of_cell hc)]
  exact hc
 have hag:∀z:α,RV (fun _=>True) (fun _=>(0,0,0)) (sortWorldK enc k E.w (E.ι r).1 0 m dk os) (.agg (enc z).toArray) (.agg ((enc z).map fun v=>.c (.v v))):=fun z=>by
  refine .agg _ _ (by simp) (h1 z) fun j u p hu hp=>?_
  rw[List.getElem?_map,hu] at hp
  cases hp
  exact .c _ _ (.v _ (h1 z u (List.mem_of_getElem? hu)))
 have h2:=hF x y ⟨sortWorldK enc k E.w (E.ι r).1 0 m dk os,fun _=>True,fun _=>(0,0,0),[],fun r h=>(by cases h),hG⟩ [.agg (enc x).toArray,.agg (enc y).toArray] rfl (fun r cs b h=>by cases h) ⟨fun r cs h=>(by cases h),fun r q cs ds h=>(by cases h)⟩ rfl fun j v p hv hp=>by
  match j,hv,hp with
  |0,hv,hp=>cases hv;cases hp;exact hag x
  |1,hv,hp=>cases hv;cases hp;exact hag y
  |j+2,hv,hp=>simp at hv
 have h3:=calls_dr (h2.mono (R':=fun e w'=>(∃v,e = .returned v)∧(e = .returned (.int .i64 (cf x y))∧w'.os=(sortWorldK enc k E.w (E.ι r).1 0 m dk os).os∧w'.tape=(sortWorldK enc k E.w (E.ι r).1 0 m dk os).tape∧w'.output=(sortWorldK enc k E.w (E.ι r).1 0 m dk os).output∧(sortWorldK enc k E.w (E.ι r).1 0 m dk os).heap.size≤w'.heap.size∧∀b,b<(sortWorldK enc k E.w (E.ι r).1 0 m dk os).heap.size→w'.heap[b]? = (sortWorldK enc k E.w (E.ι r).1 0 m dk os).heap[b]?)) (by
  rintro e w' ⟨v,ι',rfl,hv,_,hk⟩
  cases hv with
  |c _ _ hp=>
   cases hp with
   |v=>exact⟨⟨_,rfl⟩,rfl,hk.os,hk.tape,hk.output,hk.size,fun b hb=>hk.block b hb fun r h=>by cases h⟩))
 refine h3.mono ?_
 rintro e w' ⟨⟨rfl,g1,g2,g3,g4,g5⟩,g6⟩
 refine⟨rfl,w'.drawn-(sortWorldK enc k E.w (E.ι r).1 0 m dk os).drawn,w'.heap.extract (sortWorldK enc k E.w (E.ι r).1 0 m dk os).heap.size w'.heap.size,?_⟩
 generalize sortWorldK enc k E.w (E.ι r).1 0 m dk os=W at *
 obtain⟨hp,tp,dr,o,ot⟩:=w'
 obtain⟨hp',tp',dr',o',ot'⟩:=W
 dsimp only at g1 g2 g3 g4 g5 g6
 subst g1 g2 g3
 unfold Sort.grow World.drewN
 dsimp only
 have e1:hp=hp'++hp.extract hp'.size hp.size:=by
  refine Array.ext_getElem? fun i=>?_
  rcases Nat.lt_or_ge i hp'.size with h|h
  · rw[Array.getElem?_append_left h,g5 i h]
  · rw[Array.getElem?_append_right h]
    rcases Nat.lt_or_ge i hp.size with h'|h'
    · rw[Array.getElem?_extract,if_pos (by omega),show hp'.size+(i-hp'.size)=i by omega]
    · rw[Array.getElem?_eq_none h',Array.getElem?_eq_none (by simp;omega)]
 rw[←e1,show dr'+(dr-dr')=dr by omega]
theorem Fn.sortingK{P:Program}{f g:FuncId}{e:TypeId}{k n:Nat}(L L':List Value)(hL:L.length=n*k)(hlen:L'.length=L.length)(h1:∀v∈L,v.oneCell'=true)(h1':∀v∈L',v.oneCell'=true)
 (hS:∀(E:Env) (cap:Nat),1000∈E.D→(E.ι 1000).2.1≠0→(E.ι 1000).1<E.w.heap.size→Sort.Holds id E.w (E.ι 1000).1 0 L.toArray→Calls P f #[.slice (some ⟨(E.ι 1000).1,0,none⟩) n cap,.func (.func g) #[] #[]] E.w fun e w'=>e = .returned (.tuple #[])∧∃m os,w'=sortWorld id E.w (E.ι 1000).1 0 m L'.toArray os)
 (h0:∀p cap w,Calls P f #[.slice p 0 cap,.func (.func g) #[] #[]] w fun e w'=>e = .returned (.tuple #[])∧w'=w) :
 Fn P f [.row 1000 e k n,.fn g []] [(1000,L.map fun x=>.c (.v x))] (.tup []) [(1000,L'.map fun x=>.c (.v x))]:=by
 intro E vs hD hsep hH hvl hv
 obtain⟨v0,v1,rfl⟩:∃v0 v1,vs=[v0,v1]:=by
  match vs,hvl with
  |[v0,v1],_=>exact⟨v0,v1,rfl⟩
 have r0:=hv 0 v0 _ rfl rfl
 have r1:=hv 1 v1 _ rfl rfl
 have hmine:(∀(q:Nat) cs,hget [(1000,L'.map fun x=>AV.c (.v x))] q=some cs→(q∈E.D→E.ι q=E.ι q)∧(q∉E.D→(E.ι q).2.1≠0→Mine E (E.ι q).1)):=fun q cs hq=>
  ⟨fun _=>rfl,fun hn _=>by
    rw[hD] at hn
    simp only[hget] at hq
    split at hq
    · rename_i e;subst e;simp at hn
    · cases hq⟩
 have hblk0:=hH.blk 1000 (L.map fun x=>AV.c (.v x)) (by simp[hget])
 cases r1 with
 |fn _ us _ hul hus=>
 obtain rfl:=List.eq_nil_of_length_eq_zero hul
 have hnone:∀p c,n=0→v0 = .slice p 0 c→Calls P f [v0,.func (.func g) #[] #[]].toArray E.w fun e w'=>∃v ι',e = .returned v∧RV (Sx E ι' [(1000,L'.map fun x=>AV.c (.v x))]) ι' w' v (.tup [])∧ConcH (Sx E ι' [(1000,L'.map fun x=>AV.c (.v x))]) ι' [(1000,L'.map fun x=>AV.c (.v x))] w'∧Keep E ι' [(1000,L'.map fun x=>AV.c (.v x))] w':=by
  intro p c hn0 hv0
  subst hv0
  have hl0:L=[]:=List.eq_nil_of_length_eq_zero (by rw[hL,hn0,Nat.zero_mul])
  subst hl0
  obtain rfl:=List.eq_nil_of_length_eq_zero hlen
  refine(h0 p c E.w).mono ?_
  rintro e w' ⟨rfl,rfl⟩
  refine⟨_,E.ι,rfl,.tup [] [] rfl (fun j u x hu=>by cases hu),⟨fun q cs hq=>?_,fun q q' cs ds hq hq' hne=>?_⟩,⟨rfl,rfl,rfl,Nat.le_refl _,fun _ _ _=>rfl,hmine⟩⟩
  · simp only[hget] at hq
    split at hq
    · rename_i e;subst e;cases hq
      rcases hblk0 with hb|⟨cur,hc1,hc2,hc3,hc4,hc5⟩
      · exact .inl hb
      · exact .inr ⟨cur,hc1,hc2,hc3,fun j u x hu hx=>(by cases hx),hc5⟩
    · cases hq
  · simp only[hget] at hq hq'
    split at hq
    · split at hq'
      · omega
      · cases hq'
    · cases hq
 rcases Nat.eq_zero_or_pos n with hn0|hn0
 · generalize hn:n=m at r0
   have hm0:m=0:=by omega
   cases r0 with
   |row _ _ _ _ c k1 k2 k3 k4 k0=>exact hnone _ _ hn0 (by rw[hm0])
   |rnil A _ _ _ k=>exact hnone A 0 hn0 rfl
 · generalize hn:n=m at r0
   cases r0 with
   |rnil A _ _ _ k=>omega
   |row _ _ _ _ c k1 k2 k3 k4 k0=>
    rcases hblk0 with hb|⟨cur,hc1,hc2,hc3,hc4,hc5⟩
    · exact absurd hb.1 k0
    · rw[List.length_map] at hc3
      have hlt:(E.ι 1000).1<E.w.heap.size:=(Array.getElem?_eq_some_iff.1 hc1).1
      have hHo:Sort.Holds id E.w (E.ι 1000).1 0 L.toArray:=by
       intro j hj
       have hj':j<L.length:=by simpa using hj
       have hjc:j<cur.size:=by omega
       refine⟨?_,Q6y hc1 _⟩
       rw[Nat.zero_add,X8m hc1,Array.getElem?_eq_getElem hjc]
       obtain⟨hrv,_⟩:=hc4 j _ (.c (.v L[j])) (Array.getElem?_eq_getElem hjc) (by rw[List.getElem?_map,List.getElem?_eq_getElem hj'];rfl)
       generalize cur[j]=u at hrv ⊢
       cases hrv with
       |c _ _ hp=>
        cases hp with
        |v=>
         rw[getElem!_pos _ j hj]
         simp
      have hC:=hS E c (by rw[hD];simp) k0 hlt hHo
      rw[hn] at hC
      refine hC.mono ?_
      rintro e w' ⟨rfl,m',os,rfl⟩
      have hnew:=Q6x (enc:=id) (m:=m') (d:=L'.toArray) (os:=os) hc1
      have hcs:(Sort.putCells id 0 L'.toArray cur).size=cur.size:=by simp[Sort.putCells]
      have hcell:∀(j:Nat) (u:Value),(Sort.putCells id 0 L'.toArray cur)[j]? = some u→∃y,cur[j]? = some y∧((∀h:j<L'.length,u=L'[j])∧(¬j<L'.length→u=y)):=by
       intro j u hu
       have hj:j<cur.size:=by rw[←hcs];exact(Array.getElem?_eq_some_iff.1 hu).1
       refine⟨_,Array.getElem?_eq_getElem hj,?_⟩
       simp only[Sort.putCells,Array.getElem?_mapIdx,Array.getElem?_eq_getElem hj,Option.map_some,Option.some.injEq] at hu
       rw[←hu]
       refine⟨fun h=>?_,fun h=>?_⟩
       · rw[if_pos (by simpa using h),Nat.sub_zero,getElem!_pos _ j (by simpa using h)]
         simp
       · rw[if_neg (by simpa using h)]
      refine⟨_,E.ι,rfl,.tup [] [] rfl (fun j u x hu=>by cases hu),⟨fun q cs hq=>?_,fun q q' cs ds hq hq' hne'=>?_⟩,⟨rfl,rfl,rfl,Q6s,fun b hb hnb=>?_,hmine⟩⟩
      · simp only[hget] at hq
        split at hq
        · rename_i e;subst e;cases hq
          refine .inr ⟨_,hnew,by rw[hcs];exact hc2,by rw[hcs,List.length_map];omega,fun j u x hu hx=>?_,fun u hu=>?_⟩
          · obtain⟨y,hy,hu1,_⟩:=hcell j u hu
            rw[List.getElem?_map,Option.map_eq_some_iff] at hx
            obtain⟨z,hz,rfl⟩:=hx
            obtain⟨hj,hz'⟩:=List.getElem?_eq_some_iff.1 hz
            have:u=z:=(hu1 hj).trans hz'
            subst this
            exact⟨.c _ _ (.v _ (h1' u (List.mem_of_getElem? hz))),h1' u (List.mem_of_getElem? hz)⟩
          · obtain⟨j,hj⟩:=List.mem_iff_getElem?.1 hu
            rw[Array.getElem?_toList] at hj
            obtain⟨y,hy,hu1,hu2⟩:=hcell j u hj
            by_cases h:j<L'.length
            · rw[hu1 h];exact h1' _ (List.getElem_mem h)
            · rw[hu2 h]
              exact hc5 y (by
               rw[←Array.getElem?_toList] at hy
               exact List.mem_of_getElem? hy)
        · cases hq
      · simp only[hget] at hq hq'
        split at hq
        · split at hq'
          · omega
          · cases hq'
        · cases hq
      · exact Q3x hb (hnb 1000 (by rw[hD];simp) k0)
end
section
open Go.RowKit
set_option maxRecDepth 20000
set_option maxHeartbeats 2000000
def Q9r:Go.Shelf.Ren:=⟨fun|6=>47|15=>76|14=>75|28=>130|29=>131|20=>122|21=>123|22=>124|23=>125|24=>126|25=>127|26=>128|27=>129|46=>154|47=>155|48=>156|49=>157|50=>158|57=>178|n=>n,fun|22=>28|24=>37|25=>89|3=>3|39=>55|0=>0|53=>160|55=>22|4=>4|46=>153|45=>152|50=>157|5=>5|9=>9|66=>184|70=>188|76=>203|77=>204|n=>n,fun|n=>n⟩
theorem sortS:Go.Proofs.SlLaysF0.n6 Tryz.prog Q9r where
 mixed:=by kernel_rfl
 f6:=⟨"slices.SortFunc[[]sheafer/api.Spot,sheafer/api.Spot]",by decide,Tryz.func47.trans (congrArg some (by kernel_rfl))⟩
 f14:=⟨"slices.pdqsortCmpFunc[sheafer/api.Spot]",by decide,Tryz.func75.trans (congrArg some (by kernel_rfl))⟩
 f15:=Tryz.func76.trans (congrArg some (by kernel_rfl))
 f20:=⟨"slices.insertionSortCmpFunc[sheafer/api.Spot]",by decide,Tryz.func122.trans (congrArg some (by kernel_rfl))⟩
 f21:=⟨"slices.heapSortCmpFunc[sheafer/api.Spot]",by decide,Tryz.func123.trans (congrArg some (by kernel_rfl))⟩
 f22:=⟨"slices.breakPatternsCmpFunc[sheafer/api.Spot]",by decide,Tryz.func124.trans (congrArg some (by kernel_rfl))⟩
 f23:=⟨"slices.choosePivotCmpFunc[sheafer/api.Spot]",by decide,Tryz.func125.trans (congrArg some (by kernel_rfl))⟩
 f24:=⟨"slices.reverseRangeCmpFunc[sheafer/api.Spot]",by decide,Tryz.func126.trans (congrArg some (by kernel_rfl))⟩
 f25:=⟨"slices.partialInsertionSortCmpFunc[sheafer/api.Spot]",by decide,Tryz.func127.trans (congrArg some (by kernel_rfl))⟩
 f26:=⟨"slices.partitionEqualCmpFunc[sheafer/api.Spot]",by decide,Tryz.func128.trans (congrArg some (by kernel_rfl))⟩
 f27:=⟨"slices.partitionCmpFunc[sheafer/api.Spot]",by decide,Tryz.func129.trans (congrArg some (by kernel_rfl))⟩
 f28:=Tryz.func130.trans (congrArg some (by kernel_rfl))
 f29:=Tryz.func131.trans (congrArg some (by kernel_rfl))
 f46:=⟨"slices.siftDownCmpFunc[sheafer/api.Spot]",by decide,Tryz.func154.trans (congrArg some (by kernel_rfl))⟩
 f47:=Tryz.func155.trans (congrArg some (by kernel_rfl))
 f48:=Tryz.func156.trans (congrArg some (by kernel_rfl))
 f49:=⟨"slices.medianAdjacentCmpFunc[sheafer/api.Spot]",by decide,Tryz.func157.trans (congrArg some (by kernel_rfl))⟩
 f50:=⟨"slices.medianCmpFunc[sheafer/api.Spot]",by decide,Tryz.func158.trans (congrArg some (by kernel_rfl))⟩
 f57:=⟨"slices.order2CmpFunc[sheafer/api.Spot]",by decide,Tryz.func178.trans (congrArg some (by kernel_rfl))⟩
 t0:=Tryz.underlying0
 a0:=Tryz.isAgg0
 z0:=Tryz.sizeOf0
 v0:=Tryz.zeroValue0
 t3:=Tryz.underlying3
 a3:=Tryz.isAgg3
 z3:=Tryz.sizeOf3
 v3:=Tryz.zeroValue3
 t4:=Tryz.underlying4
 a4:=Tryz.isAgg4
 z4:=Tryz.sizeOf4
 v4:=Tryz.zeroValue4
 t5:=Tryz.underlying5
 a5:=Tryz.isAgg5
 z5:=Tryz.sizeOf5
 v5:=Tryz.zeroValue5
 t9:=Tryz.underlying9
 a9:=Tryz.isAgg9
 z9:=Tryz.sizeOf9
 v9:=Tryz.zeroValue9
 t22:=Tryz.underlying28
 a22:=Tryz.isAgg28
 z22:=Tryz.sizeOf28
 v22:=Tryz.zeroValue28
 t25:=Tryz.underlying89
 a25:=Tryz.isAgg89
 z25:=Tryz.sizeOf89
 v25:=Tryz.zeroValue89
 t39:=Tryz.underlying55
 a39:=Tryz.isAgg55
 z39:=Tryz.sizeOf55
 v39:=Tryz.zeroValue55
 t45:=Tryz.underlying152
 a45:=Tryz.isAgg152
 z45:=Tryz.sizeOf152
 v45:=Tryz.zeroValue152
 t46:=Tryz.underlying153
 a46:=Tryz.isAgg153
 z46:=Tryz.sizeOf153
 v46:=Tryz.zeroValue153
 t50:=Tryz.underlying157
 a50:=Tryz.isAgg157
 z50:=Tryz.sizeOf157
 v50:=Tryz.zeroValue157
 t53:=Tryz.underlying160
 a53:=Tryz.isAgg160
 z53:=Tryz.sizeOf160
 v53:=Tryz.zeroValue160
 t55:=Tryz.underlying22
 a55:=Tryz.isAgg22
 z55:=Tryz.sizeOf22
 v55:=Tryz.zeroValue22
 t66:=Tryz.underlying184
 a66:=Tryz.isAgg184
 z66:=Tryz.sizeOf184
 v66:=Tryz.zeroValue184
 t70:=Tryz.underlying188
 a70:=Tryz.isAgg188
 z70:=Tryz.sizeOf188
 v70:=Tryz.zeroValue188
 t76:=Tryz.underlying203
 a76:=Tryz.isAgg203
 z76:=Tryz.sizeOf203
 v76:=Tryz.zeroValue203
 t77:=Tryz.underlying204
 a77:=Tryz.isAgg204
 z77:=Tryz.sizeOf204
 v77:=Tryz.zeroValue204
abbrev SpO:={s:Sp // s.ok}
instance:Inhabited SpO:=⟨⟨⟨0,0⟩,⟨by decide,by decide⟩,by decide⟩⟩
def encS(x:SpO):List Value:=[.int .u64 x.1.a,.int .u64 (l0 x.1.k),.int .u64 (l1 x.1.k),.int .u64 (l2 x.1.k),.int .u64 (l3 x.1.k)]
def cfS(x y:SpO):Int:=cmpI x.1.key y.1.key
theorem ltS(x y:SpO):ltOf cfS x y=decide (x.1.key<y.1.key):=by
 unfold ltOf cfS cmpI
 by_cases h1:x.1.key<y.1.key
 · simp[h1]
 · by_cases h2:y.1.key<x.1.key<;>simp[h1,h2]
theorem swoS:Sort.SWO (ltOf cfS) where
 irrefl x:=by rw[ltS];simp
 trans x y z h1 h2:=by rw[ltS] at *;simp at *;omega
 ntrans x y z h1 h2:=by rw[ltS] at *;simp at *;omega
theorem totS(x y:SpO)(h1:ltOf cfS x y=false)(h2:ltOf cfS y x=false):x=y:=by
 rw[ltS] at *
 simp at *
 exact Subtype.ext (Sp.key_inj x.2 y.2 (by omega))
theorem upS:∀{l:List Sp},(∀a∈l,a.ok)→∃L:List SpO,L.map (·.1)=l
 |[],_=>⟨[],rfl⟩
 |a::l,h=>by
  obtain⟨L,hL⟩:=upS (l:=l) fun b hb=>h b (by simp[hb])
  exact⟨⟨a,h a (by simp)⟩::L,by simp[hL]⟩
theorem X2v(L:List SpO):raS (L.map (·.1))=(L.flatMap encS).map fun v=>AV.c (.v v):=by
 unfold raS
 induction L with
 |nil=>rfl
 |cons x L ih=>
  rw[List.map_cons,List.flatMap_cons,List.map_append,ih,List.flatMap_cons,List.map_append]
  rfl
theorem Q7z(x:SpO):∀v∈encS x,v.oneCell'=true:=by
 intro v hv
 simp only[encS,List.mem_cons,List.not_mem_nil,or_false] at hv
 rcases hv with rfl|rfl|rfl|rfl|rfl<;>rfl
theorem X3t(L:List SpO):∀v∈L.flatMap encS,v.oneCell'=true:=fun v hv=>by
 obtain⟨x,_,hx⟩:=List.mem_flatMap.1 hv
 exact Q7z x v hx
theorem Q8n(L:List SpO):(L.flatMap encS).length=L.length*5:=by
 induction L with
 |nil=>rfl
 |cons x L ih=>rw[List.flatMap_cons,List.length_append,ih,List.length_cons];simp[encS];omega
theorem sortS_fn(l:List Sp)(hl:l.length≤1000000)(hu:∀a∈l,a.ok):∃s:List Sp,s.Perm l∧s.Pairwise (fun x y=>x.key≤y.key) ∧
 Fn Tryz.prog 47 [.row 1000 37 5 l.length,.fn 48 []] [(1000,raS l)] (.tup []) [(1000,raS s)]:=by
 obtain⟨L,rfl⟩:=upS hu
 have hle:∀x y:SpO,(!ltOf cfS y x)=decide (x.1.key≤y.1.key):=fun x y=>by
  rw[ltS,←decide_not]
  exact decide_eq_decide.2 (by omega)
 refine⟨(L.mergeSort fun x y=>!ltOf cfS y x).map (·.1),(List.mergeSort_perm _ _).map _,?_,?_⟩
 · have h:=List.pairwise_mergeSort (le:=fun x y:SpO=>!ltOf cfS y x) (fun x y z h1 h2=>by
    rw[hle] at *
    simp at *
    omega) (fun x y=>by
    rw[hle,hle]
    simp
    omega) L
   rw[List.pairwise_map]
   exact h.imp fun {x y} hxy=>by
    rw[hle] at hxy
    simpa using hxy
 · rw[X2v,X2v,List.length_map]
   refine Fn.sortingK _ _ (Q8n L) (by rw[Q8n,Q8n,List.length_mergeSort]) (X3t _) (X3t _) (fun E cap hD hz hlt hH=>?_) fun p cap w=>?_
   · have eg:∀args w,(callFunc 48 args).run Tryz.prog w = .ok (.enter 48 args) w:=enters_of Tryz.func48 (by kernel_rfl) rfl
     have hc:=X2h (P:=Tryz.prog) (g:=48) (enc:=encS) (k:=5) (cf:=cfS) Q7z (fun x y=>X0p x.1 y.1 x.2 y.2) E hD hz L.toArray.size
     have hH':Sort.HoldsK encS 5 E.w (E.ι 1000).1 0 L.toArray:=by
      unfold Sort.HoldsK
      rw[Q6h encS 5 (fun _=>rfl)]
      exact hH
     have h:=AnyQ.slices_SortFunc_total sortS 5 Tryz.isAgg37 Tryz.sizeOf37 encS (fun _=>rfl) Q7z cfS swoS 48 #[] (E.ι 1000).1 0 cap L.toArray E.w eg hc hH' hlt (by simp at hl ⊢;omega) totS
     refine Calls.mono ?_ (R:=fun e w'=>e = .returned (.tuple #[])∧∃n os,w'=sortWorldK encS 5 E.w (E.ι 1000).1 0 n (L.toArray.toList.mergeSort fun x y=>!(ltOf cfS) y x).toArray os) ?_
     · simp only[List.size_toArray] at h
       exact h
     · rintro e w' ⟨rfl,m,os,rfl⟩
       refine⟨rfl,m,os,?_⟩
       unfold sortWorldK sortWorld Sort.putRowK
       rw[Q6h encS 5 (fun _=>rfl)]
   · exact AnyF.slices_SortFunc_none (P:=Tryz.prog) (ρ:=Q9r) sortS p cap _ w
end
section
open Go.RowKit
open Nat (reduceBEq)
attribute [-go_sem] IntKind.bits
set_option maxRecDepth 20000
set_option maxHeartbeats 2000000
theorem Z0h{s:List Sp}{i:Nat}{b:Sp}(hb:s[i]? = some b):(ddS s (i+1)=ddS s i∧0<i∧s[i-1]? = some b)∨(ddS s (i+1)=ddS s i++[b]∧(0<i→s[i-1]?≠some b)):=by
 have e:ddS s (i+1)=if 0<i∧s[i-1]? = some b then ddS s i else ddS s i++[b]:=by
  show(match s[i]? with|none=>_|some b=>_)=_
  rw[hb]
 by_cases h:0<i∧s[i-1]? = some b
 · exact .inl ⟨by rw[e,if_pos h],h⟩
 · exact .inr ⟨by rw[e,if_neg h],fun h1 h2=>h ⟨h1,h2⟩⟩
theorem mem_takeS{s:List Sp}{i j:Nat}{b:Sp}(h:s[j]? = some b)(hj:j<i):b∈s.take i:=by
 refine List.mem_of_getElem? (i:=j) ?_
 rw[List.getElem?_take,if_pos hj,h]
theorem X0o(s:List Sp):∀i,i≤s.length→∀x,x∈ddS s i↔x∈s.take i
 |0,_,x=>by simp[ddS]
 |i+1,h,x=>by
  have ih:=X0o s i (by omega) x
  have hb:s[i]? = some (s[i]'(by omega)):=List.getElem?_eq_getElem (by omega)
  have et:s.take (i+1)=s.take i++[s[i]'(by omega)]:=by rw[List.take_add_one,hb];rfl
  rw[et,List.mem_append,List.mem_singleton]
  rcases Z0h hb with⟨e,h0,h1⟩|⟨e,_⟩
  · rw[e,ih]
    refine⟨.inl,fun h=>h.elim id fun hx=>?_⟩
    rw[hx]
    exact mem_takeS h1 (by omega)
  · rw[e,List.mem_append,List.mem_singleton,ih]
theorem Z0i(s:List Sp)(hs:s.Pairwise (fun x y=>x.key≤y.key))(ho:∀x∈s,x.ok):∀i,i≤s.length→(ddS s i).Pairwise (fun x y=>x.key<y.key)
 |0,_=>by simp[ddS]
 |i+1,h=>by
  have ih:=Z0i s hs ho i (by omega)
  have hb:s[i]? = some (s[i]'(by omega)):=List.getElem?_eq_getElem (by omega)
  rcases Z0h hb with⟨e,_⟩|⟨e,h1⟩
  · rw[e];exact ih
  · rw[e,List.pairwise_append]
    refine⟨ih,List.pairwise_singleton _ _,fun a ha b hb'=>?_⟩
    rw[List.mem_singleton] at hb'
    subst hb'
    have ha':=(X0o s i (by omega) a).1 ha
    obtain⟨j,hj⟩:=List.mem_iff_getElem?.1 ha'
    rw[List.getElem?_take] at hj
    split at hj
    · rename_i hji
      have hp:=List.pairwise_iff_getElem.1 hs
      have haj:s[j]'(by omega)=a:=(List.getElem?_eq_some_iff.1 hj).2
      have h2:=hp j i (by omega) (by omega) hji
      rw[haj] at h2
      have h3:=h1 (by omega)
      rw[List.getElem?_eq_getElem (by omega)] at h3
      have h4:s[i-1]'(by omega)≠s[i]'(by omega):=fun e=>h3 (by rw[e])
      have h5:=hp (i-1) i (by omega) (by omega) (by omega)
      have oi:=ho (s[i]'(by omega)) (List.getElem_mem _)
      have oj:a.ok:=by rw[←haj];exact ho _ (List.getElem_mem _)
      have o1:=ho (s[i-1]'(by omega)) (List.getElem_mem _)
      rcases Nat.lt_or_ge j (i-1) with h6|h6
      · have h7:=hp j (i-1) (by omega) (by omega) h6
        rw[haj] at h7
        have h8:(s[i-1]'(by omega)).key≠(s[i]'(by omega)).key:=fun e=>h4 (Sp.key_inj o1 oi e)
        omega
      · have:j=i-1:=by omega
        subst this
        rw[haj] at h4
        have h8:a.key≠(s[i]'(by omega)).key:=fun e=>h4 (Sp.key_inj oj oi e)
        omega
    · cases hj
theorem X9b:∀{a b:List Sp},a.Pairwise (fun x y=>x.key<y.key)→b.Pairwise (fun x y=>x.key<y.key)→(∀x,x∈a↔x∈b)→a=b
 |[],[],_,_,_=>rfl
 |[],y::b,_,_,h=>by have:=(h y).2 (by simp);simp at this
 |x::a,[],_,_,h=>by have:=(h x).1 (by simp);simp at this
 |x::a,y::b,ha,hb,h=>by
  rw[List.pairwise_cons] at ha hb
  have hx:=(h x).1 (by simp)
  have hy:=(h y).2 (by simp)
  rw[List.mem_cons] at hx hy
  have e:x=y:=by
   rcases hx with hx|hx
   · exact hx
   · rcases hy with hy|hy
     · exact hy.symm
     · have h1:=ha.1 y hy
       have h2:=hb.1 x hx
       omega
  subst e
  rw[X9b ha.2 hb.2 fun z=>by
   have hz:=h z
   rw[List.mem_cons,List.mem_cons] at hz
   constructor
   · intro hm
     rcases hz.1 (.inr hm) with e|hm'
     · have:=ha.1 z hm;rw[e] at this;omega
     · exact hm'
   · intro hm
     rcases hz.2 (.inr hm) with e|hm'
     · have:=hb.1 z hm;rw[e] at this;omega
     · exact hm']
def canS(l:List Sp):List Sp:=let s:=l.mergeSort fun x y=>decide (x.key≤y.key);ddS s s.length
theorem Q5k(l:List Sp)(ho:∀x∈l,x.ok):(canS l).Pairwise (fun x y=>x.key<y.key)∧∀x,x∈canS l↔x∈l:=by
 have hp:=List.mergeSort_perm l fun x y=>decide (x.key≤y.key)
 have hs:=List.pairwise_mergeSort (le:=fun x y:Sp=>decide (x.key≤y.key)) (fun x y z h1 h2=>by simp at *;omega) (fun x y=>by simp;omega) l
 have hs':(l.mergeSort fun x y=>decide (x.key≤y.key)).Pairwise (fun x y=>x.key≤y.key):=hs.imp fun {x y} h=>by simpa using h
 refine⟨Z0i _ hs' (fun x hx=>ho x (hp.mem_iff.1 hx)) _ (Nat.le_refl _),fun x=>?_⟩
 show x∈ddS _ _↔_
 rw[X0o _ _ (Nat.le_refl _),List.take_length]
 exact hp.mem_iff
theorem X0t{r l:List Sp}(ho:∀x∈l,x.ok)(hr:r.Pairwise (fun x y=>x.key<y.key))(hm:∀x,x∈r↔x∈l):r=canS l:=
 X9b hr (Q5k l ho).1 fun x=>(hm x).trans ((Q5k l ho).2 x).symm
theorem selS_ok{l:List Ev}(ho:∀e∈l,e.ok)(ks:List Int):∀x∈selS ks l,x.ok:=fun x hx=>by
 obtain⟨e,he,rfl⟩:=List.mem_map.1 hx
 have h:=ho e (List.mem_filter.1 he).1
 exact⟨h.2.2.2.2.1,h.1⟩
def Q4l(ks:List Int)(l:List Ev):List Sp:=if trB l=true then selS ks l else[]
theorem that1T_fn(ex ex':Bool)(l:List Ev)(hl:l.length≤1000)(ho:∀e∈l,e.ok)(ks:List Int)(hk:ks.length≤10){t:Tmp}{asg bod:Code}{T0:List AV}(hT0:AV.inNL [1005] T0=true)(lp:Nat)
 (hY:∀(out:List Sp) (y:Ev),y∈l→out.length≤1000→YC Tryz.prog t asg bod T0 lp (evA y) (tsH0 out) (tsH1 out y)) :
 FnW (LoopAt t asg bod T0 [1005,1101,1102] lp) Tryz.prog 142 [yv lp,.ptr 1101 0,.ptr 1102 0] [(1005,[nilA]),(1101,[evs ex l]),(1102,[ksl ex' ks])] (.tup []) [(1005,[.row 600 37 5 (Q4l ks l).length]),(600,raS (Q4l ks l))]:=by
 by_cases hr:trB l=true
 · have h:=that1S_fn ex ex' l hl ho hr ks hk hT0 lp hY
   have e:Q4l ks l=selS ks l:=if_pos hr
   rw[e]
   exact h
 · have e:Q4l ks l=[]:=if_neg hr
   rw[e]
   have ck:=Q5u ex l (by omega) ho
   rw[if_neg hr] at ck
   (refine Q5e Tryz.func142 rfl (by rfl) ?_;simp only[Tryz.ntmps142,List.length_cons,List.length_nil,Nat.reduceAdd,Nat.reduceSub,List.replicate,List.cons_append,List.nil_append])
   refine AWE.to (St.to.nilcell 1005 600 37 5 0 (cs:=[nilA]) (by simp[hget]) rfl (by simp[St.free,Q1w,AV.refsL,AV.refs]) (by decide) (by decide)) ?_
   refine AWE.of ?_
   simp only[hput,hget,List.set]
   (repeat(any_goals(first|((with_reducible refine Q0n ?_ ?_ ?_);rfl;rfl;intro K hK;((apply Q0k (ck);rfl;rfl;rfl;rfl;exact Tryz.func51);kernel_rfl;rfl;(focus((simp only[go_sem,bne_self_eq_false,ite_true,if_true]);(try rfl);done));(first|rfl));(simp only[go_sem,bne_self_eq_false,ite_true,if_true];refine hK _ ?_;clear hK K))|((with_reducible refine Q0b ?_ ?_);rfl;intro K hK;simp only[go_sem,bne_self_eq_false,ite_true,if_true];((repeat(refine ndI (by first|assumption) ?_));refine hK _ ?_;clear hK K))|(with_reducible first|(refine Q0c ?_;refine hR _ ?_;clear hR R)|((first|refine Q0d ?_);intro J hJ hJ')|(refine Q0a ?_;intro R hR)|(refine hJ _ ?_;clear hJ hJ' J)|refine Q0j ?_)|((with_reducible refine hJ' _ _ ?_ ?_);(focus(simp;done));clear hJ hJ' J)|((with_reducible apply Q0e);rfl;rfl;all_goals(intro hc;first|(cases hc;done)|(try simp only at hc))))))
   all_goals exact⟨by simp,⟨_,rfl,AV.le_of (by simp[Q0q])⟩,Q0h (by simp[leH,hget])⟩
theorem Q5l{l:List Ev}(ho:∀e∈l,e.ok)(ks:List Int):∀x∈Q4l ks l,x.ok:=by
 unfold Q4l
 split
 · exact selS_ok ho ks
 · exact fun x hx=>by cases hx
theorem X4w(ks:List Int)(l:List Ev):(Q4l ks l).length≤l.length:=by
 unfold Q4l
 split
 · exact X8y ks l
 · exact Nat.zero_le _
theorem spots_fn(ex ex':Bool)(l:List Ev)(hl:l.length≤1000)(ho:∀e∈l,e.ok)(ks:List Int)(hk:ks.length≤10):Fn Tryz.prog 64 [evs ex l,ksl ex' ks] [] (spl5 false (canS (Q4l ks l))) []:=by
 have th:=that_fn ex ex' l ks
 have tl:=X4w ks l
 obtain⟨s,hp,hs,so⟩:=sortS_fn (Q4l ks l) (by omega) (Q5l ho ks)
 have hlen:=hp.length_eq
 have os:∀x∈s,x.ok:=fun x hx=>Q5l ho ks x (hp.mem_iff.1 hx)
 have e:canS (Q4l ks l)=ddS s s.length:=(X0t (Q5l ho ks) (Z0i s hs os _ (Nat.le_refl _)) fun x=>by rw[X0o s _ (Nat.le_refl _),List.take_length];exact hp.mem_iff).symm
 rw[e]
 have co:=(X1j s (by omega) os).weaken (H2:=[(1000,rcS (ddS s s.length))]) (AV.le_refl _) (leHp (ds:=rcS (List.replicate (s.length-(ddS s s.length).length) ⟨0,0⟩)) (by rw[Q6b];simp[hget]))
 generalize hr:ddS s s.length=r at co ⊢
 rw[hlen] at co
 have hrow:Fn Tryz.prog 64 [evs ex l,ksl ex' ks] [] (.row 600 37 5 r.length) [(600,raS r)]:=by
  (refine Q0z Tryz.func64 rfl (by rfl) ?_;simp only[Tryz.ntmps64,List.length_cons,List.length_nil,Nat.reduceAdd,Nat.reduceSub,List.replicate,List.cons_append,List.nil_append])
  (repeat(any_goals(first|((with_reducible refine Q0n ?_ ?_ ?_);rfl;rfl;intro K hK;(apply Q1i (th) (fun r=>r+99);rfl;rfl;rfl;rfl;exact Tryz.func95;kernel_rfl;rfl;rfl;(intro r hr q hq h;simp only[List.map_cons,List.map_nil,List.cons_append,List.nil_append,List.mem_cons,List.not_mem_nil,or_false] at hr hq;(try dsimp only at h);first|omega);(simp only[Q1f,Q2g,AV.ren,AV.renL,Q0s,List.mem_cons,List.not_mem_nil,forall_eq_or_imp,forall_eq,Q2b,List.contains_cons,List.contains_nil,AV.refsL,AV.refs,Q0l,AV.inN,AV.inNL,inH,Q1b,go_sem]));(simp only[Q0w,Q1y,renH,AV.ren,AV.renL,Q0s,go_sem];refine hK _ ?_;clear hK K))|((with_reducible refine Q0b ?_ ?_);rfl;intro K hK;simp only[go_sem];((repeat(refine ndI (by first|assumption) ?_));refine hK _ ?_;clear hK K))|(with_reducible first|(refine Q0c ?_;refine hR _ ?_;clear hR R)|((first|refine Q0d ?_|refine Q0f ?_);intro J hJ hJ')|(refine Q0a ?_;intro R hR)|(refine hJ _ ?_;clear hJ hJ' J)))))
  show AW _ _ _ _
  refine AW.range (T0:=[.any,.any,.any,.any,.any,.ptr 1005 0,.any,.any,.any,.any,.any,.any,.any,.any,.any,.any,.any,.any,.any,.any,.any,.any,.any]) (cargs:=[.ptr 1101 0,.ptr 1102 0]) (H0:=[(1005,[nilA]),(1101,[evs ex l]),(1102,[ksl ex' ks])]) (H1:=[(1005,[.row 600 37 5 (Q4l ks l).length]),(600,raS (Q4l ks l))]) (res:=.tup []) (fun r=>if 1000≤r then r-1000 else r) (fun lp=>that1T_fn ex ex' l hl ho ks hk rfl lp fun out y hm ho=>yc_of rfl rfl ?_) rfl rfl Tryz.func142 (by kernel_rfl) rfl rfl ?_ ?_ ?_ ?_ ?_ rfl ?_ ?_
  · have k4:=Q6u out
    have k9:∀r,AV.refsL r (raS out)=false:=fun r=>Q0l r _
    simp only[List.set]
    (repeat(any_goals(first|((with_reducible refine Q0b ?_ ?_);rfl;intro K hK;simp(disch:=omega) only[go_sem,k4,k9];((repeat(refine ndI (by first|assumption|rfl) ?_));refine hK _ ?_;clear hK K))|(with_reducible first|(refine Q0c ?_;refine hR _ ?_;clear hR R)|(refine Q0a ?_;intro R hR)))))
    refine⟨rfl,?_⟩
    (have W:=ndI k4 (ndI k9 @Q0l);(repeat(any_goals(first|((with_reducible refine Q0b ?_ ?_);rfl;intro K hK;simp(disch:=omega) only[go_sem,W,Q0x,AV.refsL,AV.refs,List.length_append,List.length_cons,List.length_nil,Bool.or_false];((repeat(refine ndI (by first|assumption|omega|rfl) ?_));refine hK _ ?_;clear hK K))|(with_reducible first|(refine Q0c ?_;refine hR _ ?_;clear hR R)|((first|refine Q0f ?_);intro J hJ hJ')|(refine Q0a ?_;intro R hR))|((with_reducible refine hJ' _ _ ?_ ?_);(focus(simp;done));clear hJ hJ' J)))))
    exact⟨rfl,Q0h (by simp[leH,hget,raS,Sp.pv,Ev.sp])⟩
  · simp[Q1f,Q2g,AV.ren]
  · simp[Q1f,Q2g,AV.ren]
  · simp[hget,AV.renL,AV.ren]
  · intro r hr q hq h
    simp only[List.map_cons,List.map_nil,List.cons_append,List.nil_append,List.mem_cons,List.not_mem_nil,or_false] at hr hq
    rcases hr with rfl|rfl|rfl|rfl|rfl<;>rcases hq with rfl|rfl|rfl|rfl|rfl<;>simp at h ⊢
  · simp[Q2b,St.free,Q1w,AV.refs,AV.refsL]
  · simp[inH,AV.inNL,AV.inN]
  · unfold rcS at co
    simp only[Q0w,Q1y,renH,AV.ren,AV.renL,Q0s,hput,hdel,hget,Nat.reduceLeDiff,Nat.reduceSub,Nat.reduceEqDiff,↓reduceIte]
    (repeat(any_goals(first|((with_reducible refine Q0n ?_ ?_ ?_);rfl;rfl;intro K hK;(first|(apply Q1i (so) (fun r=>600);rfl;rfl;rfl;rfl;exact Tryz.func47;kernel_rfl;rfl;rfl;(intro r hr q hq h;simp only[List.map_cons,List.map_nil,List.cons_append,List.nil_append,List.mem_cons,List.not_mem_nil,or_false] at hr hq;(try dsimp only at h);first|omega);(simp only[Q1f,Q2g,AV.ren,AV.renL,Q0s,List.mem_cons,List.not_mem_nil,forall_eq_or_imp,forall_eq,Q2b,List.contains_cons,List.contains_nil,AV.refsL,AV.refs,Q0l,AV.inN,AV.inNL,inH,Q1b,go_sem]))|(apply Q1i (co) (fun r=>600);rfl;rfl;rfl;rfl;exact Tryz.func49;kernel_rfl;rfl;rfl;(intro r hr q hq h;simp only[List.map_cons,List.map_nil,List.cons_append,List.nil_append,List.mem_cons,List.not_mem_nil,or_false] at hr hq;(try dsimp only at h);first|omega);(simp only[Q1f,Q2g,AV.ren,AV.renL,Q0s,List.mem_cons,List.not_mem_nil,forall_eq_or_imp,forall_eq,Q2b,List.contains_cons,List.contains_nil,AV.refsL,AV.refs,Q0l,AV.inN,AV.inNL,inH,Q1b,go_sem])));(simp only[Q0w,Q1y,renH,AV.ren,AV.renL,Q0s,go_sem];refine hK _ ?_;clear hK K))|((with_reducible refine Q0b ?_ ?_);rfl;intro K hK;simp only[go_sem];((repeat(refine ndI (by first|assumption) ?_));refine hK _ ?_;clear hK K))|(with_reducible first|(refine Q0c ?_;refine hR _ ?_;clear hR R)|((first|refine Q0d ?_);intro J hJ hJ')|(refine Q0a ?_;intro R hR)|(refine hJ _ ?_;clear hJ hJ' J)|refine Q0j ?_)|((with_reducible refine hJ' _ _ ?_ ?_);(focus(simp;done));clear hJ hJ' J))))
    all_goals exact⟨by simp,⟨_,rfl,AV.le_refl _⟩,Q0h (by simp[leH,hget])⟩
 have h1:=hrow.frzG
 simpa [AV.frz,AV.frzL,Q0p Q4y] using h1
theorem Z0z(ex:Bool)(l:List Ev)(hl:l.length≤1000)(ho:∀e∈l,e.ok):Fn Tryz.prog 28 [evs ex l] [] (spl5 false (canS (Q4l [2,3] l))) []:=by
 have h:=spots_fn ex true l hl ho [2,3] (by decide)
 (refine Q0z Tryz.func28 rfl (by rfl) ?_;simp only[Tryz.ntmps28,List.length_cons,List.length_nil,Nat.reduceAdd,Nat.reduceSub,List.replicate,List.cons_append,List.nil_append])
 (repeat(any_goals(first|((with_reducible refine Q3p ?_ ?_);rfl;intro K hK;apply Q2l;rfl;rfl;(focus(simp only[go_sem];try rfl));(focus(simp only[go_sem];try rfl));rfl;(first|omega);(first|omega);(first|omega);(simp only[go_sem];rfl);rfl;(focus((simp only[unC,Option.map_some]);(try rfl)));(simp only[go_sem];refine hK _ ?_;clear hK K))|((with_reducible refine Q0n ?_ ?_ ?_);rfl;rfl;intro K hK;((apply Q0k (h);rfl;rfl;rfl;rfl;exact Tryz.func64);kernel_rfl;rfl;(focus((simp only[go_sem]);(try rfl);done));(first|rfl));(simp only[go_sem];refine hK _ ?_;clear hK K))|((with_reducible refine Q0b ?_ ?_);rfl;intro K hK;simp only[go_sem];((repeat(refine ndI (by first|assumption) ?_));refine hK _ ?_;clear hK K))|(with_reducible first|(refine Q0c ?_;refine hR _ ?_;clear hR R)|((first|refine Q0d ?_);intro J hJ hJ')|(refine Q0a ?_;intro R hR)|(refine hJ _ ?_;clear hJ hJ' J)|refine Q0j ?_))))
 all_goals(refine⟨by simp,⟨_,?_,AV.le_refl _⟩,Q0h (by simp[leH,hget])⟩;simp only[Tryz.results28,resL,ldA,Q0q,go_sem])
end
section
open Go.RowKit
open Nat (reduceBEq)
attribute [-go_sem] IntKind.bits
set_option maxRecDepth 20000
set_option maxHeartbeats 600000
abbrev raG{β : Type}(pv:β→List PV)(l:List β):List AV:=(l.flatMap pv).map .c
def selG{β : Type}(st:Ev→Option β)(ks:List Int)(l:List Ev):List β:=(l.filter fun e=>decide (e.kind∈ks)).filterMap st
theorem X4z{β : Type}(st:Ev→Option β)(ks:List Int){l:List Ev}{i:Nat}{y:Ev}(h:l[i]? = some y):selG st ks (l.take (i+1))=if decide (y.kind∈ks)=true then(match st y with|some v=>selG st ks (l.take i)++[v]|none=>selG st ks (l.take i)) else selG st ks (l.take i):=by
 unfold selG
 rw[List.take_add_one,h,List.filter_append,List.filterMap_append]
 by_cases c:decide (y.kind∈ks)=true
 · rw[if_pos c]
   simp only[Option.toList_some,List.filter_cons,c,if_true,List.filter_nil]
   cases hs:st y<;>simp[hs]
 · rw[if_neg c]
   have c':decide (y.kind∈ks)=false:=by simpa using c
   simp only[Option.toList_some,List.filter_cons,c',List.filter_nil,List.filterMap_nil,List.append_nil,Bool.false_eq_true,if_false]
theorem X8z{β : Type}(st:Ev→Option β)(ks:List Int)(l:List Ev):(selG st ks l).length≤l.length:=by
 unfold selG;exact Nat.le_trans (List.length_filterMap_le _ _) (List.length_filter_le _ _)
abbrev tgH0{β : Type}(ty sz:Nat)(pv:β→List PV)(out:List β):List (Nat×List AV):=[(1005,[.row 1600 ty sz out.length]),(1600,raG pv out)]
abbrev tgH1{β : Type}(ty sz:Nat)(pv:β→List PV)(out:List β)(v:β):List (Nat×List AV):=[(1005,[.row 26 ty sz (out.length+1)]),(26,raG pv (out++[v]))]
abbrev stG{β : Type}(ty sz:Nat)(pv:β→List PV)(ex ex':Bool)(l:List Ev)(ks:List Int)(lp r:Nat)(out:List β)(i:Nat):St:=⟨[yv lp,.ptr 1101 0,.ptr 1102 0,.any,.any,.any,.any,.any,.any,evs ex l,vi .i64 l.length,vi .i64 i,.any,.any,.any,.any,.any,.any,.any,.any,.any,.any,.any,.any,.any,.any],[(1005,[.row r ty sz out.length]),(r,raG pv out),(1101,[evs ex l]),(1102,[ksl ex' ks])]⟩
theorem stG_rn{β : Type}(ty sz:Nat)(pv:β→List PV)(ex ex':Bool)(l:List Ev)(ks:List Int)(lp:Nat)(out:List β)(i:Nat):(stG ty sz pv ex ex' l ks lp 26 out i).to (stG ty sz pv ex ex' l ks lp 600 out i):=by
 have h:=St.to.rn (σ:=stG ty sz pv ex ex' l ks lp 26 out i) (fun r=>if r=26 then 600 else r) (fun r=>if r=600 then 26 else r) [26,1005,1101,1102] (by simp[AV.inNL,AV.inN]) (by simp) (by simp[inH,AV.inNL,AV.inN,Q1b]) (by simp) (by simp)
 simpa [AV.renL,AV.ren,renH] using h
theorem that1G_fn{β : Type}(ty sz:Nat)(pv:β→List PV)(st:Ev→Option β)(ex ex':Bool)(l:List Ev)(hl:l.length≤1000)(ho:∀e∈l,e.ok)(hr:trB l=true)(ks:List Int)(hk:ks.length≤10){t:Tmp}{asg bod:Code}{T0:List AV}(hT0:AV.inNL [1005] T0=true)(lp:Nat)
 (hY:∀(out:List β) (y:Ev) (v:β),y∈l→y.kind∈ks→out.length≤1000→st y=some v→YC Tryz.prog t asg bod T0 lp (evA y) (tgH0 ty sz pv out) (tgH1 ty sz pv out v))
 (hN:∀(out:List β) (y:Ev),y∈l→y.kind∈ks→out.length≤1000→st y=none→YC Tryz.prog t asg bod T0 lp (evA y) (tgH0 ty sz pv out) (tgH0 ty sz pv out)) :
 FnW (LoopAt t asg bod T0 [1005,1101,1102] lp) Tryz.prog 142 [yv lp,.ptr 1101 0,.ptr 1102 0] [(1005,[nilA]),(1101,[evs ex l]),(1102,[ksl ex' ks])] (.tup []) [(1005,[.row 600 ty sz (selG st ks l).length]),(600,raG pv (selG st ks l))]:=by
 have ck:=Q5u ex l (by omega) ho
 rw[hr] at ck
 (refine Q5e Tryz.func142 rfl (by rfl) ?_;simp only[Tryz.ntmps142,List.length_cons,List.length_nil,Nat.reduceAdd,Nat.reduceSub,List.replicate,List.cons_append,List.nil_append])
 refine AWE.seq (AWE.of ?_)
 (repeat(any_goals(first|((with_reducible refine Q0n ?_ ?_ ?_);rfl;rfl;intro K hK;((apply Q0k (ck);rfl;rfl;rfl;rfl;exact Tryz.func51);kernel_rfl;rfl;(focus((simp only[go_sem,bne_self_eq_false,ite_true,if_true]);(try rfl);done));(first|rfl));(simp only[go_sem,bne_self_eq_false,ite_true,if_true];refine hK _ ?_;clear hK K))|((with_reducible refine Q0b ?_ ?_);rfl;intro K hK;simp only[go_sem,bne_self_eq_false,ite_true,if_true];((repeat(refine ndI (by first|assumption) ?_));refine hK _ ?_;clear hK K))|(with_reducible first|(refine Q0c ?_;refine hR _ ?_;clear hR R)|((first|refine Q0d ?_);intro J hJ hJ')|(refine Q0a ?_;intro R hR)|(refine hJ _ ?_;clear hJ hJ' J)|refine Q0g ?_)|((with_reducible apply Q0e);rfl;rfl;all_goals(intro hc;first|(cases hc;done)|(try simp only at hc))))))
 show AWE _ _ _ _ _
 refine AWE.seq (AWE.of ?_)
 (repeat(any_goals(first|((with_reducible refine Q0b ?_ ?_);rfl;intro K hK;simp only[go_sem];((repeat(refine ndI (by first|assumption) ?_));refine hK _ ?_;clear hK K))|(with_reducible first|(refine Q0c ?_;refine hR _ ?_;clear hR R)|(refine Q0a ?_;intro R hR)))))
 show AWE _ _ _ _ _
 refine AWE.block ?_
 refine AWE.loop (α:={i:Nat // i≤l.length}) (fun p=>stG ty sz pv ex ex' l ks lp 600 (selG st ks (l.take p.1)) p.1) (fun p=>l.length-p.1) ⟨0,Nat.zero_le _⟩ ?_ ?_
 · refine St.to.trans (St.to.nilcell 1005 600 ty sz 0 (cs:=[nilA]) (by simp[hget]) rfl (by simp[St.free,Q1w,AV.refsL,AV.refs]) (by decide) (by decide)) (St.to.of_le (St.le_of (by simp[leT,selG]) (by simp[leH,hget,hput,selG,raG])))
 rintro ⟨i,hi⟩
 dsimp only[stG]
 rcases Nat.lt_or_ge i l.length with hlt|hge
 · obtain⟨y,hy⟩:∃y,l[i]? = some y:=⟨l[i],List.getElem?_eq_getElem hlt⟩
   have k1:(decide ((i:Int)<(l.length:Int)))=true:=by simpa using hlt
   have k2:=X8e hy
   have k7:(i:Int)+1=((i+1:Nat):Int):=by omega
   have k5:=X8z st ks (l.take i)
   have k6:(l.take i).length≤1000:=by simp;omega
   have hm:=List.mem_of_getElem? hy
   have m1:=X4z st ks hy
   have fin:∀τ : St,τ.to (stG ty sz pv ex ex' l ks lp 600 (selG st ks (l.take (i+1))) (i+1))→∃q:{i:Nat // i≤l.length},l.length-q.1<l.length-i∧τ.to (stG ty sz pv ex ex' l ks lp 600 (selG st ks (l.take q.1)) q.1):=fun τ h=>⟨⟨i+1,hlt⟩,by simp only;omega,h⟩
   have cn:=Q8w ex' ks y.kind (by omega)
   generalize selG st ks (l.take (i+1))=out' at fin m1
   generalize selG st ks (l.take i)=out at k5 m1 ⊢
   have k9:∀r,AV.refsL r (raG pv out)=false:=fun r=>Q0l r _
   refine AWE.seq (AWE.of ?_)
   (repeat(any_goals(first|((with_reducible refine Q0b ?_ ?_);rfl;intro K hK;simp only[go_sem,k1];((repeat(refine ndI (by first|assumption) ?_));refine hK _ ?_;clear hK K))|(with_reducible first|(refine Q0c ?_;refine hR _ ?_;clear hR R)|(refine Q0a ?_;intro R hR)))))
   refine AWE.seq (AWE.of ?_)
   (repeat(any_goals(first|(with_reducible first|refine Q0g ?_)|((with_reducible apply Q0e);rfl;rfl;all_goals(intro hc;first|(cases hc;done)|(try simp only at hc))))))
   refine AWE.seq (AWE.block (AWE.seq (AWE.of ?_)))
   (repeat(any_goals(first|((with_reducible refine Q0b ?_ ?_);rfl;intro K hK;simp(disch:=omega) only[go_sem,k1,k2,k7,k9,wrI];((repeat(refine ndI (by first|assumption|omega|rfl) ?_));refine hK _ ?_;clear hK K))|(with_reducible first|(refine Q0c ?_;refine hR _ ?_;clear hR R)|(refine Q0a ?_;intro R hR)))))
   cases hya:decide (y.kind∈ks) with
   |false=>
    rw[hya] at cn m1
    rw[if_neg (by simp)] at m1
    refine AWE.seq (AWE.of ?_)
    (repeat(any_goals(first|((with_reducible refine Q0n ?_ ?_ ?_);rfl;rfl;intro K hK;((apply Q0k (cn);rfl;rfl;rfl;rfl;exact Tryz.func143);kernel_rfl;rfl;(focus((simp(disch:=omega) only[go_sem,k1,k2,k7,k9,wrI]);(try rfl);done));(first|rfl));(simp(disch:=omega) only[go_sem,k1,k2,k7,k9,wrI];refine hK _ ?_;clear hK K))|((with_reducible refine Q0b ?_ ?_);rfl;intro K hK;simp(disch:=omega) only[go_sem,k1,k2,k7,k9,wrI];((repeat(refine ndI (by first|assumption|rfl) ?_));refine hK _ ?_;clear hK K))|(with_reducible first|(refine Q0c ?_;refine hR _ ?_;clear hR R)|(refine Q0a ?_;intro R hR))|((with_reducible apply Q0y);rfl;rfl;rfl;all_goals(intro hb;first|(cases hb;done)|((try simp only[Bool.not_true,Bool.not_false] at hb);(first|((fail_if_success (with_reducible intro _));simp(disch:=omega) only[go_sem,k1,k2,k7,k9,wrI]))))))))
    show AWE _ _ _ _ _
    refine AWE.of ?_
    (repeat(any_goals(first|(with_reducible first|refine Q0g ?_)|((with_reducible apply Q0e);rfl;rfl;all_goals(intro hc;first|(cases hc;done)|(try simp only at hc))))))
    show AWE _ _ _ _ _
    refine AWE.of ?_
    (repeat(any_goals(first|((with_reducible refine Q0b ?_ ?_);rfl;intro K hK;simp(disch:=omega) only[go_sem,k7,wrI];((repeat(refine ndI (by first|assumption|rfl) ?_));refine hK _ ?_;clear hK K))|(with_reducible first|(refine Q0c ?_;refine hR _ ?_;clear hR R)|(refine Q0a ?_;intro R hR)))))
    subst m1
    exact fin _ (St.to.of_le (St.le_of (by simp[leT]) (by simp[leH,hget])))
   |true=>
    rw[hya] at cn m1
    rw[if_pos rfl] at m1
    cases hst:st y with
    |some v=>
     rw[hst] at m1
     dsimp only at m1
     subst m1
     refine AWE.seq (AWE.region_at 7 rfl rfl ?_)
     intro R hR
     simp only[List.take,List.drop]
     (repeat(any_goals(first|((with_reducible refine Q0n ?_ ?_ ?_);rfl;rfl;intro K hK;((apply Q0k (cn);rfl;rfl;rfl;rfl;exact Tryz.func143);kernel_rfl;rfl;(focus((simp(disch:=omega) only[go_sem,k1,k2,k7,k9,wrI]);(try rfl);done));(first|rfl));(simp(disch:=omega) only[go_sem,k1,k2,k7,k9,wrI];refine hK _ ?_;clear hK K))|((with_reducible refine Q0b ?_ ?_);rfl;intro K hK;simp(disch:=omega) only[go_sem,k1,k2,k7,k9,wrI];((repeat(refine ndI (by first|assumption|rfl) ?_));refine hK _ ?_;clear hK K))|(with_reducible first|(refine Q0c ?_;refine hR _ ?_;clear hR R))|((with_reducible apply Q0y);rfl;rfl;rfl;all_goals(intro hb;first|(cases hb;done)|((try simp only[Bool.not_true,Bool.not_false] at hb);(first|((with_reducible intro K hK);simp(disch:=omega) only[go_sem,k1,k2,k7,k9,wrI];((repeat(refine ndI (by first|assumption|rfl) ?_));refine hK _ ?_;clear hK K)))))))))
     refine⟨.inr ⟨4,true,19,rfl,rfl,rfl⟩,Q7m (hY out y v hm (of_decide_eq_true hya) (by omega) hst) (fun r=>if r=1600 then 600 else r) rfl rfl rfl rfl (.inr ?_) (by rfl) ?_ ?_ ?_ ?_ [1005] hT0 ?_ ?_⟩
     · simp[AV.ren,AV.renL,St.ev]
     · simp[hget,AV.renL,AV.ren]
     · intro r hr q hq h
       simp only[List.map_cons,List.map_nil,List.cons_append,List.nil_append,List.mem_cons,List.not_mem_nil,or_false] at hr hq
       rcases hr with rfl|rfl|rfl|rfl<;>rcases hq with rfl|rfl|rfl|rfl<;>simp at h ⊢
     · simp[Q2b,St.free,Q1w,AV.refs,AV.refsL,k9]
     · simp[inH,AV.inNL,AV.inN]
     · simp[hget]
     intro R hR
     simp only[List.drop,Q0w,Q1y,renH,AV.ren,AV.renL,Q0s,hput,hdel,hget,St.put,List.set]
     (repeat(any_goals(first|((with_reducible refine Q0b ?_ ?_);rfl;intro K hK;simp(disch:=omega) only[go_sem,k1,k2,k7,k9,hya,wrI];((repeat(refine ndI (by first|assumption|rfl) ?_));refine hK _ ?_;clear hK K))|(with_reducible first|(refine Q0c ?_;refine hR _ ?_;clear hR R))|((with_reducible apply Q0y);rfl;rfl;rfl;all_goals(intro hb;first|(cases hb;done)|((try simp only[Bool.not_true,Bool.not_false] at hb);(first|((with_reducible intro K hK);simp(disch:=omega) only[go_sem,k1,k2,k7,k9,hya,wrI];((repeat(refine ndI (by first|assumption|rfl) ?_));refine hK _ ?_;clear hK K)))))))))
     show AWE _ _ _ _ _
     refine AWE.of ?_
     (repeat(any_goals(first|(with_reducible first|refine Q0g ?_)|((with_reducible apply Q0e);rfl;rfl;all_goals(intro hc;first|(cases hc;done)|(try simp only at hc))))))
     show AWE _ _ _ _ _
     refine AWE.of ?_
     (repeat(any_goals(first|((with_reducible refine Q0b ?_ ?_);rfl;intro K hK;simp(disch:=omega) only[go_sem,k7,wrI];((repeat(refine ndI (by first|assumption|rfl) ?_));refine hK _ ?_;clear hK K))|(with_reducible first|(refine Q0c ?_;refine hR _ ?_;clear hR R)|(refine Q0a ?_;intro R hR)))))
     exact fin _ (St.to.trans (St.to.of_le (τ:=stG ty sz pv ex ex' l ks lp 26 (out++[v]) (i+1)) (St.le_of (by simp[leT]) (by simp[leH,hget,raG]))) (stG_rn ty sz pv ex ex' l ks lp _ _))
    |none=>
     rw[hst] at m1
     dsimp only at m1
     subst m1
     refine AWE.seq (AWE.region_at 7 rfl rfl ?_)
     intro R hR
     simp only[List.take,List.drop]
     (repeat(any_goals(first|((with_reducible refine Q0n ?_ ?_ ?_);rfl;rfl;intro K hK;((apply Q0k (cn);rfl;rfl;rfl;rfl;exact Tryz.func143);kernel_rfl;rfl;(focus((simp(disch:=omega) only[go_sem,k1,k2,k7,k9,wrI]);(try rfl);done));(first|rfl));(simp(disch:=omega) only[go_sem,k1,k2,k7,k9,wrI];refine hK _ ?_;clear hK K))|((with_reducible refine Q0b ?_ ?_);rfl;intro K hK;simp(disch:=omega) only[go_sem,k1,k2,k7,k9,wrI];((repeat(refine ndI (by first|assumption|rfl) ?_));refine hK _ ?_;clear hK K))|(with_reducible first|(refine Q0c ?_;refine hR _ ?_;clear hR R))|((with_reducible apply Q0y);rfl;rfl;rfl;all_goals(intro hb;first|(cases hb;done)|((try simp only[Bool.not_true,Bool.not_false] at hb);(first|((with_reducible intro K hK);simp(disch:=omega) only[go_sem,k1,k2,k7,k9,wrI];((repeat(refine ndI (by first|assumption|rfl) ?_));refine hK _ ?_;clear hK K)))))))))
     refine⟨.inr ⟨4,true,19,rfl,rfl,rfl⟩,Q7m (hN out' y hm (of_decide_eq_true hya) (by omega) hst) (fun r=>if r=1600 then 600 else r) rfl rfl rfl rfl (.inr ?_) (by rfl) ?_ ?_ ?_ ?_ [1005] hT0 ?_ ?_⟩
     · simp[AV.ren,AV.renL,St.ev]
     · simp[hget,AV.renL,AV.ren]
     · intro r hr q hq h
       simp only[List.map_cons,List.map_nil,List.cons_append,List.nil_append,List.mem_cons,List.not_mem_nil,or_false] at hr hq
       rcases hr with rfl|rfl|rfl|rfl<;>rcases hq with rfl|rfl|rfl|rfl<;>simp at h ⊢
     · simp[Q2b,St.free,Q1w,AV.refs,AV.refsL,k9]
     · simp[inH,AV.inNL,AV.inN]
     · simp[hget]
     intro R hR
     simp only[List.drop,Q0w,Q1y,renH,AV.ren,AV.renL,Q0s,hput,hdel,hget,St.put,List.set]
     (repeat(any_goals(first|((with_reducible refine Q0b ?_ ?_);rfl;intro K hK;simp(disch:=omega) only[go_sem,k1,k2,k7,k9,hya,wrI];((repeat(refine ndI (by first|assumption|rfl) ?_));refine hK _ ?_;clear hK K))|(with_reducible first|(refine Q0c ?_;refine hR _ ?_;clear hR R))|((with_reducible apply Q0y);rfl;rfl;rfl;all_goals(intro hb;first|(cases hb;done)|((try simp only[Bool.not_true,Bool.not_false] at hb);(first|((with_reducible intro K hK);simp(disch:=omega) only[go_sem,k1,k2,k7,k9,hya,wrI];((repeat(refine ndI (by first|assumption|rfl) ?_));refine hK _ ?_;clear hK K)))))))))
     show AWE _ _ _ _ _
     refine AWE.of ?_
     (repeat(any_goals(first|(with_reducible first|refine Q0g ?_)|((with_reducible apply Q0e);rfl;rfl;all_goals(intro hc;first|(cases hc;done)|(try simp only at hc))))))
     show AWE _ _ _ _ _
     refine AWE.of ?_
     (repeat(any_goals(first|((with_reducible refine Q0b ?_ ?_);rfl;intro K hK;simp(disch:=omega) only[go_sem,k7,wrI];((repeat(refine ndI (by first|assumption|rfl) ?_));refine hK _ ?_;clear hK K))|(with_reducible first|(refine Q0c ?_;refine hR _ ?_;clear hR R)|(refine Q0a ?_;intro R hR)))))
     exact fin _ (St.to.of_le (St.le_of (by simp[leT]) (by simp[leH,hget])))
 · have k1:(decide ((i:Int)<(l.length:Int)))=false:=by simpa using hge
   have e:l.take i=l:=List.take_of_length_le hge
   rw[e]
   refine AWE.seq (AWE.of ?_)
   (repeat(any_goals(first|((with_reducible refine Q0b ?_ ?_);rfl;intro K hK;simp only[go_sem,k1];((repeat(refine ndI (by first|assumption) ?_));refine hK _ ?_;clear hK K))|(with_reducible first|(refine Q0c ?_;refine hR _ ?_;clear hR R)|(refine Q0a ?_;intro R hR)))))
   refine AWE.seq (AWE.of ?_)
   (repeat(any_goals(first|(with_reducible first|refine Q0o ?_)|((with_reducible apply Q0e);rfl;rfl;all_goals(intro hc;first|(cases hc;done)|(try simp only at hc))))))
   exact⟨by simp,⟨_,rfl,AV.le_of (by simp[Q0q])⟩,Q0h (by simp[leH,hget])⟩
def lpv(n:Nat):List PV:=[.v (.int .u64 (l0 n)),.v (.int .u64 (l1 n)),.v (.int .u64 (l2 n)),.v (.int .u64 (l3 n))]
theorem Q8k(n:Nat):(lpv n).length=4:=rfl
abbrev wsl(ex:Bool)(l:List Nat):AV:=.c (.sl ex 4 l.length (l.flatMap lpv))
theorem wsl_at{l:List Nat}{i:Nat}{y:Nat}(h:l[i]? = some y):((l.flatMap lpv).drop (i*4)).take 4=[.v (.int .u64 (l0 y)),.v (.int .u64 (l1 y)),.v (.int .u64 (l2 y)),.v (.int .u64 (l3 y))]:=Q5q (f:=lpv) Q8k h
def ownL(a:Int):List Nat:=wdL [UInt64.ofNat a.toNat,0,0,0]
theorem own_lnA{a:Int}(ha:U a):w4 a 0 0 0=lnA [UInt64.ofNat a.toNat,0,0,0]:=by
 have e:((UInt64.ofNat a.toNat).toNat:Int)=a:=by
  have h:a.toNat<2 ^ 64:=by have:=ha.2;omega
  rw[UInt64.toNat_ofNat_of_lt' (by simpa [UInt64.size] using h)]
  exact Int.toNat_of_nonneg ha.1
 simp only[lnA,rcV,List.map_cons,List.map_nil,lvA,e]
 rfl
theorem X9o(a:Int):(ownL a).length=32:=X7e _
def ownB(W:List Nat)(e:Ev):Bool:=decide (e.data.take 32=W)
def X1l(W:List Nat)(e:Ev):Option Nat:=if ownB W e=true then some e.val else none
def Q2i(W:List Nat)(l:List Ev):List Nat:=selG (X1l W) [1] l
theorem X3r{l:List Ev}(hr:trB l=true){y:Ev}(hy:y∈l)(hk:y.kind=1):y.data.length=64:=by
 unfold trB at hr
 have h1:=List.all_eq_true.1 (Bool.and_eq_true_iff.1 hr).2 y hy
 unfold Q2q at h1
 rw[if_pos hk] at h1
 have h2:=(Bool.and_eq_true_iff.1 (Bool.and_eq_true_iff.1 h1).2).1
 exact(of_decide_eq_true h2).1
theorem arg32{D:List Nat}(h:D.length=64):bsl false (D.take 32) = .c (.sl false 1 32 ((D.flatMap bpv).take 32)):=by
 have e:(D.take 32).length=32:=by rw[List.length_take,h];rfl
 have f:(D.flatMap bpv).take (32*1)=(D.take 32).flatMap bpv:=Q4p Q3c _ _
 rw[bsl,e,←f]
theorem basesW_fn(ex:Bool)(l:List Ev)(hl:l.length≤1000)(ho:∀e∈l,e.ok)(hr:trB l=true)(a:Int)(W:List Nat)(ol:W.length=32)(wb:Fn Tryz.prog 153 [w4 a 0 0 0] [] (bsl false W) []):Fn Tryz.prog 121 [evs ex l,vi .u64 a] [] (wsl false (Q2i W l)) []:=by
 have th:Fn Tryz.prog 95 [evs ex l,.c (.sl true 1 1 [.v (.int .i64 1)])] [] (.fn 142 [.ptr 2 0,.ptr 3 0]) [(2,[evs ex l]),(3,[.c (.sl true 1 1 [.v (.int .i64 1)])])]:=that_fn ex true l [1]
 have aw:=Z0s a
 have hrow:Fn Tryz.prog 121 [evs ex l,vi .u64 a] [] (.row 600 35 4 (Q2i W l).length) [(600,raG lpv (Q2i W l))]:=by
  (refine Q0z Tryz.func121 rfl (by rfl) ?_;simp only[Tryz.ntmps121,List.length_cons,List.length_nil,Nat.reduceAdd,Nat.reduceSub,List.replicate,List.cons_append,List.nil_append])
  (repeat(any_goals(first|((with_reducible refine Q3p ?_ ?_);rfl;intro K hK;apply Q2l;rfl;rfl;(focus(simp only[go_sem];try rfl));(focus(simp only[go_sem];try rfl));rfl;(first|omega);(first|omega);(first|omega);(simp only[go_sem];rfl);rfl;(focus((simp only[unC,Option.map_some]);(try rfl)));(simp only[go_sem];refine hK _ ?_;clear hK K))|((with_reducible refine Q0n ?_ ?_ ?_);rfl;rfl;intro K hK;(first|((first|(apply Q0k (aw);rfl;rfl;rfl;rfl;exact Tryz.func119)|(apply Q0k (wb);rfl;rfl;rfl;rfl;exact Tryz.func153));kernel_rfl;rfl;(focus((simp only[go_sem]);(try rfl);done));(first|rfl))|(apply Q1i (th) (fun r=>r+99);rfl;rfl;rfl;rfl;exact Tryz.func95;kernel_rfl;rfl;rfl;(intro r hr q hq h;simp only[List.map_cons,List.map_nil,List.cons_append,List.nil_append,List.mem_cons,List.not_mem_nil,or_false] at hr hq;(try dsimp only at h);first|omega);(simp only[Q1f,Q2g,AV.ren,AV.renL,Q0s,List.mem_cons,List.not_mem_nil,forall_eq_or_imp,forall_eq,Q2b,List.contains_cons,List.contains_nil,AV.refsL,AV.refs,Q0l,AV.inN,AV.inNL,inH,Q1b,go_sem])));(simp only[Q0w,Q1y,renH,AV.ren,AV.renL,Q0s,go_sem];refine hK _ ?_;clear hK K))|((with_reducible refine Q0b ?_ ?_);rfl;intro K hK;simp only[go_sem];((repeat(refine ndI (by first|assumption) ?_));refine hK _ ?_;clear hK K))|(with_reducible first|(refine Q0c ?_;refine hR _ ?_;clear hR R)|((first|refine Q0d ?_|refine Q0f ?_);intro J hJ hJ')|(refine Q0a ?_;intro R hR)|(refine hJ _ ?_;clear hJ hJ' J)))))
  show AW _ _ _ _
  refine AW.frz 5 (pcs:=[.sl false 1 (W).length ((W).flatMap bpv)]) rfl ?_
  simp only[St.frz,AV.frz,AV.frzL,frzH,hdel]
  refine AW.range (T0:=[.any,.any,.any,.any,.any,.ep [.sl false 1 (W).length ((W).flatMap bpv)],.ptr 1005 0,.any,.any,.any,.any,.any,.any,.any,.any,.any,.any,.any,.any,.any,.any,.any,.any,.any,.any,.any,.any,.any]) (cargs:=[.ptr 1101 0,.ptr 1102 0]) (H0:=[(1005,[nilA]),(1101,[evs ex l]),(1102,[ksl true [1]])]) (H1:=[(1005,[.row 600 35 4 (Q2i W l).length]),(600,raG lpv (Q2i W l))]) (res:=.tup []) (fun r=>if r=1005 then 6 else if 1000≤r then r-1000 else r) (fun lp=>that1G_fn 35 4 lpv (X1l W) ex true l hl ho hr [1] (by decide) rfl lp ?_ ?_) rfl rfl Tryz.func142 (by kernel_rfl) rfl rfl ?_ ?_ ?_ ?_ ?_ rfl ?_ ?_
  · intro out y v hm hk ho' hv
    have hk1:y.kind=1:=by simpa using hk
    have dl:=X3r hr hm hk1
    have hb:ownB W y=true:=by
     unfold X1l at hv
     split at hv
     · assumption
     · cases hv
    have hv':y.val=v:=by
     unfold X1l at hv
     rw[if_pos hb] at hv
     exact Option.some.inj hv
    subst hv'
    have be:=beq_fn false false (y.data.take 32) (W) (by simp;omega)
    change Fn _ _ _ _ (vb (ownB W y)) _ at be
    rw[hb,arg32 dl,show bsl false W = .c (.sl false 1 32 (W.flatMap bpv)) by rw[bsl,ol]] at be
    have k4:(raG lpv out).length=out.length*4:=by rw[List.length_map,Q0p Q8k]
    have k9:∀r,AV.refsL r (raG lpv out)=false:=fun r=>Q0l r _
    refine yc_ofR rfl ?_
    simp only[List.set]
    (repeat(any_goals(first|((with_reducible refine Q0b ?_ ?_);rfl;intro K hK;simp only[go_sem];((repeat(refine ndI (by first|assumption) ?_));refine hK _ ?_;clear hK K))|(with_reducible first|(refine Q0c ?_;refine hR _ ?_;clear hR R)|(refine Q0a ?_;intro R hR)))))
    refine⟨rfl,fun ro=>AWR.block (AWR.seq ?_)⟩
    with_reducible apply AWR.draw
    · rfl
    · kernel_rfl
    · kernel_rfl
    · simp[Q1m,Q4o,St.free,Q1w,AV.refsL,AV.refs]
    intro R hR
    clear hb hv hr
    (repeat(any_goals(first|((with_reducible refine Q0v ?_ ?_);kernel_rfl;(with_reducible refine hR _ ?_);clear hR R)|((first|((with_reducible apply Q1j);rfl;rfl;((apply Q0u (be);rfl;rfl;rfl;rfl;exact Tryz.func141);kernel_rfl;rfl;(focus((simp(disch:=omega) only[go_sem,k4,k9,ol,dl,Bool.false_and]);(try rfl);done));(first|rfl)))|((with_reducible apply Q0t);rfl;rfl;(simp(disch:=omega) only[rdE,rdOf,go_sem,k4,k9,ol,dl,Bool.false_and];rfl);(intro τ hA hQ hN;((try simp only[Q1e,Op.operands,Call.operands,go_sem,k4,k9,ol,dl,Bool.false_and,go_sem,List.mem_cons,List.not_mem_nil,forall_eq_or_imp,forall_eq,List.append_toArray,Option.toArray] at hA);(try simp only[go_sem,k4,k9,ol,dl,Bool.false_and,List.mem_cons,List.not_mem_nil,forall_eq_or_imp,forall_eq] at hQ hN);(first|(revert hA;intro hA));(first|(revert hQ;intro hQ));(first|(revert hN;intro hN));simp(disch:=omega) only[go_sem,k4,k9,ol,dl,Bool.false_and,go_sem,hA,hQ,hN];(repeat(refine ndI (by first|assumption|omega|rfl) ?_));(first|apply Q1a)))));(simp(disch:=omega) only[St.eff,setO,Q0w,go_sem,k4,k9,ol,dl,Bool.false_and])))))
    show AWR _ _ _ _ _
    refine AWR.of rfl ?_
    (have W:=ndI k4 (ndI k9 @Q0l);(repeat(any_goals(first|((with_reducible refine Q0b ?_ ?_);rfl;intro K hK;simp(disch:=omega) only[go_sem,W,Q0x,AV.refsL,AV.refs,List.length_append,List.length_cons,List.length_nil,Bool.or_false];((repeat(refine ndI (by first|assumption|omega|rfl) ?_));refine hK _ ?_;clear hK K))|(with_reducible first|(refine Q0c ?_;refine hR _ ?_;clear hR R)|(refine Q0a ?_;intro R hR))|((with_reducible apply Q0e);rfl;rfl;all_goals(intro hc;first|(cases hc;done)|(try simp only at hc)))))))
    all_goals exact⟨rfl,Q0h (by simp[leH,hget,lpv,raG])⟩
  · intro out y hm hk ho' hv
    have hk1:y.kind=1:=by simpa using hk
    have dl:=X3r hr hm hk1
    have hb:ownB W y=false:=by
     unfold X1l at hv
     split at hv
     · cases hv
     · rename_i h
       simpa using h
    have be:=beq_fn false false (y.data.take 32) W (by simp;omega)
    change Fn _ _ _ _ (vb (ownB W y)) _ at be
    rw[hb,arg32 dl,show bsl false W = .c (.sl false 1 32 (W.flatMap bpv)) by rw[bsl,ol]] at be
    have k4:(raG lpv out).length=out.length*4:=by rw[List.length_map,Q0p Q8k]
    have k9:∀r,AV.refsL r (raG lpv out)=false:=fun r=>Q0l r _
    refine yc_ofR rfl ?_
    simp only[List.set]
    (repeat(any_goals(first|((with_reducible refine Q0b ?_ ?_);rfl;intro K hK;simp only[go_sem];((repeat(refine ndI (by first|assumption) ?_));refine hK _ ?_;clear hK K))|(with_reducible first|(refine Q0c ?_;refine hR _ ?_;clear hR R)|(refine Q0a ?_;intro R hR)))))
    refine⟨rfl,fun ro=>AWR.block (AWR.seq ?_)⟩
    with_reducible apply AWR.draw
    · rfl
    · kernel_rfl
    · kernel_rfl
    · simp[Q1m,Q4o,St.free,Q1w,AV.refsL,AV.refs]
    intro R hR
    clear hb hv hr
    (repeat(any_goals(first|((with_reducible refine Q0v ?_ ?_);kernel_rfl;(with_reducible refine hR _ ?_);clear hR R)|((first|((with_reducible apply Q1j);rfl;rfl;((apply Q0u (be);rfl;rfl;rfl;rfl;exact Tryz.func141);kernel_rfl;rfl;(focus((simp(disch:=omega) only[go_sem,k4,k9,ol,dl,Bool.false_and]);(try rfl);done));(first|rfl)))|((with_reducible apply Q0t);rfl;rfl;(simp(disch:=omega) only[rdE,rdOf,go_sem,k4,k9,ol,dl,Bool.false_and];rfl);(intro τ hA hQ hN;((try simp only[Q1e,Op.operands,Call.operands,go_sem,k4,k9,ol,dl,Bool.false_and,go_sem,List.mem_cons,List.not_mem_nil,forall_eq_or_imp,forall_eq,List.append_toArray,Option.toArray] at hA);(try simp only[go_sem,k4,k9,ol,dl,Bool.false_and,List.mem_cons,List.not_mem_nil,forall_eq_or_imp,forall_eq] at hQ hN);(first|(revert hA;intro hA));(first|(revert hQ;intro hQ));(first|(revert hN;intro hN));simp(disch:=omega) only[go_sem,k4,k9,ol,dl,Bool.false_and,go_sem,hA,hQ,hN];(repeat(refine ndI (by first|assumption|omega|rfl) ?_));(first|apply Q1a)))));(simp(disch:=omega) only[St.eff,setO,Q0w,go_sem,k4,k9,ol,dl,Bool.false_and])))))
    show AWR _ _ _ _ _
    refine AWR.of rfl ?_
    (repeat(any_goals(first|(with_reducible first|refine Q0g ?_)|((with_reducible apply Q0e);rfl;rfl;all_goals(intro hc;first|(cases hc;done)|(try simp only at hc))))))
    all_goals exact⟨rfl,Q0h (by simp[leH,hget,lpv])⟩
  · simp[Q1f,Q2g,AV.ren]
  · simp[Q1f,Q2g,AV.ren]
  · simp[hget,AV.renL,AV.ren,kpv]
  · intro r hr q hq h
    simp only[List.map_cons,List.map_nil,List.cons_append,List.nil_append,List.mem_cons,List.not_mem_nil,or_false] at hr hq
    rcases hr with rfl|rfl|rfl|rfl|rfl<;>rcases hq with rfl|rfl|rfl|rfl|rfl<;>simp at h ⊢
  · simp[Q2b,St.free,Q1w,AV.refs,AV.refsL]
  · simp[inH,AV.inNL,AV.inN]
  · simp only[Q0w,Q1y,renH,AV.ren,AV.renL,Q0s,hput,hdel,hget,Nat.reduceLeDiff,Nat.reduceSub,Nat.reduceEqDiff,↓reduceIte]
    (repeat(any_goals(first|((with_reducible refine Q0b ?_ ?_);rfl;intro K hK;simp only[go_sem];((repeat(refine ndI (by first|assumption) ?_));refine hK _ ?_;clear hK K))|(with_reducible first|(refine Q0c ?_;refine hR _ ?_;clear hR R)|((first|refine Q0d ?_);intro J hJ hJ')|(refine Q0a ?_;intro R hR)|(refine hJ _ ?_;clear hJ hJ' J)|refine Q0j ?_)|((with_reducible refine hJ' _ _ ?_ ?_);(focus(simp;done));clear hJ hJ' J))))
    all_goals exact⟨by simp,⟨_,rfl,AV.le_refl _⟩,Q0h (by simp[leH,hget])⟩
 have h1:=hrow.frzG
 simpa [AV.frz,AV.frzL,Q0p Q8k] using h1
theorem bases_fn(ex:Bool)(l:List Ev)(hl:l.length≤1000)(ho:∀e∈l,e.ok)(hr:trB l=true)(a:Int)(ha:U a):Fn Tryz.prog 121 [evs ex l,vi .u64 a] [] (wsl false (Q2i (ownL a) l)) []:=by
 have wb:=wbytes_fn [UInt64.ofNat a.toNat,0,0,0] rfl
 rw[←own_lnA ha] at wb
 exact basesW_fn ex l hl ho hr a (ownL a) (X9o a) wb
end
section
open Go.RowKit
open Nat (reduceBEq)
attribute [-go_sem] IntKind.bits
set_option maxRecDepth 20000
set_option maxHeartbeats 600000
theorem idxW_fn (ex:Bool) (l:List Nat) (p:Nat→Bool) {g:FuncId} {fn:Func} {caps:List AV} (hl:l.length≤1000000) (hgf:Tryz.prog.funcs[g]? = some fn) (hgn:(fn.name == "runtime.NumGoroutine")=false) (hgb:fn.body.isNone=false) (hcap:AV.inNL [] caps=true) (hp:∀x∈l,Fn Tryz.prog g (wN x::caps) [] (vb (p x)) []) :
 Fn Tryz.prog 152 [.c (.sl ex 4 l.length (l.flatMap lpv)),.fn g caps] [] (vi .i64 (idxF p l 0)) []:=by
 obtain⟨r,hr⟩:∃r,idxF p l 0=r:=⟨_,rfl⟩
 rw[hr]
 (refine Q0z Tryz.func152 rfl (by rfl) ?_;simp only[Tryz.ntmps152,List.length_cons,List.length_nil,Nat.reduceAdd,Nat.reduceSub,List.replicate,List.cons_append,List.nil_append])
 (repeat(any_goals(first|((with_reducible refine Q0b ?_ ?_);rfl;intro K hK;simp only[go_sem];((repeat(refine ndI (by first|assumption) ?_));refine hK _ ?_;clear hK K))|(with_reducible first|(refine Q0c ?_;refine hR _ ?_;clear hR R)|((first|refine Q0d ?_|refine Q0f ?_);intro J hJ hJ')|(refine Q0a ?_;intro R hR)|(refine hJ _ ?_;clear hJ hJ' J)))))
 refine Q1t (α:={i:Nat // i≤l.length∧idxF p (l.drop i) i=r}) (fun q=>⟨[.c (.sl ex 4 l.length (l.flatMap lpv)),.fn g caps,.any,.any,.any,.any,.any,vi .i64 l.length,vi .i64 (q.1:Int),.any,.any,.any,.any,.any,.any,.any,.any,.any,.any],[]⟩) (fun q=>l.length-q.1) ⟨0,Nat.zero_le _,hr⟩ (St.le_of (by simp[leT]) (by simp[leH])) ?_
 rintro ⟨i,hi,hd⟩ J hJ hJ'
 (try dsimp only at hJ ⊢)
 rcases Nat.lt_or_ge i l.length with hlt|hge
 · obtain⟨y,hy⟩:∃y,l[i]? = some y:=⟨_,List.getElem?_eq_getElem hlt⟩
   have k1:(decide ((i:Int)<(l.length:Int)))=true:=by simp;omega
   have k2:=wsl_at hy
   have k7:(i:Int)+1=((i+1:Nat):Int):=by omega
   have hdr:l.drop i=y::l.drop (i+1):=by
    rw[List.drop_eq_getElem_cons hlt]
    rw[List.getElem?_eq_getElem hlt] at hy
    rw[Option.some.inj hy]
   have hp1:=hp y (List.mem_of_getElem? hy)
   rw[hdr] at hd
   unfold idxF at hd
   cases hxy:p y
   · rw[hxy] at hp1 hd
     rw[if_neg (by simp)] at hd
     have hJ1:=fun σ'=>hJ σ' ⟨i+1,hlt,hd⟩ (by dsimp only;omega)
     dsimp only at hJ1
     (have W:=ndI k1 (ndI k2 (ndI k7 @wrI));(repeat(any_goals(first|((with_reducible refine Q0n ?_ ?_ ?_);rfl;rfl;intro K hK;(apply Q0k (hp1);rfl;rfl;rfl;rfl;exact hgf;exact hgn;exact hgb;(focus((simp(disch:=omega) only[go_sem,W,Nat.mul_one]);(try rfl);done));(first|simp[AV.inNL,AV.inN,hcap]));(simp(disch:=omega) only[go_sem,W,Nat.mul_one];refine hK _ ?_;clear hK K))|((with_reducible refine Q0b ?_ ?_);rfl;intro K hK;simp(disch:=omega) only[go_sem,W,Nat.mul_one];((repeat(refine ndI (by first|assumption|omega|rfl) ?_));refine hK _ ?_;clear hK K))|(with_reducible first|(refine Q0c ?_;refine hR _ ?_;clear hR R)|((first|refine Q0d ?_|refine Q0f ?_);intro J hJ hJ')|(refine Q0a ?_;intro R hR)|(refine hJ _ ?_;clear hJ hJ' J)|refine Q0g ?_)|((with_reducible refine hJ' _ _ ?_ ?_);(focus(simp;done));clear hJ hJ' J)|((with_reducible apply Q0e);rfl;rfl;all_goals(intro hc;first|(cases hc;done)|(try simp only at hc)))))))
     all_goals exact hJ1 _ (St.le_of (by simp[leT]) (by simp[leH]))
   · rw[hxy] at hp1 hd
     rw[if_pos rfl] at hd
     (have W:=ndI k1 (ndI k2 (ndI k7 @wrI));(repeat(any_goals(first|((with_reducible refine Q0n ?_ ?_ ?_);rfl;rfl;intro K hK;(apply Q0k (hp1);rfl;rfl;rfl;rfl;exact hgf;exact hgn;exact hgb;(focus((simp(disch:=omega) only[go_sem,W,Nat.mul_one]);(try rfl);done));(first|simp[AV.inNL,AV.inN,hcap]));(simp(disch:=omega) only[go_sem,W,Nat.mul_one];refine hK _ ?_;clear hK K))|((with_reducible refine Q0b ?_ ?_);rfl;intro K hK;simp(disch:=omega) only[go_sem,W,Nat.mul_one];((repeat(refine ndI (by first|assumption|omega|rfl) ?_));refine hK _ ?_;clear hK K))|(with_reducible first|(refine Q0c ?_;refine hR _ ?_;clear hR R)|((first|refine Q0d ?_|refine Q0f ?_);intro J hJ hJ')|(refine Q0a ?_;intro R hR)|(refine hJ _ ?_;clear hJ hJ' J)|refine Q0g ?_|refine Q0j ?_)|((with_reducible refine hJ' _ _ ?_ ?_);(focus(simp;done));clear hJ hJ' J)|((with_reducible apply Q0e);rfl;rfl;all_goals(intro hc;first|(cases hc;done)|(try simp only at hc)))))))
     all_goals rw[←hd]
     all_goals(refine⟨by simp,⟨_,?_,AV.le_refl _⟩,Q0h (by simp[leH,hget])⟩;simp only[Tryz.results152,resL,ldA,Q0q,go_sem])
 · have k1:(decide ((i:Int)<(l.length:Int)))=false:=by simp;omega
   rw[List.drop_eq_nil_of_le hge] at hd
   have hd:r = -1:=hd.symm
   (repeat(any_goals(first|((with_reducible refine Q0b ?_ ?_);rfl;intro K hK;simp only[go_sem,k1];((repeat(refine ndI (by first|assumption) ?_));refine hK _ ?_;clear hK K))|(with_reducible first|(refine Q0c ?_;refine hR _ ?_;clear hR R)|((first|refine Q0d ?_);intro J hJ hJ')|(refine Q0a ?_;intro R hR)|(refine hJ _ ?_;clear hJ hJ' J)|refine Q0j ?_|refine Q0o ?_)|((with_reducible refine hJ' _ _ ?_ ?_);(focus(simp;done));clear hJ hJ' J)|((with_reducible apply Q0e);rfl;rfl;all_goals(intro hc;first|(cases hc;done)|(try simp only at hc))))))
   all_goals rw[hd]
   all_goals(refine⟨by simp,⟨_,?_,AV.le_refl _⟩,Q0h (by simp[leH,hget])⟩;simp only[Tryz.results152,resL,ldA,Q0q,go_sem])
theorem hasW_fn (ex:Bool) (l:List Nat) (p:Nat→Bool) {g:FuncId} {fn:Func} {caps:List AV} (hl:l.length≤1000000) (hgf:Tryz.prog.funcs[g]? = some fn) (hgn:(fn.name == "runtime.NumGoroutine")=false) (hgb:fn.body.isNone=false) (hcap:AV.inNL [] caps=true) (hp:∀x∈l,Fn Tryz.prog g (wN x::caps) [] (vb (p x)) []) :
 Fn Tryz.prog 120 [.c (.sl ex 4 l.length (l.flatMap lpv)),.fn g caps] [] (vb (l.any p)) []:=by
 have h:=idxW_fn ex l p hl hgf hgn hgb hcap hp
 have e:=X0f p l 0
 generalize idxF p l 0=r at h e
 rw[←e]
 (refine Q0z Tryz.func120 rfl (by rfl) ?_;simp only[Tryz.ntmps120,List.length_cons,List.length_nil,Nat.reduceAdd,Nat.reduceSub,List.replicate,List.cons_append,List.nil_append])
 (repeat(any_goals(first|((with_reducible refine Q0n ?_ ?_ ?_);rfl;rfl;intro K hK;((apply Q0k (h);rfl;rfl;rfl;rfl;exact Tryz.func152);kernel_rfl;rfl;(focus((simp only[go_sem]);(try rfl);done));(first|simp[AV.inNL,AV.inN,hcap]));(simp only[go_sem];refine hK _ ?_;clear hK K))|((with_reducible refine Q0b ?_ ?_);rfl;intro K hK;simp only[go_sem];((repeat(refine ndI (by first|assumption) ?_));refine hK _ ?_;clear hK K))|(with_reducible first|(refine Q0c ?_;refine hR _ ?_;clear hR R)|((first|refine Q0d ?_);intro J hJ hJ')|(refine Q0a ?_;intro R hR)|(refine hJ _ ?_;clear hJ hJ' J)|refine Q0j ?_))))
 all_goals(refine⟨by simp,⟨_,?_,AV.le_refl _⟩,Q0h (by simp[leH,hget])⟩;simp only[Tryz.results120,resL,ldA,Q0q,go_sem])
abbrev epW(key:Nat):AV:=.ep [.v (.int .u64 (l0 key)),.v (.int .u64 (l1 key)),.v (.int .u64 (l2 key)),.v (.int .u64 (l3 key))]
theorem near1_fn(key x:Nat)(hk:key<WW)(hx:x<WW):Fn Tryz.prog 117 [wN x,epW key] [] (vb (Q5d key x)) []:=by
 have h:=near_fn key x hk hx
 (refine Q0z Tryz.func117 rfl (by rfl) ?_;simp only[Tryz.ntmps117,List.length_cons,List.length_nil,Nat.reduceAdd,Nat.reduceSub,List.replicate,List.cons_append,List.nil_append])
 (repeat(any_goals(first|((with_reducible refine Q0n ?_ ?_ ?_);rfl;rfl;intro K hK;((apply Q0k (h);rfl;rfl;rfl;rfl;exact Tryz.func118);kernel_rfl;rfl;(focus((simp only[go_sem]);(try rfl);done));(first|rfl));(simp only[go_sem];refine hK _ ?_;clear hK K))|((with_reducible refine Q0b ?_ ?_);rfl;intro K hK;simp only[go_sem];((repeat(refine ndI (by first|assumption) ?_));refine hK _ ?_;clear hK K))|(with_reducible first|(refine Q0c ?_;refine hR _ ?_;clear hR R)|((first|refine Q0d ?_);intro J hJ hJ')|(refine Q0a ?_;intro R hR)|(refine hJ _ ?_;clear hJ hJ' J)|refine Q0j ?_))))
 all_goals(refine⟨by simp,⟨_,?_,AV.le_refl _⟩,Q0h (by simp[leH,hget])⟩;simp only[Tryz.results117,resL,ldA,Q0q,go_sem])
theorem assoc_fnW(ex:Bool)(l:List Ev)(a:Int)(key:Nat)(hk:key<WW)(bs:List Nat)(hbl:bs.length≤1000)(hbo:∀x∈bs,x<WW)(tb b1:Bool)(h1:(l0 key==a&&(l1 key==0&&(l2 key==0&&l3 key==0)))=b1)
 (ck:Fn Tryz.prog 51 [evs ex l] [] (vi .i64 (if tb=true then 0 else 270)) []) (bf:tb=true→Fn Tryz.prog 121 [evs ex l,vi .u64 a] [] (wsl false bs) []) :
 FnW (fun _=>True) Tryz.prog 74 [evs ex l,vi .u64 a,wN key] [] (vb (tb&&(b1||bs.any (Q5d key)))) []:=by
 have hw:=hasW_fn false bs (Q5d key) (caps:=[epW key]) (by omega) Tryz.func117 (by kernel_rfl) rfl (by simp[AV.inNL,AV.inN]) fun x hx=>near1_fn key x hk (hbo x hx)
 have aw:=Z0s a
 generalize bs.any (Q5d key)=b2 at hw ⊢
 cases tb with
 |false=>
  rw[if_neg (by simp)] at ck
  (refine Q5e Tryz.func74 rfl (by rfl) ?_;simp only[Tryz.ntmps74,List.length_cons,List.length_nil,Nat.reduceAdd,Nat.reduceSub,List.replicate,List.cons_append,List.nil_append])
  refine AWE.of ?_
  (repeat(any_goals(first|((with_reducible refine Q0n ?_ ?_ ?_);rfl;rfl;intro K hK;((apply Q0k (ck);rfl;rfl;rfl;rfl;exact Tryz.func51);kernel_rfl;rfl;(focus((simp only[go_sem]);(try rfl);done));(first|rfl));(simp only[go_sem];refine hK _ ?_;clear hK K))|((with_reducible refine Q0b ?_ ?_);rfl;intro K hK;simp only[go_sem];((repeat(refine ndI (by first|assumption) ?_));refine hK _ ?_;clear hK K))|(with_reducible first|(refine Q0c ?_;refine hR _ ?_;clear hR R)|((first|refine Q0d ?_);intro J hJ hJ')|(refine Q0a ?_;intro R hR)|(refine hJ _ ?_;clear hJ hJ' J)|refine Q0j ?_)|((with_reducible refine hJ' _ _ ?_ ?_);(focus(simp;done));clear hJ hJ' J)|((with_reducible apply Q0e);rfl;rfl;all_goals(intro hc;first|(cases hc;done)|(try simp only at hc))))))
  all_goals exact⟨by simp,⟨_,rfl,AV.le_of (by simp[Q0q])⟩,Q0h (by simp[leH,hget])⟩
 |true=>
  rw[if_pos rfl] at ck
  have bf:=bf rfl
  (refine Q5e Tryz.func74 rfl (by rfl) ?_;simp only[Tryz.ntmps74,List.length_cons,List.length_nil,Nat.reduceAdd,Nat.reduceSub,List.replicate,List.cons_append,List.nil_append])
  refine AWE.seq (AWE.of ?_)
  (repeat(any_goals(first|((with_reducible refine Q0b ?_ ?_);rfl;intro K hK;simp only[go_sem];((repeat(refine ndI (by first|assumption) ?_));refine hK _ ?_;clear hK K))|(with_reducible first|(refine Q0c ?_;refine hR _ ?_;clear hR R)|(refine Q0a ?_;intro R hR)))))
  show AWE _ _ _ _ _
  refine AWE.seq (AWE.of ?_)
  (repeat(any_goals(first|((with_reducible refine Q0n ?_ ?_ ?_);rfl;rfl;intro K hK;((apply Q0k (ck);rfl;rfl;rfl;rfl;exact Tryz.func51);kernel_rfl;rfl;(focus((simp only[go_sem]);(try rfl);done));(first|rfl));(simp only[go_sem];refine hK _ ?_;clear hK K))|((with_reducible refine Q0b ?_ ?_);rfl;intro K hK;simp only[go_sem];((repeat(refine ndI (by first|assumption) ?_));refine hK _ ?_;clear hK K))|(with_reducible first|(refine Q0c ?_;refine hR _ ?_;clear hR R)|((first|refine Q0d ?_);intro J hJ hJ')|(refine Q0a ?_;intro R hR)|(refine hJ _ ?_;clear hJ hJ' J)|refine Q0g ?_)|((with_reducible apply Q0e);rfl;rfl;all_goals(intro hc;first|(cases hc;done)|(try simp only at hc))))))
  show AWE _ _ _ _ _
  refine AWE.seq (AWE.of ?_)
  (repeat(any_goals(first|((with_reducible refine Q0b ?_ ?_);rfl;intro K hK;simp only[go_sem];((repeat(refine ndI (by first|assumption) ?_));refine hK _ ?_;clear hK K))|(with_reducible first|(refine Q0c ?_;refine hR _ ?_;clear hR R)|(refine Q0a ?_;intro R hR)))))
  show AWE _ _ _ _ _
  refine AWE.to (St.to.frz 5 (pcs:=[.v (.int .u64 (l0 key)),.v (.int .u64 (l1 key)),.v (.int .u64 (l2 key)),.v (.int .u64 (l3 key))]) rfl) ?_
  simp only[St.frz,AV.frz,AV.frzL,frzH,if_true,List.length_cons,List.length_nil,List.drop,Nat.zero_add,Nat.reduceAdd,Nat.lt_add_one,Nat.zero_lt_succ]
  refine AWE.of ?_
  cases b1 with
  |false=>
   (repeat(any_goals(first|(with_reducible first|((first|refine Q0d ?_);intro J hJ hJ')|(refine hJ _ ?_;clear hJ hJ' J)|refine Q0j ?_)|((with_reducible refine Q0v ?_ ?_);kernel_rfl;(with_reducible refine hR _ ?_);clear hR R)|((first|((first|((with_reducible apply Q1j);rfl;rfl)|((with_reducible apply Q2y);rfl;rfl;rfl;rfl;rfl));((first|(apply Q0u (aw);rfl;rfl;rfl;rfl;exact Tryz.func119)|(apply Q0u (bf);rfl;rfl;rfl;rfl;exact Tryz.func121)|(apply Q0u (hw);rfl;rfl;rfl;rfl;exact Tryz.func120));kernel_rfl;rfl;(focus((simp only[go_sem,h1]);(try rfl);done));(first|rfl)))|((first|((with_reducible apply Q0t);rfl;rfl)|((with_reducible apply Q2v);rfl;rfl;rfl;rfl;rfl));(simp only[rdE,rdOf,go_sem,h1];rfl);(intro τ hA hQ hN;((try simp only[Q1e,Op.operands,Call.operands,go_sem,h1,go_sem,List.mem_cons,List.not_mem_nil,forall_eq_or_imp,forall_eq,List.append_toArray,Option.toArray] at hA);(try simp only[go_sem,h1,List.mem_cons,List.not_mem_nil,forall_eq_or_imp,forall_eq] at hQ hN);(first|(revert hA;intro hA));(first|(revert hQ;intro hQ));(first|(revert hN;intro hN));simp only[go_sem,h1,go_sem,hA,hQ,hN];(repeat(refine ndI (by first|assumption) ?_));(first|apply Q1a)))));(simp only[St.eff,setO,Q0w,go_sem,h1]))|((with_reducible refine Q0r ?_ ?_ ?_ ?_);kernel_rfl;kernel_rfl;(first|kernel_rfl);intro R hR))))
   all_goals exact⟨by simp,⟨_,rfl,AV.le_of (by simp[Q0q])⟩,Q0h (by simp[leH,hget])⟩
  |true=>
   (repeat(any_goals(first|(with_reducible first|((first|refine Q0d ?_);intro J hJ hJ')|(refine hJ _ ?_;clear hJ hJ' J)|refine Q0j ?_)|((with_reducible refine Q0v ?_ ?_);kernel_rfl;(with_reducible refine hR _ ?_);clear hR R)|((first|((with_reducible apply Q3e);rfl;rfl;rfl;rfl)|((first|((with_reducible apply Q1j);rfl;rfl));((first|(apply Q0u (aw);rfl;rfl;rfl;rfl;exact Tryz.func119));kernel_rfl;rfl;(focus((simp only[go_sem,h1]);(try rfl);done));(first|rfl)))|((first|((with_reducible apply Q0t);rfl;rfl));(simp only[rdE,rdOf,go_sem,h1];rfl);(intro τ hA hQ hN;((try simp only[Q1e,Op.operands,Call.operands,go_sem,h1,go_sem,List.mem_cons,List.not_mem_nil,forall_eq_or_imp,forall_eq,List.append_toArray,Option.toArray] at hA);(try simp only[go_sem,h1,List.mem_cons,List.not_mem_nil,forall_eq_or_imp,forall_eq] at hQ hN);(first|(revert hA;intro hA));(first|(revert hQ;intro hQ));(first|(revert hN;intro hN));simp only[go_sem,h1,go_sem,hA,hQ,hN];(repeat(refine ndI (by first|assumption) ?_));(first|apply Q1a)))));(simp only[St.eff,setO,Q0w,go_sem,h1]))|((with_reducible refine Q0r ?_ ?_ ?_ ?_);kernel_rfl;kernel_rfl;(first|kernel_rfl);intro R hR))))
   all_goals exact⟨by simp,⟨_,rfl,AV.le_of (by simp[Q0q])⟩,Q0h (by simp[leH,hget])⟩
def eqwB(a:Int)(key:Nat):Bool:=(l0 key==a&&(l1 key==0&&(l2 key==0&&l3 key==0)))
def X7b(a:Int)(key:Nat)(l:List Ev):Bool:=trB l&&(eqwB a key||(Q2i (ownL a) l).any (Q5d key))
theorem X0x(W:List Nat)(l:List Ev):(Q2i W l).length≤l.length:=X8z _ _ _
theorem Z0r{l:List Ev}(ho:∀e∈l,e.ok)(W:List Nat):∀x∈Q2i W l,x<WW:=fun x hx=>by
 obtain⟨e,he,h⟩:=List.mem_filterMap.1 hx
 unfold X1l at h
 split at h
 · cases h
   exact(ho e (List.mem_filter.1 he).1).2.1
 · cases h
theorem assoc_fn(ex:Bool)(l:List Ev)(hl:l.length≤1000)(ho:∀e∈l,e.ok)(a:Int)(ha:U a)(key:Nat)(hk:key<WW):Fn Tryz.prog 74 [evs ex l,vi .u64 a,wN key] [] (vb (X7b a key l)) []:=fun E vs=>
 assoc_fnW ex l a key hk (Q2i (ownL a) l) (by have:=X0x (ownL a) l;omega) (Z0r ho _) (trB l) (eqwB a key) rfl (Q5u ex l (by omega) ho) (fun hr=>bases_fn ex l hl ho hr a ha) E vs trivial
end
section
open Go.RowKit
open Nat (reduceBEq)
attribute [-go_sem] IntKind.bits
set_option maxRecDepth 20000
set_option maxHeartbeats 2000000
structure Ph where
 role:Int
 who:Int
 stk:Bool
 tr:List Ev
deriving DecidableEq
structure Cs where
 snd:Int
 ph:List Ph
 cd:List Int
deriving DecidableEq
def Ph.pv(p:Ph):List PV:=[.v (.int .i64 p.role),.v (.int .u64 p.who),.v (.bool p.stk),.sl false 14 p.tr.length (p.tr.flatMap Ev.pv)]
theorem X1w(p:Ph):p.pv.length=4:=rfl
abbrev phA(p:Ph):AV:=.agg [vi .i64 p.role,vi .u64 p.who,vb p.stk,evs false p.tr]
abbrev phs(ex:Bool)(l:List Ph):AV:=.c (.sl ex 4 l.length (l.flatMap Ph.pv))
theorem X1e{l:List Ph}{i:Nat}{p:Ph}(h:l[i]? = some p):((l.flatMap Ph.pv).drop (i*4)).take 4=[.v (.int .i64 p.role),.v (.int .u64 p.who),.v (.bool p.stk),.sl false 14 p.tr.length (p.tr.flatMap Ev.pv)]:=Q5q (f:=Ph.pv) X1w h
abbrev csA(c:Cs):AV:=.agg [vi .u64 c.snd,phs false c.ph,asl false c.cd]
def Ph.ok(p:Ph):Prop:=U p.who∧p.tr.length≤1000∧∀e∈p.tr,e.ok
def Cs.ok(c:Cs):Prop:=U c.snd∧(c.ph.length≤1000∧∀p∈c.ph,p.ok)∧c.cd.length≤1000∧∀a∈c.cd,U a
theorem a_ne(x y:Int):(x != y) = !decide (x=y):=by
 by_cases h:x=y
 · simp[h]
 · simp[h]
theorem eqA_fn(e1 e2:Bool)(l m:List Int)(hl:l.length≤maxLen)(hm:m.length≤maxLen):Fn Tryz.prog 54 [asl e1 l,asl e2 m] [] (vb (decide (l=m))) []:=by
 by_cases hlen:l.length=m.length
 · have k0:((l.length:Int) != (m.length:Int))=false:=by rw[hlen];simp
   have k8:l.length<9223372036854775808:=Nat.lt_succ_of_le hl
   obtain⟨r,hr⟩:∃r,decide (l=m)=r:=⟨_,rfl⟩
   rw[hr]
   (refine Q0z Tryz.func54 rfl (by rfl) ?_;simp only[Tryz.ntmps54,List.length_cons,List.length_nil,Nat.reduceAdd,Nat.reduceSub,List.replicate,List.cons_append,List.nil_append])
   (repeat(any_goals(first|((with_reducible refine Q0b ?_ ?_);rfl;intro K hK;simp only[go_sem,k0];((repeat(refine ndI (by first|assumption) ?_));refine hK _ ?_;clear hK K))|(with_reducible first|(refine Q0c ?_;refine hR _ ?_;clear hR R)|((first|refine Q0d ?_|refine Q0f ?_);intro J hJ hJ')|(refine Q0a ?_;intro R hR)|(refine hJ _ ?_;clear hJ hJ' J)|refine Q0g ?_)|((with_reducible apply Q0e);rfl;rfl;all_goals(intro hc;first|(cases hc;done)|(try simp only at hc))))))
   refine Q1t (α:={i:Nat // i≤l.length∧∀j,j<i→l[j]? = m[j]?}) (fun p=>⟨[asl e1 l,asl e2 m,.any,.any,.any,.any,.any,.any,.any,.any,.any,.any,vi .i64 l.length,vi .i64 p.1,.any,.any,.any,.any,.any,.any,.any,.any,.any,.any,.any,.any],[]⟩) (fun p=>l.length-p.1) ⟨0,Nat.zero_le _,fun j hj=>by omega⟩ (St.le_of (by simp[leT]) (by simp[leH])) ?_
   rintro ⟨i,hi,hno⟩ J hJ hJ'
   dsimp only at hi hJ ⊢
   rcases Nat.lt_or_ge i l.length with hlt|hge
   · have k1:(decide ((i:Int)<(l.length:Int)))=true:=decide_eq_true (by omega)
     have k7:(i:Int)+1=((i+1:Nat):Int):=by omega
     obtain⟨x,hx⟩:∃x,l[i]? = some x:=⟨_,List.getElem?_eq_getElem hlt⟩
     obtain⟨y,hy⟩:∃y,m[i]? = some y:=⟨_,List.getElem?_eq_getElem (by omega)⟩
     have hlm:i<m.length:=by omega
     have k2:=X0y hx
     have k3:=X0y hy
     have k4:=a_ne x y
     by_cases hxy:x=y
     · rw[decide_eq_true hxy,Bool.not_true] at k4
       (have W:=ndI k1 (ndI k2 (ndI k3 (ndI k4 (ndI k7 @wrI))));(repeat(any_goals(first|((with_reducible refine Q0b ?_ ?_);rfl;intro K hK;simp(disch:=omega) only[go_sem,W,Nat.mul_one,Bool.not_true,Bool.not_false];((repeat(refine ndI (by first|assumption|rfl) ?_));refine hK _ ?_;clear hK K))|(with_reducible first|(refine Q0c ?_;refine hR _ ?_;clear hR R)|((first|refine Q0d ?_|refine Q0f ?_);intro J hJ hJ')|(refine Q0a ?_;intro R hR)|(refine hJ _ ?_;clear hJ hJ' J)|refine Q0g ?_)|((with_reducible refine hJ' _ _ ?_ ?_);(focus(simp;done));clear hJ hJ' J)|((with_reducible apply Q0e);rfl;rfl;all_goals(intro hc;first|(cases hc;done)|(try simp only at hc)))|((with_reducible refine Q0v ?_ ?_);kernel_rfl;(with_reducible refine hR _ ?_);clear hR R)|(((with_reducible apply Q0t);rfl;rfl;(simp(disch:=omega) only[rdE,rdOf,go_sem,W,Nat.mul_one,Bool.not_true,Bool.not_false];rfl);(intro τ hA hQ hN;((try simp only[Q1e,Op.operands,Call.operands,go_sem,W,Nat.mul_one,Bool.not_true,Bool.not_false,go_sem,List.mem_cons,List.not_mem_nil,forall_eq_or_imp,forall_eq,List.append_toArray,Option.toArray] at hA);(try simp only[go_sem,W,Nat.mul_one,Bool.not_true,Bool.not_false,List.mem_cons,List.not_mem_nil,forall_eq_or_imp,forall_eq] at hQ hN);(first|(revert hA;intro hA));(first|(revert hQ;intro hQ));(first|(revert hN;intro hN));simp(disch:=omega) only[go_sem,W,Nat.mul_one,Bool.not_true,Bool.not_false,go_sem,hA,hQ,hN];(repeat(refine ndI (by first|assumption|omega|rfl) ?_));(first|apply Q1a))));(simp(disch:=omega) only[St.eff,setO,Q0w,go_sem,W,Nat.mul_one,Bool.not_true,Bool.not_false]))|((with_reducible refine Q0r ?_ ?_ ?_ ?_);kernel_rfl;kernel_rfl;(first|kernel_rfl);intro R hR)))))
       all_goals exact hJ _ ⟨i+1,hlt,fun j hj=>by
        rcases Nat.lt_or_ge j i with h'|h'
        · exact hno j h'
        · obtain rfl:j=i:=by omega
          rw[hx,hy,hxy]⟩ (by simp only;omega) (St.le_of (by simp[leT]) (by simp[leH]))
     · rw[decide_eq_false hxy,Bool.not_false] at k4
       have hrf:r=false:=by
        rw[←hr,decide_eq_false_iff_not]
        intro e;rw[e,hy] at hx;cases hx;exact hxy rfl
       (have W:=ndI k1 (ndI k2 (ndI k3 (ndI k4 (ndI k7 @wrI))));(repeat(any_goals(first|((with_reducible refine Q0b ?_ ?_);rfl;intro K hK;simp(disch:=omega) only[go_sem,W,Nat.mul_one,Bool.not_true,Bool.not_false];((repeat(refine ndI (by first|assumption|rfl) ?_));refine hK _ ?_;clear hK K))|(with_reducible first|(refine Q0c ?_;refine hR _ ?_;clear hR R)|((first|refine Q0d ?_|refine Q0f ?_);intro J hJ hJ')|(refine Q0a ?_;intro R hR)|(refine hJ _ ?_;clear hJ hJ' J)|refine Q0g ?_|refine Q0j ?_)|((with_reducible refine hJ' _ _ ?_ ?_);(focus(simp;done));clear hJ hJ' J)|((with_reducible apply Q0e);rfl;rfl;all_goals(intro hc;first|(cases hc;done)|(try simp only at hc)))|((with_reducible refine Q0v ?_ ?_);kernel_rfl;(with_reducible refine hR _ ?_);clear hR R)|(((with_reducible apply Q0t);rfl;rfl;(simp(disch:=omega) only[rdE,rdOf,go_sem,W,Nat.mul_one,Bool.not_true,Bool.not_false];rfl);(intro τ hA hQ hN;((try simp only[Q1e,Op.operands,Call.operands,go_sem,W,Nat.mul_one,Bool.not_true,Bool.not_false,go_sem,List.mem_cons,List.not_mem_nil,forall_eq_or_imp,forall_eq,List.append_toArray,Option.toArray] at hA);(try simp only[go_sem,W,Nat.mul_one,Bool.not_true,Bool.not_false,List.mem_cons,List.not_mem_nil,forall_eq_or_imp,forall_eq] at hQ hN);(first|(revert hA;intro hA));(first|(revert hQ;intro hQ));(first|(revert hN;intro hN));simp(disch:=omega) only[go_sem,W,Nat.mul_one,Bool.not_true,Bool.not_false,go_sem,hA,hQ,hN];(repeat(refine ndI (by first|assumption|omega|rfl) ?_));(first|apply Q1a))));(simp(disch:=omega) only[St.eff,setO,Q0w,go_sem,W,Nat.mul_one,Bool.not_true,Bool.not_false]))|((with_reducible refine Q0r ?_ ?_ ?_ ?_);kernel_rfl;kernel_rfl;(first|kernel_rfl);intro R hR)))))
       all_goals rw[hrf]
       all_goals(refine⟨by simp,⟨_,?_,AV.le_refl _⟩,Q0h (by simp[leH,hget])⟩;simp only[Tryz.results54,resL,ldA,Q0q,go_sem])
   · have k1:(decide ((i:Int)<(l.length:Int)))=false:=decide_eq_false (by omega)
     have hrt:r=true:=by
      rw[←hr,decide_eq_true_iff]
      refine List.ext_getElem? fun j=>?_
      rcases Nat.lt_or_ge j l.length with h|h
      · exact hno j (by omega)
      · rw[List.getElem?_eq_none h,List.getElem?_eq_none (by omega)]
     (repeat(any_goals(first|((with_reducible refine Q0b ?_ ?_);rfl;intro K hK;simp only[go_sem,k1];((repeat(refine ndI (by first|assumption) ?_));refine hK _ ?_;clear hK K))|(with_reducible first|(refine Q0c ?_;refine hR _ ?_;clear hR R)|((first|refine Q0d ?_);intro J hJ hJ')|(refine Q0a ?_;intro R hR)|(refine hJ _ ?_;clear hJ hJ' J)|refine Q0j ?_|refine Q0o ?_)|((with_reducible refine hJ' _ _ ?_ ?_);(focus(simp;done));clear hJ hJ' J)|((with_reducible apply Q0e);rfl;rfl;all_goals(intro hc;first|(cases hc;done)|(try simp only at hc))))))
     all_goals rw[hrt]
     all_goals(refine⟨by simp,⟨_,?_,AV.le_refl _⟩,Q0h (by simp[leH,hget])⟩;simp only[Tryz.results54,resL,ldA,Q0q,go_sem])
 · have k0:((l.length:Int) != (m.length:Int))=true:=by simp;omega
   have he:decide (l=m)=false:=by rw[decide_eq_false_iff_not];intro e;exact hlen (by rw[e])
   rw[he]
   (refine Q0z Tryz.func54 rfl (by rfl) ?_;simp only[Tryz.ntmps54,List.length_cons,List.length_nil,Nat.reduceAdd,Nat.reduceSub,List.replicate,List.cons_append,List.nil_append])
   (repeat(any_goals(first|((with_reducible refine Q0b ?_ ?_);rfl;intro K hK;simp only[go_sem,k0];((repeat(refine ndI (by first|assumption) ?_));refine hK _ ?_;clear hK K))|(with_reducible first|(refine Q0c ?_;refine hR _ ?_;clear hR R)|((first|refine Q0d ?_);intro J hJ hJ')|(refine Q0a ?_;intro R hR)|(refine hJ _ ?_;clear hJ hJ' J)|refine Q0j ?_)|((with_reducible refine hJ' _ _ ?_ ?_);(focus(simp;done));clear hJ hJ' J)|((with_reducible apply Q0e);rfl;rfl;all_goals(intro hc;first|(cases hc;done)|(try simp only at hc))))))
   all_goals(refine⟨by simp,⟨_,?_,AV.le_refl _⟩,Q0h (by simp[leH,hget])⟩;simp only[Tryz.results54,resL,ldA,Q0q,go_sem])
theorem idxP_fn (ex:Bool) (l:List Ph) (p:Ph→Bool) {g:FuncId} {fn:Func} {caps:List AV} (hl:l.length≤1000000) (hgf:Tryz.prog.funcs[g]? = some fn) (hgn:(fn.name == "runtime.NumGoroutine")=false) (hgb:fn.body.isNone=false) (hcap:AV.inNL [] caps=true) (hp:∀x∈l,Fn Tryz.prog g (phA x::caps) [] (vb (p x)) []) :
 Fn Tryz.prog 86 [.c (.sl ex 4 l.length (l.flatMap Ph.pv)),.fn g caps] [] (vi .i64 (idxF p l 0)) []:=by
 obtain⟨r,hr⟩:∃r,idxF p l 0=r:=⟨_,rfl⟩
 rw[hr]
 (refine Q0z Tryz.func86 rfl (by rfl) ?_;simp only[Tryz.ntmps86,List.length_cons,List.length_nil,Nat.reduceAdd,Nat.reduceSub,List.replicate,List.cons_append,List.nil_append])
 (repeat(any_goals(first|((with_reducible refine Q0b ?_ ?_);rfl;intro K hK;simp only[go_sem];((repeat(refine ndI (by first|assumption) ?_));refine hK _ ?_;clear hK K))|(with_reducible first|(refine Q0c ?_;refine hR _ ?_;clear hR R)|((first|refine Q0d ?_|refine Q0f ?_);intro J hJ hJ')|(refine Q0a ?_;intro R hR)|(refine hJ _ ?_;clear hJ hJ' J)))))
 refine Q1t (α:={i:Nat // i≤l.length∧idxF p (l.drop i) i=r}) (fun q=>⟨[.c (.sl ex 4 l.length (l.flatMap Ph.pv)),.fn g caps,.any,.any,.any,.any,.any,vi .i64 l.length,vi .i64 (q.1:Int),.any,.any,.any,.any,.any,.any,.any,.any,.any,.any],[]⟩) (fun q=>l.length-q.1) ⟨0,Nat.zero_le _,hr⟩ (St.le_of (by simp[leT]) (by simp[leH])) ?_
 rintro ⟨i,hi,hd⟩ J hJ hJ'
 (try dsimp only at hJ ⊢)
 rcases Nat.lt_or_ge i l.length with hlt|hge
 · obtain⟨y,hy⟩:∃y,l[i]? = some y:=⟨_,List.getElem?_eq_getElem hlt⟩
   have k1:(decide ((i:Int)<(l.length:Int)))=true:=by simp;omega
   have k2:=X1e hy
   have k7:(i:Int)+1=((i+1:Nat):Int):=by omega
   have hdr:l.drop i=y::l.drop (i+1):=by
    rw[List.drop_eq_getElem_cons hlt]
    rw[List.getElem?_eq_getElem hlt] at hy
    rw[Option.some.inj hy]
   have hp1:=hp y (List.mem_of_getElem? hy)
   rw[hdr] at hd
   unfold idxF at hd
   cases hxy:p y
   · rw[hxy] at hp1 hd
     rw[if_neg (by simp)] at hd
     have hJ1:=fun σ'=>hJ σ' ⟨i+1,hlt,hd⟩ (by dsimp only;omega)
     dsimp only at hJ1
     (have W:=ndI k1 (ndI k2 (ndI k7 @wrI));(repeat(any_goals(first|((with_reducible refine Q0n ?_ ?_ ?_);rfl;rfl;intro K hK;(apply Q0k (hp1);rfl;rfl;rfl;rfl;exact hgf;exact hgn;exact hgb;(focus((simp(disch:=omega) only[go_sem,W,Nat.mul_one]);(try rfl);done));(first|simp[AV.inNL,AV.inN,hcap]));(simp(disch:=omega) only[go_sem,W,Nat.mul_one];refine hK _ ?_;clear hK K))|((with_reducible refine Q0b ?_ ?_);rfl;intro K hK;simp(disch:=omega) only[go_sem,W,Nat.mul_one];((repeat(refine ndI (by first|assumption|omega|rfl) ?_));refine hK _ ?_;clear hK K))|(with_reducible first|(refine Q0c ?_;refine hR _ ?_;clear hR R)|((first|refine Q0d ?_|refine Q0f ?_);intro J hJ hJ')|(refine Q0a ?_;intro R hR)|(refine hJ _ ?_;clear hJ hJ' J)|refine Q0g ?_)|((with_reducible refine hJ' _ _ ?_ ?_);(focus(simp;done));clear hJ hJ' J)|((with_reducible apply Q0e);rfl;rfl;all_goals(intro hc;first|(cases hc;done)|(try simp only at hc)))))))
     all_goals exact hJ1 _ (St.le_of (by simp[leT]) (by simp[leH]))
   · rw[hxy] at hp1 hd
     rw[if_pos rfl] at hd
     (have W:=ndI k1 (ndI k2 (ndI k7 @wrI));(repeat(any_goals(first|((with_reducible refine Q0n ?_ ?_ ?_);rfl;rfl;intro K hK;(apply Q0k (hp1);rfl;rfl;rfl;rfl;exact hgf;exact hgn;exact hgb;(focus((simp(disch:=omega) only[go_sem,W,Nat.mul_one]);(try rfl);done));(first|simp[AV.inNL,AV.inN,hcap]));(simp(disch:=omega) only[go_sem,W,Nat.mul_one];refine hK _ ?_;clear hK K))|((with_reducible refine Q0b ?_ ?_);rfl;intro K hK;simp(disch:=omega) only[go_sem,W,Nat.mul_one];((repeat(refine ndI (by first|assumption|omega|rfl) ?_));refine hK _ ?_;clear hK K))|(with_reducible first|(refine Q0c ?_;refine hR _ ?_;clear hR R)|((first|refine Q0d ?_|refine Q0f ?_);intro J hJ hJ')|(refine Q0a ?_;intro R hR)|(refine hJ _ ?_;clear hJ hJ' J)|refine Q0g ?_|refine Q0j ?_)|((with_reducible refine hJ' _ _ ?_ ?_);(focus(simp;done));clear hJ hJ' J)|((with_reducible apply Q0e);rfl;rfl;all_goals(intro hc;first|(cases hc;done)|(try simp only at hc)))))))
     all_goals rw[←hd]
     all_goals(refine⟨by simp,⟨_,?_,AV.le_refl _⟩,Q0h (by simp[leH,hget])⟩;simp only[Tryz.results86,resL,ldA,Q0q,go_sem])
 · have k1:(decide ((i:Int)<(l.length:Int)))=false:=by simp;omega
   rw[List.drop_eq_nil_of_le hge] at hd
   have hd:r = -1:=hd.symm
   (repeat(any_goals(first|((with_reducible refine Q0b ?_ ?_);rfl;intro K hK;simp only[go_sem,k1];((repeat(refine ndI (by first|assumption) ?_));refine hK _ ?_;clear hK K))|(with_reducible first|(refine Q0c ?_;refine hR _ ?_;clear hR R)|((first|refine Q0d ?_);intro J hJ hJ')|(refine Q0a ?_;intro R hR)|(refine hJ _ ?_;clear hJ hJ' J)|refine Q0j ?_|refine Q0o ?_)|((with_reducible refine hJ' _ _ ?_ ?_);(focus(simp;done));clear hJ hJ' J)|((with_reducible apply Q0e);rfl;rfl;all_goals(intro hc;first|(cases hc;done)|(try simp only at hc))))))
   all_goals rw[hd]
   all_goals(refine⟨by simp,⟨_,?_,AV.le_refl _⟩,Q0h (by simp[leH,hget])⟩;simp only[Tryz.results86,resL,ldA,Q0q,go_sem])
theorem hasP_fn (ex:Bool) (l:List Ph) (p:Ph→Bool) {g:FuncId} {fn:Func} {caps:List AV} (hl:l.length≤1000000) (hgf:Tryz.prog.funcs[g]? = some fn) (hgn:(fn.name == "runtime.NumGoroutine")=false) (hgb:fn.body.isNone=false) (hcap:AV.inNL [] caps=true) (hp:∀x∈l,Fn Tryz.prog g (phA x::caps) [] (vb (p x)) []) :
 Fn Tryz.prog 52 [.c (.sl ex 4 l.length (l.flatMap Ph.pv)),.fn g caps] [] (vb (l.any p)) []:=by
 have h:=idxP_fn ex l p hl hgf hgn hgb hcap hp
 have e:=X0f p l 0
 generalize idxF p l 0=r at h e
 rw[←e]
 (refine Q0z Tryz.func52 rfl (by rfl) ?_;simp only[Tryz.ntmps52,List.length_cons,List.length_nil,Nat.reduceAdd,Nat.reduceSub,List.replicate,List.cons_append,List.nil_append])
 (repeat(any_goals(first|((with_reducible refine Q0n ?_ ?_ ?_);rfl;rfl;intro K hK;((apply Q0k (h);rfl;rfl;rfl;rfl;exact Tryz.func86);kernel_rfl;rfl;(focus((simp only[go_sem]);(try rfl);done));(first|simp[AV.inNL,AV.inN,hcap]));(simp only[go_sem];refine hK _ ?_;clear hK K))|((with_reducible refine Q0b ?_ ?_);rfl;intro K hK;simp only[go_sem];((repeat(refine ndI (by first|assumption) ?_));refine hK _ ?_;clear hK K))|(with_reducible first|(refine Q0c ?_;refine hR _ ?_;clear hR R)|((first|refine Q0d ?_);intro J hJ hJ')|(refine Q0a ?_;intro R hR)|(refine hJ _ ?_;clear hJ hJ' J)|refine Q0j ?_))))
 all_goals(refine⟨by simp,⟨_,?_,AV.le_refl _⟩,Q0h (by simp[leH,hget])⟩;simp only[Tryz.results52,resL,ldA,Q0q,go_sem])
def phB(s:Int)(p:Ph)(last:Int):Bool:=!(decide (p.role≤last)||(decide (p.role>3)||((p.who==0) || !trB p.tr))) && !((p.role==2)&&(p.who != s))
def phsB(s:Int):List Ph→Int→Bool
 |[],_=>true
 |p::l,last=>phB s p last&&phsB s l p.role
def X7m(l:List Int):Bool:=decide (l.Pairwise (· < ·))
def Q4b(c:Cs):Bool:=phsB c.snd c.ph 0&&((c.ph.any fun p=>p.role==2)&&X7m c.cd)
theorem Z1o(p:Ph):Fn Tryz.prog 53 [phA p] [] (vb (p.role==2)) []:=by
 (refine Q0z Tryz.func53 rfl (by rfl) ?_;simp only[Tryz.ntmps53,List.length_cons,List.length_nil,Nat.reduceAdd,Nat.reduceSub,List.replicate,List.cons_append,List.nil_append])
 (repeat(any_goals(first|((with_reducible refine Q0b ?_ ?_);rfl;intro K hK;simp only[go_sem];((repeat(refine ndI (by first|assumption) ?_));refine hK _ ?_;clear hK K))|(with_reducible first|(refine Q0c ?_;refine hR _ ?_;clear hR R)|((first|refine Q0d ?_);intro J hJ hJ')|(refine Q0a ?_;intro R hR)|(refine hJ _ ?_;clear hJ hJ' J)|refine Q0j ?_))))
 all_goals(refine⟨by simp,⟨_,?_,AV.le_refl _⟩,Q0h (by simp[leH,hget])⟩;simp only[Tryz.results53,resL,ldA,Q0q,go_sem])
theorem X5f{l r:List Int}(hr:r.Pairwise (· < ·))(hm:∀x,x∈r↔x∈l):decide (l=r)=X7m l:=by
 unfold X7m
 refine decide_eq_decide.2 ⟨fun h=>by rw[h];exact hr,fun h=>X7l h hr fun x=>(hm x).symm⟩
theorem b6:∀c1 c2 c3 tb c4 c5:Bool,(!(c1||(c2||(c3 || !tb))) && !(c4&&c5))=true→c1=false∧c2=false∧c3=false∧tb=true∧(c4&&c5)=false:=by decide
theorem X5n(c:Cs)(hc:c.ok):Fn Tryz.prog 16 [csA c] [] (vi .i64 (if Q4b c then 0 else 320)) []:=by
 obtain⟨s,ph,cd⟩:=c
 obtain⟨hs,⟨hpl,hpo⟩,hcl,hco⟩:=hc
 dsimp only at hs hpl hpo hcl hco
 have hh:=hasP_fn false ph (fun p=>p.role==2) (caps:=[]) (by omega) Tryz.func53 (by kernel_rfl) rfl rfl fun p hp=>Z1o p
 obtain⟨r,hr1,hr2,hr3,so⟩:=X1q false cd (by omega) hco
 have he:=eqA_fn false false cd r (by unfold maxLen;omega) (by unfold maxLen;omega)
 rw[X5f hr1 hr2] at he
 have e:Q4b ⟨s,ph,cd⟩=(phsB s ph 0&&((ph.any fun p=>p.role==2)&&X7m cd)):=rfl
 rw[e]
 generalize (ph.any fun p=>p.role==2)=b2 at hh ⊢
 generalize X7m cd=b3 at he ⊢
 clear e hr1 hr2
 obtain⟨q,hq⟩:∃q,phsB s ph 0=q:=⟨_,rfl⟩
 rw[hq]
 (refine Q0z Tryz.func16 rfl (by rfl) ?_;simp only[Tryz.ntmps16,List.length_cons,List.length_nil,Nat.reduceAdd,Nat.reduceSub,List.replicate,List.cons_append,List.nil_append])
 (repeat(any_goals(first|((with_reducible refine Q0b ?_ ?_);rfl;intro K hK;simp only[go_sem];((repeat(refine ndI (by first|assumption) ?_));refine hK _ ?_;clear hK K))|(with_reducible first|(refine Q0c ?_;refine hR _ ?_;clear hR R)|((first|refine Q0d ?_|refine Q0f ?_);intro J hJ hJ')|(refine Q0a ?_;intro R hR)|(refine hJ _ ?_;clear hJ hJ' J)))))
 refine Q1t (α:={p:Nat×Int // p.1≤ph.length∧phsB s (ph.drop p.1) p.2=q}) (fun p=>⟨[.any,.ptr 1 0,vi .i64 0,vi .i64 p.1.2,.any,.any,.any,.any,phs false ph,vi .i64 ph.length,vi .i64 (p.1.1:Int),.any,.any,.any,.any,.any,.any,.any,.any,.any,.any,.any,.any,.any,.any,.any,.any,.any,.any,.any,.any,.any,.any,.any,.any,.any,.any,.any,.any,.any,.any,.any,.any,.any,.any,.any,.any,.any,.any,.any,.any,.any,.any,.any,.any,.any,.any,.any,.any,.any,.any],[(1,[vi .u64 s,phs false ph,asl false cd])]⟩) (fun p=>ph.length-p.1.1) ⟨(0,0),Nat.zero_le _,hq⟩ (St.le_of (by simp[leT]) (by simp[leH,hget])) ?_
 rintro ⟨⟨i,last⟩,hi,hd⟩ J hJ hJ'
 (try dsimp only at hi hd hJ ⊢)
 rcases Nat.lt_or_ge i ph.length with hlt|hge
 · obtain⟨y,hy⟩:∃y,ph[i]? = some y:=⟨_,List.getElem?_eq_getElem hlt⟩
   have k1:(decide ((i:Int)<(ph.length:Int)))=true:=by simp;omega
   have k2:=X1e hy
   have k7:(i:Int)+1=((i+1:Nat):Int):=by omega
   have oy:=hpo y (List.mem_of_getElem? hy)
   have ck:=Q5u false y.tr (by have:=oy.2.1;omega) oy.2.2
   have hdr:ph.drop i=y::ph.drop (i+1):=by
    rw[List.drop_eq_getElem_cons hlt]
    rw[List.getElem?_eq_getElem hlt] at hy
    rw[Option.some.inj hy]
   rw[hdr] at hd
   unfold phsB phB at hd
   have hJ1:=fun σ' (h:phsB s (ph.drop (i+1)) y.role=q)=>hJ σ' ⟨(i+1,y.role),hlt,h⟩ (by dsimp only;omega)
   dsimp only at hJ1
   generalize phsB s (ph.drop (i+1)) y.role=q2 at hd hJ1
   generalize trB y.tr=tb at ck hd
   obtain⟨c1,h1⟩:∃b,decide (y.role≤last)=b:=⟨_,rfl⟩
   obtain⟨c2,h2⟩:∃b,decide (y.role>3)=b:=⟨_,rfl⟩
   obtain⟨c3,h3⟩:∃b,(y.who==0)=b:=⟨_,rfl⟩
   obtain⟨c4,h4⟩:∃b,(y.role==2)=b:=⟨_,rfl⟩
   obtain⟨c5,h5⟩:∃b,(y.who != s)=b:=⟨_,rfl⟩
   rw[h1,h2,h3,h4,h5] at hd
   clear hh so he hq
   have fin:∀d1 d2 d3 d4 d5 dt:Bool,c1=d1→c2=d2→c3=d3→c4=d4→c5=d5→tb=dt→(!(d1||(d2||(d3 || !dt))) && !(d4&&d5)&&q2)=q:=fun d1 d2 d3 d4 d5 dt e1 e2 e3 e4 e5 e6=>by
    rw[←e1,←e2,←e3,←e4,←e5,←e6];exact hd
   clear hd
   have bad:(∀x:Bool,x=q→x=false)→(vi .i64 (if (q&&(b2&&b3))=true then 0 else 320))=vi .i64 320:=fun h=>by
    rw[h q rfl];rfl
   cases c1 with
   |true=>
    clear hJ1
    (have W:=ndI k1 (ndI k2 (ndI k7 (ndI h1 @wrI)));(repeat(any_goals(first|((with_reducible refine Q0b ?_ ?_);rfl;intro K hK;simp(disch:=omega) only[go_sem,W];((repeat(refine ndI (by first|assumption|omega|rfl) ?_));refine hK _ ?_;clear hK K))|(with_reducible first|(refine Q0c ?_;refine hR _ ?_;clear hR R)|((first|refine Q0d ?_|refine Q0f ?_);intro J hJ hJ')|(refine Q0a ?_;intro R hR)|(refine hJ _ ?_;clear hJ hJ' J)|refine Q0g ?_|refine Q0j ?_)|((with_reducible refine hJ' _ _ ?_ ?_);(focus(simp;done));clear hJ hJ' J)|((with_reducible apply Q0y);rfl;rfl;rfl;all_goals(intro hb;first|(cases hb;done)|((try simp only[Bool.not_true,Bool.not_false] at hb);(first|((fail_if_success (with_reducible intro _));simp(disch:=omega) only[go_sem,W])))))|((with_reducible apply Q0e);rfl;rfl;all_goals(intro hc;first|(cases hc;done)|(try simp only at hc)))))))
    all_goals rw[bad fun x hx=>by rw[hx,←fin true c2 c3 c4 c5 tb rfl rfl rfl rfl rfl rfl];rfl]
    all_goals(refine⟨by simp,⟨_,?_,AV.le_refl _⟩,Q0h (by simp[leH,hget])⟩;simp only[Tryz.results16,resL,ldA,Q0q,go_sem])
   |false=>
   cases c2 with
   |true=>
    clear hJ1
    (have W:=ndI k1 (ndI k2 (ndI k7 (ndI h1 (ndI h2 @wrI))));(repeat(any_goals(first|((with_reducible refine Q0b ?_ ?_);rfl;intro K hK;simp(disch:=omega) only[go_sem,W];((repeat(refine ndI (by first|assumption|omega|rfl) ?_));refine hK _ ?_;clear hK K))|(with_reducible first|(refine Q0c ?_;refine hR _ ?_;clear hR R)|((first|refine Q0d ?_|refine Q0f ?_);intro J hJ hJ')|(refine Q0a ?_;intro R hR)|(refine hJ _ ?_;clear hJ hJ' J)|refine Q0g ?_|refine Q0j ?_)|((with_reducible refine hJ' _ _ ?_ ?_);(focus(simp;done));clear hJ hJ' J)|((with_reducible apply Q0y);rfl;rfl;rfl;all_goals(intro hb;first|(cases hb;done)|((try simp only[Bool.not_true,Bool.not_false] at hb);(first|((with_reducible intro K hK);(first|skip);simp(disch:=omega) only[go_sem,W];((repeat(refine ndI (by first|assumption|rfl) ?_));refine hK _ ?_;clear hK K))|((fail_if_success (with_reducible intro _));simp(disch:=omega) only[go_sem,W])))))|((with_reducible apply Q0e);rfl;rfl;all_goals(intro hc;first|(cases hc;done)|(try simp only at hc)))))))
    all_goals rw[bad fun x hx=>by rw[hx,←fin false true c3 c4 c5 tb rfl rfl rfl rfl rfl rfl];rfl]
    all_goals(refine⟨by simp,⟨_,?_,AV.le_refl _⟩,Q0h (by simp[leH,hget])⟩;simp only[Tryz.results16,resL,ldA,Q0q,go_sem])
   |false=>
   cases c3 with
   |true=>
    clear hJ1
    (have W:=ndI k1 (ndI k2 (ndI k7 (ndI h1 (ndI h2 (ndI h3 @wrI)))));(repeat(any_goals(first|((with_reducible refine Q0b ?_ ?_);rfl;intro K hK;simp(disch:=omega) only[go_sem,W];((repeat(refine ndI (by first|assumption|omega|rfl) ?_));refine hK _ ?_;clear hK K))|(with_reducible first|(refine Q0c ?_;refine hR _ ?_;clear hR R)|((first|refine Q0d ?_|refine Q0f ?_);intro J hJ hJ')|(refine Q0a ?_;intro R hR)|(refine hJ _ ?_;clear hJ hJ' J)|refine Q0g ?_|refine Q0j ?_)|((with_reducible refine hJ' _ _ ?_ ?_);(focus(simp;done));clear hJ hJ' J)|((with_reducible apply Q0y);rfl;rfl;rfl;all_goals(intro hb;first|(cases hb;done)|((try simp only[Bool.not_true,Bool.not_false] at hb);(first|((with_reducible intro K hK);(first|skip);simp(disch:=omega) only[go_sem,W];((repeat(refine ndI (by first|assumption|rfl) ?_));refine hK _ ?_;clear hK K))|((fail_if_success (with_reducible intro _));simp(disch:=omega) only[go_sem,W])))))|((with_reducible apply Q0e);rfl;rfl;all_goals(intro hc;first|(cases hc;done)|(try simp only at hc)))))))
    all_goals rw[bad fun x hx=>by rw[hx,←fin false false true c4 c5 tb rfl rfl rfl rfl rfl rfl];rfl]
    all_goals(refine⟨by simp,⟨_,?_,AV.le_refl _⟩,Q0h (by simp[leH,hget])⟩;simp only[Tryz.results16,resL,ldA,Q0q,go_sem])
   |false=>
   cases tb with
   |false=>
    rw[if_neg (by simp)] at ck
    clear hJ1
    (have W:=ndI k1 (ndI k2 (ndI k7 (ndI h1 (ndI h2 (ndI h3 @wrI)))));(repeat(any_goals(first|((with_reducible refine Q0b ?_ ?_);rfl;intro K hK;simp(disch:=omega) only[go_sem,W];((repeat(refine ndI (by first|assumption|omega|rfl) ?_));refine hK _ ?_;clear hK K))|(with_reducible first|(refine Q0c ?_;refine hR _ ?_;clear hR R)|((first|refine Q0d ?_|refine Q0f ?_);intro J hJ hJ')|(refine Q0a ?_;intro R hR)|(refine hJ _ ?_;clear hJ hJ' J)|refine Q0g ?_|refine Q0j ?_)|((with_reducible refine hJ' _ _ ?_ ?_);(focus(simp;done));clear hJ hJ' J)|((with_reducible apply Q0y);rfl;rfl;rfl;all_goals(intro hb;first|(cases hb;done)|((try simp only[Bool.not_true,Bool.not_false] at hb);(first|((with_reducible intro K hK);(first|((apply Q0k (ck);rfl;rfl;rfl;rfl;exact Tryz.func51);kernel_rfl;rfl;(focus((simp(disch:=omega) only[go_sem,W]);(try rfl);done));(first|rfl))|skip);simp(disch:=omega) only[go_sem,W];((repeat(refine ndI (by first|assumption|rfl) ?_));refine hK _ ?_;clear hK K))))))|((with_reducible apply Q0e);rfl;rfl;all_goals(intro hc;first|(cases hc;done)|(try simp only at hc)))))))
    all_goals rw[bad fun x hx=>by rw[hx,←fin false false false c4 c5 false rfl rfl rfl rfl rfl rfl];rfl]
    all_goals(refine⟨by simp,⟨_,?_,AV.le_refl _⟩,Q0h (by simp[leH,hget])⟩;simp only[Tryz.results16,resL,ldA,Q0q,go_sem])
   |true=>
   rw[if_pos rfl] at ck
   cases c4 with
   |false=>
    have hJ2:=fun σ'=>hJ1 σ' (fin false false false false c5 true rfl rfl rfl rfl rfl rfl)
    (have W:=ndI k1 (ndI k2 (ndI k7 (ndI h1 (ndI h2 (ndI h3 (ndI h4 @wrI))))));(repeat(any_goals(first|((with_reducible refine Q0b ?_ ?_);rfl;intro K hK;simp(disch:=omega) only[go_sem,W];((repeat(refine ndI (by first|assumption|omega|rfl) ?_));refine hK _ ?_;clear hK K))|(with_reducible first|(refine Q0c ?_;refine hR _ ?_;clear hR R)|((first|refine Q0d ?_|refine Q0f ?_);intro J hJ hJ')|(refine Q0a ?_;intro R hR)|(refine hJ _ ?_;clear hJ hJ' J)|refine Q0g ?_)|((with_reducible refine hJ' _ _ ?_ ?_);(focus(simp;done));clear hJ hJ' J)|((with_reducible apply Q0y);rfl;rfl;rfl;all_goals(intro hb;first|(cases hb;done)|((try simp only[Bool.not_true,Bool.not_false] at hb);(first|((with_reducible intro K hK);(first|((apply Q0k (ck);rfl;rfl;rfl;rfl;exact Tryz.func51);kernel_rfl;rfl;(focus((simp(disch:=omega) only[go_sem,W]);(try rfl);done));(first|rfl))|skip);simp(disch:=omega) only[go_sem,W];((repeat(refine ndI (by first|assumption|rfl) ?_));refine hK _ ?_;clear hK K))|((fail_if_success (with_reducible intro _));simp(disch:=omega) only[go_sem,W])))))|((with_reducible apply Q0e);rfl;rfl;all_goals(intro hc;first|(cases hc;done)|(try simp only at hc)))))))
    all_goals exact hJ2 _ (St.le_of (by simp[leT]) (by simp[leH,hget]))
   |true=>
   cases c5 with
   |true=>
    clear hJ1
    (have W:=ndI k1 (ndI k2 (ndI k7 (ndI h1 (ndI h2 (ndI h3 (ndI h4 (ndI h5 @wrI)))))));(repeat(any_goals(first|((with_reducible refine Q0b ?_ ?_);rfl;intro K hK;simp(disch:=omega) only[go_sem,W];((repeat(refine ndI (by first|assumption|omega|rfl) ?_));refine hK _ ?_;clear hK K))|(with_reducible first|(refine Q0c ?_;refine hR _ ?_;clear hR R)|((first|refine Q0d ?_|refine Q0f ?_);intro J hJ hJ')|(refine Q0a ?_;intro R hR)|(refine hJ _ ?_;clear hJ hJ' J)|refine Q0g ?_|refine Q0j ?_)|((with_reducible refine hJ' _ _ ?_ ?_);(focus(simp;done));clear hJ hJ' J)|((with_reducible apply Q0y);rfl;rfl;rfl;all_goals(intro hb;first|(cases hb;done)|((try simp only[Bool.not_true,Bool.not_false] at hb);(first|((with_reducible intro K hK);(first|((apply Q0k (ck);rfl;rfl;rfl;rfl;exact Tryz.func51);kernel_rfl;rfl;(focus((simp(disch:=omega) only[go_sem,W]);(try rfl);done));(first|rfl))|skip);simp(disch:=omega) only[go_sem,W];((repeat(refine ndI (by first|assumption|rfl) ?_));refine hK _ ?_;clear hK K))))))|((with_reducible apply Q0e);rfl;rfl;all_goals(intro hc;first|(cases hc;done)|(try simp only at hc)))))))
    all_goals rw[bad fun x hx=>by rw[hx,←fin false false false true true true rfl rfl rfl rfl rfl rfl];rfl]
    all_goals(refine⟨by simp,⟨_,?_,AV.le_refl _⟩,Q0h (by simp[leH,hget])⟩;simp only[Tryz.results16,resL,ldA,Q0q,go_sem])
   |false=>
    have hJ2:=fun σ'=>hJ1 σ' (fin false false false true false true rfl rfl rfl rfl rfl rfl)
    (have W:=ndI k1 (ndI k2 (ndI k7 (ndI h1 (ndI h2 (ndI h3 (ndI h4 (ndI h5 @wrI)))))));(repeat(any_goals(first|((with_reducible refine Q0b ?_ ?_);rfl;intro K hK;simp(disch:=omega) only[go_sem,W];((repeat(refine ndI (by first|assumption|omega|rfl) ?_));refine hK _ ?_;clear hK K))|(with_reducible first|(refine Q0c ?_;refine hR _ ?_;clear hR R)|((first|refine Q0d ?_|refine Q0f ?_);intro J hJ hJ')|(refine Q0a ?_;intro R hR)|(refine hJ _ ?_;clear hJ hJ' J)|refine Q0g ?_)|((with_reducible refine hJ' _ _ ?_ ?_);(focus(simp;done));clear hJ hJ' J)|((with_reducible apply Q0y);rfl;rfl;rfl;all_goals(intro hb;first|(cases hb;done)|((try simp only[Bool.not_true,Bool.not_false] at hb);(first|((with_reducible intro K hK);(first|((apply Q0k (ck);rfl;rfl;rfl;rfl;exact Tryz.func51);kernel_rfl;rfl;(focus((simp(disch:=omega) only[go_sem,W]);(try rfl);done));(first|rfl))|skip);simp(disch:=omega) only[go_sem,W];((repeat(refine ndI (by first|assumption|rfl) ?_));refine hK _ ?_;clear hK K))))))|((with_reducible apply Q0e);rfl;rfl;all_goals(intro hc;first|(cases hc;done)|(try simp only at hc)))))))
    all_goals exact hJ2 _ (St.le_of (by simp[leT]) (by simp[leH,hget]))
 · have k1:(decide ((i:Int)<(ph.length:Int)))=false:=by simp;omega
   rw[List.drop_eq_nil_of_le hge] at hd
   have hd:q=true:=hd.symm
   (repeat(any_goals(first|((with_reducible refine Q0n ?_ ?_ ?_);rfl;rfl;intro K hK;((first|(apply Q0k (hh);rfl;rfl;rfl;rfl;exact Tryz.func52));kernel_rfl;rfl;(focus((simp only[go_sem,k1]);(try rfl);done));(first|rfl));(simp only[go_sem,k1];refine hK _ ?_;clear hK K))|((with_reducible refine Q0b ?_ ?_);rfl;intro K hK;simp only[go_sem,k1];((repeat(refine ndI (by first|assumption) ?_));refine hK _ ?_;clear hK K))|(with_reducible first|(refine Q0c ?_;refine hR _ ?_;clear hR R)|((first|refine Q0d ?_);intro J hJ hJ')|(refine Q0a ?_;intro R hR)|(refine hJ _ ?_;clear hJ hJ' J)|refine Q0g ?_|refine Q0j ?_|refine Q0o ?_)|((with_reducible refine hJ' _ _ ?_ ?_);(focus(simp;done));clear hJ hJ' J)|((with_reducible apply Q0e);rfl;rfl;all_goals(intro hc;first|(cases hc;done)|(try simp only at hc)))|((with_reducible refine Q0v ?_ ?_);kernel_rfl;(with_reducible refine hR _ ?_);clear hR R)|((first|((with_reducible apply Q3e);rfl;rfl;rfl;rfl)|((first|((with_reducible apply Q2y);rfl;rfl;rfl;rfl;rfl));((first|(apply Q0u (so);rfl;rfl;rfl;rfl;exact Tryz.func55)|(apply Q0u (he);rfl;rfl;rfl;rfl;exact Tryz.func54));kernel_rfl;rfl;(focus((simp only[go_sem,k1]);(try rfl);done));(first|rfl)))|((first|((with_reducible apply Q0t);rfl;rfl)|((with_reducible apply Q2v);rfl;rfl;rfl;rfl;rfl));(simp only[rdE,rdOf,go_sem,k1];rfl);(intro τ hA hQ hN;((try simp only[Q1e,Op.operands,Call.operands,go_sem,k1,go_sem,List.mem_cons,List.not_mem_nil,forall_eq_or_imp,forall_eq,List.append_toArray,Option.toArray] at hA);(try simp only[go_sem,k1,List.mem_cons,List.not_mem_nil,forall_eq_or_imp,forall_eq] at hQ hN);(first|(revert hA;intro hA));(first|(revert hQ;intro hQ));(first|(revert hN;intro hN));simp only[go_sem,k1,go_sem,hA,hQ,hN];(repeat(refine ndI (by first|assumption) ?_));(first|apply Q1a)))));(simp only[St.eff,setO,Q0w,go_sem,k1]))|((with_reducible apply X6l);rfl;rfl;rfl;all_goals intro hb;all_goals(simp only[St.eff,setO,Q0w,go_sem,k1]))|((with_reducible refine Q0r ?_ ?_ ?_ ?_);kernel_rfl;kernel_rfl;(first|kernel_rfl);intro R hR))))
   all_goals rw[hd]
   all_goals(cases b2<;>cases b3<;>first|(exfalso;simp_all;done)|(refine⟨by simp,⟨_,?_,AV.le_refl _⟩,Q0h (by simp[leH,hget])⟩;simp only[Tryz.results16,resL,ldA,Q0q,go_sem]))
   all_goals(first|rfl)
end
section
open Go.RowKit
open Nat (reduceBEq)
attribute [-go_sem] IntKind.bits
set_option maxRecDepth 20000
set_option maxHeartbeats 1000000
abbrev ktP(c:Cs)(made firm:Bool):AV:=.ep [.v (.int .u64 c.snd),.sl false 4 c.ph.length (c.ph.flatMap Ph.pv),.sl false 1 c.cd.length (c.cd.flatMap apv),.v (.bool made),.v (.bool firm)]
abbrev epA(a:Int):AV:=.ep [.v (.int .u64 a)]
abbrev epS(s:Sp):AV:=.ep [.v (.int .u64 s.a),.v (.int .u64 (l0 s.k)),.v (.int .u64 (l1 s.k)),.v (.int .u64 (l2 s.k)),.v (.int .u64 (l3 s.k))]
def assP(a:Int)(s:Sp)(p:Ph):Bool:=X7b a s.k p.tr
def Q2o(c:Cs)(s:Sp)(a:Int):Bool:=(s.a==a)||c.ph.any (assP a s)
theorem bel1_fn(p:Ph)(hp:p.ok)(a:Int)(ha:U a)(s:Sp)(hs:s.ok):Fn Tryz.prog 73 [phA p,epA a,epS s] [] (vb (assP a s p)) []:=by
 have h:=assoc_fn false p.tr hp.2.1 hp.2.2 a ha s.k hs.2
 change Fn _ _ _ _ (vb (assP a s p)) _ at h
 generalize assP a s p=b at h ⊢
 (refine Q0z Tryz.func73 rfl (by rfl) ?_;simp only[Tryz.ntmps73,List.length_cons,List.length_nil,Nat.reduceAdd,Nat.reduceSub,List.replicate,List.cons_append,List.nil_append])
 (repeat(any_goals(first|((with_reducible refine Q0n ?_ ?_ ?_);rfl;rfl;intro K hK;((apply Q0k (h);rfl;rfl;rfl;rfl;exact Tryz.func74);kernel_rfl;rfl;(focus((simp only[go_sem]);(try rfl);done));(first|rfl));(simp only[go_sem];refine hK _ ?_;clear hK K))|((with_reducible refine Q0b ?_ ?_);rfl;intro K hK;simp only[go_sem];((repeat(refine ndI (by first|assumption) ?_));refine hK _ ?_;clear hK K))|(with_reducible first|(refine Q0c ?_;refine hR _ ?_;clear hR R)|((first|refine Q0d ?_);intro J hJ hJ')|(refine Q0a ?_;intro R hR)|(refine hJ _ ?_;clear hJ hJ' J)|refine Q0j ?_))))
 all_goals(refine⟨by simp,⟨_,?_,AV.le_refl _⟩,Q0h (by simp[leH,hget])⟩;simp only[Tryz.results73,resL,ldA,Q0q,go_sem])
theorem X8n(c:Cs)(m f:Bool)(s:Sp)(a:Int)(b1 b2:Bool)(h1:(s.a==a)=b1)(hw:Fn Tryz.prog 52 [phs false c.ph,.fn 73 [epA a,epS s]] [] (vb b2) []) :
 FnW (fun _=>True) Tryz.prog 46 [ktP c m f,spA s,vi .u64 a] [] (vb (b1||b2)) []:=by
 (refine Q5e Tryz.func46 rfl (by rfl) ?_;simp only[Tryz.ntmps46,List.length_cons,List.length_nil,Nat.reduceAdd,Nat.reduceSub,List.replicate,List.cons_append,List.nil_append])
 refine AWE.seq (AWE.of ?_)
 (repeat(any_goals(first|((with_reducible refine Q0b ?_ ?_);rfl;intro K hK;simp only[go_sem];((repeat(refine ndI (by first|assumption) ?_));refine hK _ ?_;clear hK K))|(with_reducible first|(refine Q0c ?_;refine hR _ ?_;clear hR R)|(refine Q0a ?_;intro R hR)))))
 show AWE _ _ _ _ _
 refine AWE.seq (AWE.of ?_)
 (repeat(any_goals(first|((with_reducible refine Q0b ?_ ?_);rfl;intro K hK;simp only[go_sem];((repeat(refine ndI (by first|assumption) ?_));refine hK _ ?_;clear hK K))|(with_reducible first|(refine Q0c ?_;refine hR _ ?_;clear hR R)|(refine Q0a ?_;intro R hR)))))
 show AWE _ _ _ _ _
 refine AWE.to (St.to.trans (St.to.frz 5 (pcs:=[.v (.int .u64 a)]) rfl) (St.to.frz 4 (pcs:=[.v (.int .u64 s.a),.v (.int .u64 (l0 s.k)),.v (.int .u64 (l1 s.k)),.v (.int .u64 (l2 s.k)),.v (.int .u64 (l3 s.k))]) rfl)) ?_
 simp only[St.frz,AV.frz,AV.frzL,frzH,if_true,List.length_cons,List.length_nil,List.drop,Nat.zero_add,Nat.reduceAdd,Nat.lt_add_one,Nat.zero_lt_succ,Nat.reduceEqDiff,if_false]
 refine AWE.of ?_
 cases b1 with
 |false=>
  (repeat(any_goals(first|((with_reducible refine Q0b ?_ ?_);rfl;intro K hK;simp only[go_sem,h1];((repeat(refine ndI (by first|assumption) ?_));refine hK _ ?_;clear hK K))|(with_reducible first|(refine Q0c ?_;refine hR _ ?_;clear hR R)|((first|refine Q0d ?_);intro J hJ hJ')|(refine Q0a ?_;intro R hR)|(refine hJ _ ?_;clear hJ hJ' J)|refine Q0j ?_)|((with_reducible apply Q0y);rfl;rfl;rfl;all_goals(intro hb;first|(cases hb;done)|((try simp only[Bool.not_true,Bool.not_false] at hb);(first|((with_reducible intro K hK);(first|((apply Q0k (hw);rfl;rfl;rfl;rfl;exact Tryz.func52);kernel_rfl;rfl;(focus((simp only[go_sem,h1]);(try rfl);done));(first|rfl))|skip);simp only[go_sem,h1];((repeat(refine ndI (by first|assumption) ?_));refine hK _ ?_;clear hK K)))))))))
  all_goals exact⟨by simp,⟨_,rfl,AV.le_of (by simp[Q0q])⟩,Q0h (by simp[leH,hget])⟩
 |true=>
  (repeat(any_goals(first|((with_reducible refine Q0b ?_ ?_);rfl;intro K hK;simp only[go_sem,h1];((repeat(refine ndI (by first|assumption) ?_));refine hK _ ?_;clear hK K))|(with_reducible first|(refine Q0c ?_;refine hR _ ?_;clear hR R)|((first|refine Q0d ?_);intro J hJ hJ')|(refine Q0a ?_;intro R hR)|(refine hJ _ ?_;clear hJ hJ' J)|refine Q0j ?_)|((with_reducible apply Q0y);rfl;rfl;rfl;all_goals(intro hb;first|(cases hb;done)|((try simp only[Bool.not_true,Bool.not_false] at hb);(first|((fail_if_success (with_reducible intro _));simp only[go_sem,h1]))))))))
  all_goals exact⟨by simp,⟨_,rfl,AV.le_of (by simp[Q0q])⟩,Q0h (by simp[leH,hget])⟩
theorem Q6n(c:Cs)(hc:c.ok)(m f:Bool)(s:Sp)(hs:s.ok)(a:Int)(ha:U a):Fn Tryz.prog 46 [ktP c m f,spA s,vi .u64 a] [] (vb (Q2o c s a)) []:=fun E vs=>
 X8n c m f s a (s.a==a) (c.ph.any (assP a s)) rfl (hasP_fn false c.ph (assP a s) (caps:=[epA a,epS s]) (by have:=hc.2.1.1;omega) Tryz.func73 (by kernel_rfl) rfl (by simp[AV.inNL,AV.inN]) fun p hp=>bel1_fn p (hc.2.1.2 p hp) a ha s hs) E vs trivial
def creB(e:Ev):Bool:=(e.kind==4)&&((e.op:Int)==245)
end
section
open Go.RowKit
open Nat (reduceBEq)
attribute [-go_sem] IntKind.bits
set_option maxRecDepth 20000
set_option maxHeartbeats 1000000
def codedB(c:Cs)(m:Bool)(a:Int):Bool:=decide (a∈c.cd)||(m&&(a==c.snd))
def makesB(c:Cs)(p:Ph)(at_:Nat)(y:Ev):Bool:=((p.role==1)&&(y.to==c.snd))&&(idxF creB p.tr 0==(at_:Int))
end
section
open Go.RowKit
open Nat (reduceBEq)
attribute [-go_sem] IntKind.bits
set_option maxRecDepth 20000
set_option maxHeartbeats 1000000
def ptrT(P:Program)(t:Nat):Bool:=match P.underlying t with|some (.pointer _)=>true|_=>false
section
variable {P:Program} {o:Oper} {σ : St} {K:St→Prop}
theorem Q6k{t:Nat}(ht:ptrT P t=true)(a:Addr)(w:World):(Op.equal t (.pointer (some a)) (.pointer none)).run P w = .ok false w∧(Op.equal t (.pointer none) (.pointer none)).run P w = .ok true w:=by
 obtain⟨b,hu⟩:∃b,P.underlying t=some (.pointer b):=by
  unfold ptrT at ht
  cases hu:P.underlying t with
  |none=>simp[hu] at ht
  |some d=>cases d<;>simp[hu] at ht;exact⟨_,rfl⟩
 unfold Op.equal
 rw[show Op.maxDepth=9999+1 from rfl]
 unfold Op.equalIn
 rw[Sem.run_bind,run_underlying hu,Result.andThen_ok,Sem.run_bind,run_underlying hu,Result.andThen_ok]
 exact⟨rfl,rfl⟩
theorem Q7p{t t':TypeId}{x:Operand}{cs:List PV}(ho:o.op = .binOp .eql t x (.const (.pointer none)) t')(hx:Q0i x=true)(ht:ptrT P t=true)(h1:σ.ev x = .ep cs)(hK:K (σ.put o.dst (vb false))):OpA P o σ K:=
 Q1h _ hK fun E ι a w h=>by
  have hxv:=h.ev x hx
  rw[h1] at hxv
  generalize he:a.eval x=v at hxv
  cases hxv with
  |ep b o' us cs hl hne hS h4 h5=>
   refine⟨_,?_,Q1z _ rfl⟩
   have e2:a.eval (.const (.pointer none)) = .pointer none:=rfl
   have hg:(eqGuard .eql t x (.const (.pointer none)) (.pointer (some ⟨b,o',none⟩)) (.pointer none)).run P w = .ok () w:=Q2t rfl (by simp) t _ _ w
   have g2':binOp .eql t (.pointer (some ⟨b,o',none⟩)) (.pointer none)=(do pure (.bool (←Op.equal t (.pointer (some ⟨b,o',none⟩)) (.pointer none)))):=rfl
   simp only[execOp,ho,he,e2,Sem.run_bind,hg,Result.andThen_ok,g2',(Q6k ht _ w).1,Sem.run_pure,Bool.not_false]
theorem opA_epne{t t':TypeId}{x:Operand}{cs:List PV}(ho:o.op = .binOp .neq t x (.const (.pointer none)) t')(hx:Q0i x=true)(ht:ptrT P t=true)(h1:σ.ev x = .ep cs)(hK:K (σ.put o.dst (vb true))):OpA P o σ K:=
 Q1h _ hK fun E ι a w h=>by
  have hxv:=h.ev x hx
  rw[h1] at hxv
  generalize he:a.eval x=v at hxv
  cases hxv with
  |ep b o' us cs hl hne hS h4 h5=>
   refine⟨_,?_,Q1z _ rfl⟩
   have e2:a.eval (.const (.pointer none)) = .pointer none:=rfl
   have hg:(eqGuard .neq t x (.const (.pointer none)) (.pointer (some ⟨b,o',none⟩)) (.pointer none)).run P w = .ok () w:=Q2t rfl (by simp) t _ _ w
   have g2':binOp .neq t (.pointer (some ⟨b,o',none⟩)) (.pointer none)=(do pure (.bool (!(←Op.equal t (.pointer (some ⟨b,o',none⟩)) (.pointer none))))):=rfl
   simp only[execOp,ho,he,e2,Sem.run_bind,hg,Result.andThen_ok,g2',(Q6k ht _ w).1,Sem.run_pure,Bool.not_false]
theorem opF_epne{t t':TypeId}{x:Operand}{cs:List PV}(ho:o.op = .binOp .neq t x (.const (.pointer none)) t')(hx:Q0i x=true)(ht:ptrT P t=true)(h1:σ.ev x = .ep cs):OpF P o σ.ev (hget σ.H) (vb true) [] []:=fun τ hA _=>by
 have hA':τ.ev x = σ.ev x:=hA x (by rw[ho];simp[Op.operands])
 refine opA_epne ho hx ht (by rw[hA'];exact h1) ?_
 cases o.dst<;>rfl
theorem X9p{t t':TypeId}{x:Operand}(ho:o.op = .binOp .eql t x (.const (.pointer none)) t')(hx:Q0i x=true)(ht:ptrT P t=true)(h1:σ.ev x = .c (.v (.pointer none)))(hK:K (σ.put o.dst (vb true))):OpA P o σ K:=
 Q1h _ hK fun E ι a w h=>by
  have hxv:=h.ev x hx
  rw[h1] at hxv
  obtain⟨he,_⟩:=hxv.v_inv
  refine⟨_,?_,Q1z _ rfl⟩
  have e2:a.eval (.const (.pointer none)) = .pointer none:=rfl
  have hg:(eqGuard .eql t x (.const (.pointer none)) (.pointer none) (.pointer none)).run P w = .ok () w:=Q2t rfl (by simp) t _ _ w
  have g2':binOp .eql t (.pointer none) (.pointer none)=(do pure (.bool (←Op.equal t (.pointer none) (.pointer none)))):=rfl
  simp only[execOp,ho,he,e2,Sem.run_bind,hg,Result.andThen_ok,g2',(Q6k ht ⟨0,0,none⟩ w).2,Sem.run_pure,Bool.not_true]
theorem opA_pne{t t':TypeId}{x:Operand}(ho:o.op = .binOp .neq t x (.const (.pointer none)) t')(hx:Q0i x=true)(ht:ptrT P t=true)(h1:σ.ev x = .c (.v (.pointer none)))(hK:K (σ.put o.dst (vb false))):OpA P o σ K:=
 Q1h _ hK fun E ι a w h=>by
  have hxv:=h.ev x hx
  rw[h1] at hxv
  obtain⟨he,_⟩:=hxv.v_inv
  refine⟨_,?_,Q1z _ rfl⟩
  have e2:a.eval (.const (.pointer none)) = .pointer none:=rfl
  have hg:(eqGuard .neq t x (.const (.pointer none)) (.pointer none) (.pointer none)).run P w = .ok () w:=Q2t rfl (by simp) t _ _ w
  have g2':binOp .neq t (.pointer none) (.pointer none)=(do pure (.bool (!(←Op.equal t (.pointer none) (.pointer none))))):=rfl
  simp only[execOp,ho,he,e2,Sem.run_bind,hg,Result.andThen_ok,g2',(Q6k ht ⟨0,0,none⟩ w).2,Sem.run_pure,Bool.not_true]
theorem opF_pne{t t':TypeId}{x:Operand}(ho:o.op = .binOp .neq t x (.const (.pointer none)) t')(hx:Q0i x=true)(ht:ptrT P t=true)(h1:σ.ev x = .c (.v (.pointer none))):OpF P o σ.ev (hget σ.H) (vb false) [] []:=fun τ hA _=>by
 have hA':τ.ev x = σ.ev x:=hA x (by rw[ho];simp[Op.operands])
 refine opA_pne ho hx ht (by rw[hA'];exact h1) ?_
 cases o.dst<;>rfl
end
def X1n(c:Cs)(f:Bool)(p:Ph)(x:Ev):Bool:=((x.self==c.snd)||(f&&Q2o c x.sp c.snd))||(p.stk&&((x.kind==2)||Q2o c x.sp p.who))
theorem touch_fn(c:Cs)(hc:c.ok)(m f:Bool)(p:Ph)(hp:U p.who)(x:Ev)(hx:x.ok):Fn Tryz.prog 111 [ktP c m f,phA p,evA x] [] (vb (X1n c f p x)) []:=by
 have so:x.sp.ok:=⟨hx.2.2.2.2.1,hx.1⟩
 have g1:=Q6n c hc m f x.sp so c.snd hc.1
 have g2:=Q6n c hc m f x.sp so p.who hp
 unfold X1n
 change Fn _ _ [ktP c m f,.agg [vi .u64 x.self,vi .u64 (l0 x.key),vi .u64 (l1 x.key),vi .u64 (l2 x.key),vi .u64 (l3 x.key)],_] _ _ _ at g1
 change Fn _ _ [ktP c m f,.agg [vi .u64 x.self,vi .u64 (l0 x.key),vi .u64 (l1 x.key),vi .u64 (l2 x.key),vi .u64 (l3 x.key)],_] _ _ _ at g2
 generalize Q2o c x.sp c.snd=q1 at g1 ⊢
 generalize Q2o c x.sp p.who=q2 at g2 ⊢
 obtain⟨b1,h1⟩:∃b,(x.self==c.snd)=b:=⟨_,rfl⟩
 obtain⟨b2,h2⟩:∃b,(x.kind==2)=b:=⟨_,rfl⟩
 rw[h1,h2]
 clear so hx hc
 obtain⟨s,hs⟩:∃s,p.stk=s:=⟨_,rfl⟩
 rw[hs]
 cases b1<;>cases f<;>cases q1
 all_goals(refine Q0z Tryz.func111 rfl (by rfl) ?_;simp only[Tryz.ntmps111,List.length_cons,List.length_nil,Nat.reduceAdd,Nat.reduceSub,List.replicate,List.cons_append,List.nil_append])
 all_goals(repeat(any_goals(first|((with_reducible refine Q0b ?_ ?_);rfl;intro K hK;simp(disch:=omega) only[go_sem,h1,h2,hs];((repeat(refine ndI (by first|assumption|rfl) ?_));refine hK _ ?_;clear hK K))|(with_reducible first|(refine Q0c ?_;refine hR _ ?_;clear hR R)|((first|refine Q0d ?_);intro J hJ hJ')|(refine Q0a ?_;intro R hR)|(refine hJ _ ?_;clear hJ hJ' J)|refine Q0g ?_|refine Q0j ?_)|((with_reducible refine hJ' _ _ ?_ ?_);(focus(simp;done));clear hJ hJ' J)|((with_reducible apply Q5f);rfl;rfl;rfl;(try simp(disch:=omega) only[go_sem,h1,h2,hs]))|((with_reducible apply Q0y);rfl;rfl;rfl;all_goals(intro hb;first|(cases hb;done)|((try simp only[Bool.not_true,Bool.not_false] at hb);(first|((with_reducible intro K hK);(first|((apply Q0k (g2);rfl;rfl;rfl;rfl;exact Tryz.func46);kernel_rfl;rfl;(focus((simp(disch:=omega) only[go_sem,h1,h2,hs]);(try rfl);done));(first|rfl))|skip);simp(disch:=omega) only[go_sem,h1,h2,hs];((repeat(refine ndI (by first|assumption|rfl) ?_));refine hK _ ?_;clear hK K))|((fail_if_success (with_reducible intro _));simp(disch:=omega) only[go_sem,h1,h2,hs])))))|((with_reducible apply Q0e);rfl;rfl;all_goals(intro hc;first|(cases hc;done)|(try simp only at hc)))|((with_reducible refine Q0v ?_ ?_);kernel_rfl;(with_reducible refine hR _ ?_);clear hR R)|((first|((with_reducible apply Q3e);rfl;rfl;rfl;rfl)|((with_reducible apply evD_unmet);rfl;rfl;rfl)|((first|((with_reducible apply Q2y);rfl;rfl;rfl;rfl;rfl));(first|((apply Q0u (g1);rfl;rfl;rfl;rfl;exact Tryz.func46);kernel_rfl;rfl;(focus((simp(disch:=omega) only[go_sem,h1,h2,hs]);(try rfl);done));(first|rfl))))|((first|((with_reducible apply Q0t);rfl;rfl)|((with_reducible apply Q2v);rfl;rfl;rfl;rfl;rfl));(simp(disch:=omega) only[rdE,rdOf,go_sem,h1,h2,hs];rfl);(intro τ hA hQ hN;((try simp only[Q1e,Op.operands,Call.operands,go_sem,h1,h2,hs,go_sem,List.mem_cons,List.not_mem_nil,forall_eq_or_imp,forall_eq,List.append_toArray,Option.toArray] at hA);(try simp only[go_sem,h1,h2,hs,List.mem_cons,List.not_mem_nil,forall_eq_or_imp,forall_eq] at hQ hN);(first|(revert hA;intro hA));(first|(revert hQ;intro hQ));(first|(revert hN;intro hN));simp(disch:=omega) only[go_sem,h1,h2,hs,go_sem,hA,hQ,hN];(repeat(refine ndI (by first|assumption|rfl) ?_));(first|apply Q1a)))));(simp(disch:=omega) only[St.eff,setO,Q0w,go_sem,h1,h2,hs]))|((with_reducible refine Q0r ?_ ?_ ?_ ?_);kernel_rfl;kernel_rfl;(first|kernel_rfl);intro R hR))))
 all_goals(subst_vars;(refine⟨by simp,⟨_,?_,AV.le_refl _⟩,Q0h (by simp[leH,hget])⟩;simp only[Tryz.results111,resL,ldA,Q0q,go_sem]))
 all_goals(first|simp_all)
end
end Go.Proofs.YtgdjkkapgghdbaaGreatDoor
