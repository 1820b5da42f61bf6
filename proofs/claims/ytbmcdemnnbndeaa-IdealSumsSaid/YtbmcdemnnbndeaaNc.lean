/-
  Compared words, reckoned.
-/
import Derived.Test.YtbmcdemnnbndeaaPqf
import Derived.Test.YtbmcdemnnbndeaaAvIt
import Derived.Test.YtbmcdemnnbndeaaAvW
import Derived.Test.YtbmcdemnnbndeaaAvTy
set_option linter.unusedSimpArgs false
set_option linter.unusedVariables false
namespace Go.Proofs.Ytbmcdemnnbndeaa
open Go.RowKit Go.Lib
attribute [-go_sem] IntKind.bits
set_option maxRecDepth 20000
set_option maxHeartbeats 2000000
abbrev nilK:AV:=.c (.v (.slice none 0 0))
abbrev raK(out:List Int):List AV:=(out.flatMap apv).map .c
abbrev kyH0(out:List Int):List (Nat×List AV):=[(1005,[.row 1600 adT 1 out.length]),(1600,raK out)]
abbrev kyH1(out:List Int)(x:Int):List (Nat×List AV):=[(1005,[.row 11 adT 1 (out.length+1)]),(11,raK (out++[x]))]
abbrev stK(lp r b:Nat)(es:List (Value×Value))(q:Nat)(out:List Int):St:=⟨[yv lp,.ptr 1101 0,.any,.any,.any,.c (.v (.pointer (some ⟨r,0,none⟩))),.any,.any,.any,.any,.any,.any,.any,.any],[(1005,[.row q adT 1 out.length]),(q,raK out),(1101,[.c (.mp b es)])]⟩
theorem stK_rn(lp r b:Nat)(es:List (Value×Value))(out:List Int):(stK lp r b es 11 out).to (stK lp r b es 600 out):=by
 have h:=St.to.rn (σ:=stK lp r b es 11 out) (fun r=>if r=11 then 600 else r) (fun r=>if r=600 then 11 else r) [11,1005,1101] (by simp[AV.inNL,AV.inN]) (by simp) (by simp[inH,AV.inNL,AV.inN,Q1k]) (by simp) (by simp)
 simpa [AV.renL,AV.ren,renH] using h
def keyI(e:MapEntry):Int:=match e.key with | .int _ i=>i|_=>0
theorem filt_le{α : Type}(p q:α→Bool)(hq:∀x,q x=true→p x=true):∀l:List α,(l.filter q).length≤(l.filter p).length
 |[]=>Nat.le_refl _
 |x::l=>by
  have ih:=filt_le p q hq l
  rw[List.filter_cons,List.filter_cons]
  cases h1:q x with
  |true=>rw[hq x h1];simpa using ih
  |false=>cases p x<;>simp<;>omega
theorem filt_lt{α : Type}(p q:α→Bool)(hq:∀x,q x=true→p x=true):∀l:List α,(∃x∈l,p x=true∧q x=false)→(l.filter q).length<(l.filter p).length
 |[],h=>by obtain⟨x,hx,_⟩:=h;cases hx
 |x::l,h=>by
  obtain⟨y,hy,h1,h2⟩:=h
  have le:=filt_le p q hq l
  rw[List.filter_cons,List.filter_cons]
  rcases List.mem_cons.1 hy with rfl|hy
  · rw[h1,h2];simp;omega
  · have ih:=filt_lt p q hq l ⟨y,hy,h1,h2⟩
    cases h3:q x with
    |true=>rw[hq x h3];simpa using ih
    |false=>cases p x<;>simp<;>omega
theorem len_sub:∀(l l':List Nat),l.Nodup→(∀x∈l,x∈l')→l.length≤l'.length
 |[],_,_,_=>Nat.zero_le _
 |x::l,l',h,hs=>by
  rw[List.nodup_cons] at h
  have hx:=hs x List.mem_cons_self
  have ih:=len_sub l (l'.erase x) h.2 fun y hy=>(List.mem_erase_of_ne fun e=>h.1 (by rw[←e];exact hy)).2 (hs y (List.mem_cons_of_mem _ hy))
  rw[List.length_erase_of_mem hx] at ih
  have:=List.length_pos_of_mem hx
  rw[List.length_cons]
  omega
theorem perm_all{X:Array MapEntry}{seen:Array Nat}{le:List MapEntry}(hn:(X.toList.map (·.born)).Nodup)(h1:∀e∈le,e∈X.toList)(h2:le.map (·.born)=seen.toList)(h3:(le.map (·.born)).Nodup)(h0:(leftOf X seen).size=0):le.Perm X.toList:=by
 have nd:∀l:List MapEntry,(l.map (·.born)).Nodup→l.Nodup:=fun l h=>by
  refine List.Pairwise.imp (fun {a b} hab e=>hab (by rw[e])) (List.pairwise_map.1 h)
 refine(List.perm_ext_iff_of_nodup (nd _ h3) (nd _ hn)).2 fun e=>⟨h1 e,fun he=>?_⟩
 have hs:e.born∈seen.toList:=by
  refine Classical.byContradiction fun hc=>?_
  have hm:e∈(leftOf X seen).toList:=by
   unfold leftOf
   simp only[Array.toList_filter,List.mem_filter]
   exact⟨he,by simpa using hc⟩
  have:(leftOf X seen).toList.length=0:=by simpa using h0
  rw[List.eq_nil_of_length_eq_zero this] at hm
  cases hm
 rw[←h2] at hs
 obtain⟨e',he',hb⟩:=List.mem_map.1 hs
 have inj:∀(l:List MapEntry),(l.map (·.born)).Nodup→∀x∈l,∀y∈l,x.born=y.born→x=y:=by
  intro l
  induction l with
  |nil=>intro _ x hx;cases hx
  |cons z l ih=>
   intro hnd x hx y hy hxy
   rw[List.map_cons,List.nodup_cons] at hnd
   rcases List.mem_cons.1 hx with ex|hx'
   · rcases List.mem_cons.1 hy with ey|hy'
     · rw[ex,ey]
     · exact absurd (List.mem_map.2 ⟨y,hy',by rw[←hxy,ex]⟩) hnd.1
   · rcases List.mem_cons.1 hy with ey|hy'
     · exact absurd (List.mem_map.2 ⟨x,hx',by rw[hxy,ey]⟩) hnd.1
     · exact ih hnd.2 x hx' y hy' hxy
 rw[←inj _ hn e' (h1 _ he') e he hb]
 exact he'
theorem keys1_fn{V:Type}(f:V→Value)(m:List (Int×V))(hm:m.length≤1000)(b:Nat){t:Tmp}{asg bod:Code}{T0:List AV}(hT0:AV.inNL [1005] T0=true)(lp:Nat)
 (hY:∀(out:List Int) (x:Int),out.length≤1000→YC Try.prog t asg bod T0 lp (vi .u64 x) (kyH0 out) (kyH1 out x)) :
 FnWX (LoopAt t asg bod T0 [1005,1101] lp) Try.prog 39 [yv lp,.ptr 1101 0] [(1005,[nilK]),(1101,[.c (.mp b (im f m))])] (X:={ks:List Int // ks.Perm (m.map (·.1))}) (fun _=>.tup []) (fun ks=>[(1005,[.row 600 adT 1 ks.1.length]),(600,raK ks.1)]):=by
 refine X3q Try.func39 rfl (by rfl) ?_
 simp only[Try.ntmps39,List.length_cons,List.length_nil,Nat.reduceAdd,Nat.reduceSub,List.replicate,List.cons_append,List.nil_append]
 intro E ι a w hp hc
 have hload:∀E ι a w,Conc E ι ⟨[yv lp,.ptr 1101 0,.any,.any,.any,.any,.any,.any,.any,.any,.any,.any,.any,.any],[(1005,[nilK]),(1101,[.c (.mp b (im f m))])]⟩ a w→True:=fun _ _ _ _ _=>trivial
 refine wp_seq ?_
 refine(wpIn_wide (n:=0)).1 (wpIn_region_list ?_)
 refine wpListIn_plain rfl fun K' hK'=>?_
 refine Q4a (ro:=none) rfl ?_
 refine(Q5n (σ:=⟨[yv lp,.ptr 1101 0,.any,.any,.any,.any,.any,.any,.any,.any,.any,.any,.any,.any],[(1005,[nilK]),(1101,[.c (.mp b (im f m))])]⟩) (K:=fun σ'=>σ'=⟨[yv lp,.ptr 1101 0,.any,.any,.c (.mp b (im f m)),.any,.any,.any,.any,.any,.any,.any,.any,.any],[(1005,[nilK]),(1101,[.c (.mp b (im f m))])]⟩) (r:=1101) (off:=0) (s:=1) (g:=false) (cs:=[.c (.mp b (im f m))]) (y:=.c (.mp b (im f m))) rfl rfl rfl rfl ?_ ?_ (by simp) rfl) E ι a w hc K' _ ?_
 · simp only[go_sem]
 · simp only[go_sem]
 rintro ι1 σ1 a1 w1 rfl hc1
 refine hK' _ _ ?_
 clear K' hK' hc
 have hmv:=hc1.tmp 4
 generalize hv4:a1.tmps.getD 4 undef=v4 at hmv
 have hmv':RV (Sx E ι1 [(1005,[nilK]),(1101,[.c (.mp b (im f m))])]) ι1 w1 v4 (.c (.mp b (im f m))):=hmv
 cases hmv' with
 |c _ _ hp4=>
 cases hp4 with
 |mp _ _ X clk hS hh hE hw=>
 have hbl:b<w1.heap.size:=(Array.getElem?_eq_some_iff.1 hh).1
 have hrun:(execOp a1.eval {dst:=some 5,op:=Op.range 57 (Operand.tmp 4),type:=0,pos:="iter.go:27",after:=#[{on:=0,ground:=Ground.data}],guard:=none}).run Try.prog w1 = .ok (.value (.pointer (some ⟨w1.heap.size,0,none⟩))) (w1.alloc (.mapIter (some b) clk #[] clk)):=by
  have e4:a1.eval (Operand.tmp 4) = .map (some b):=hv4
  unfold execOp
  simp[e4,Instr.range,run_underlying Try.underlying57,MapKept.run_getObj_map hh,Result.andThen]
 refine X1e rfl rfl hrun ?_
 refine wpListIn_nil ?_
 obtain⟨r,hr⟩:∃r,w1.heap.size=r:=⟨_,rfl⟩
 have hsz:=hc1.keep.size
 have hc2:=(hc1.alloc (.mapIter (some b) clk #[] clk)).put (some 5) (x:=.c (.v (.pointer (some ⟨w1.heap.size,0,none⟩)))) (v:=.pointer (some ⟨w1.heap.size,0,none⟩)) (Q2n _ rfl)
 have hb2:(w1.alloc (.mapIter (some b) clk #[] clk)).heap[b]? = some (.map X clk):=(Below.heap_alloc _ _ _ hbl).trans hh
 have hr2:(w1.alloc (.mapIter (some b) clk #[] clk)).heap[w1.heap.size]? = some (.mapIter (some b) clk #[] clk):=World.alloc_heap_new w1 _
 rw[hr] at hc2 hr2 hsz ⊢
 obtain⟨ι3,hc3⟩:∃ι3,Conc E ι3 (stK lp r b (im f m) 600 []) (a1.put (some 5) (.pointer (some ⟨r,0,none⟩))) (w1.alloc (.mapIter (some b) clk #[] clk)):=by
  refine St.to.trans (St.to.nilcell 1005 600 adT 1 0 (cs:=[nilK]) (by simp[hget,St.put]) rfl (by simp[St.free,Q1i,AV.refsL,AV.refs,St.put]) (by decide) (by decide)) (St.to.of_le (St.le_of (by simp[leT,St.put]) (by simp[leH,hget,hput,St.put]))) E ι1 _ _ hc2
 have hKeyOf:∀e∈X.toList,e.key = .int .u64 (keyI e):=fun e he=>by
  obtain⟨i,hi⟩:=keys_im hE e he
  unfold keyI
  rw[hi]
 have hlen:X.toList.length≤1000:=by have:=congrArg List.length hE;simp[im] at this ⊢;omega
 have hkeys:X.toList.map keyI=m.map (·.1):=by
  have h1:(X.toList.map (fun e=>(e.key,e.val))).map (fun p=>match p.1 with | .int _ i=>i|_=>0)=(im f m).map (fun p=>match p.1 with | .int _ i=>i|_=>0):=by rw[hE]
  unfold im at h1
  rw[List.map_map,List.map_map] at h1
  exact h1
 refine wp_block ?_
 refine wp_loopI (fun n a w=>∃ι le seen,Conc E ι (stK lp r b (im f m) 600 (le.map keyI)) a w∧w.heap[r]? = some (.mapIter (some b) clk seen clk)∧w.heap[b]? = some (.map X clk)∧(∀e∈le,e∈X.toList)∧le.map (·.born)=seen.toList∧(le.map (·.born)).Nodup∧n=(leftOf X seen).size) ?_ _ _ _ ⟨ι3,[],#[],hc3,hr2,hb2,(fun e he=>by cases he),rfl,.nil,rfl⟩
 clear hc3 hr2 hb2 hc2 hrun hc1 hh hbl hv4 hS hr
 rintro n a3 w3 ⟨ι,le,seen,hc,hwr,hwb,h1,h2,h3,rfl⟩
 have hev:a3.eval (Operand.tmp 5) = .pointer (some ⟨r,0,none⟩):=(hc.ev (Operand.tmp 5) rfl).v_inv.1
 have hrb:r≠b:=fun e=>by rw[e,hwb] at hwr;cases hwr
 have hold:∀x∈X.toList,x.born<clk:=fun x hx=>hw.1 _ (List.mem_map.2 ⟨x,hx,rfl⟩)
 refine wp_seq ?_
 refine(wpIn_wide (n:=0)).1 (wpIn_region_list ?_)
 rcases run_next_at (P:=Try.prog) w3 0 r b clk clk seen X clk hwr hwb hold (Nat.le_refl _) with⟨h0,hrun⟩|⟨e,he,w4,hw4,hrun⟩
 · -- nothing is left
   refine X1e (v:=.tuple #[.bool false]) (w':=w3) rfl rfl (by simp[execOp,hev,hrun,Result.andThen]) ?_
   have hc4:=hc.put (some 6) (x:=.tup [.c (.v (.bool false))]) (v:=.tuple #[.bool false]) (.tup [.bool false] _ rfl fun j u x hu hx=>by
    rcases j with _|j
    · cases hu;cases hx;exact Q2n _ rfl
    · cases hu)
   refine Q6j (Q5j (xs:=[.c (.v (.bool false))]) rfl rfl rfl rfl) hc4 rfl rfl fun a5 hc5=>?_
   refine wpListIn_nil ?_
   refine wp_seq ?_
   refine wp_cond_split (t:=false) (hc5.ev (Operand.tmp 7) rfl).v_inv.1 (fun h=>by cases h) fun _=>?_
   refine wp_exit ?_
   have hp:=(perm_all hw.2 h1 h2 h3 h0).map keyI
   rw[hkeys] at hp
   exact⟨ι,_,hc5,⟨le.map keyI,hp⟩,.inl rfl,⟨_,rfl,AV.le_of (by simp[Q1o])⟩,Q0y (by simp[leH,hget,St.put])⟩
 · -- one more
   have heX:e∈X.toList∧e.born∉seen.toList:=by
    unfold leftOf at he
    simp only[Array.toList_filter,List.mem_filter] at he
    exact⟨he.1,by simpa using he.2⟩
   have hkey:=hKeyOf e heX.1
   obtain⟨w5,hw5⟩:∃w5,ChangeMaps.setBlock w4 r (.mapIter (some b) clk (seen.push e.born) clk)=w5:=⟨_,rfl⟩
   rw[hw5] at hrun
   have hrl:r<w3.heap.size:=(Array.getElem?_eq_some_iff.1 hwr).1
   have hh4:w4.heap=w3.heap:=by rcases hw4 with rfl|rfl<;>rfl
   have hh5:w5.heap=w3.heap.setIfInBounds r (.mapIter (some b) clk (seen.push e.born) clk):=by rw[←hw5,←hh4];rfl
   have hr5:w5.heap[r]? = some (.mapIter (some b) clk (seen.push e.born) clk):=by rw[hh5];simp[hrl]
   have hoth:∀q,q≠r→w5.heap[q]? = w3.heap[q]?:=fun q hq=>by rw[hh5,Array.getElem?_setIfInBounds,if_neg (Ne.symm hq)]
   have hb5:w5.heap[b]? = some (.map X clk):=(hoth b hrb.symm).trans hwb
   have hc4:Conc E ι (stK lp r b (im f m) 600 (le.map keyI)) a3 w5:=hc.step hwr rfl (fun d h=>by cases h) hsz (by rw[←hw5];rcases hw4 with rfl|rfl<;>rfl) (by rw[←hw5];rcases hw4 with rfl|rfl<;>rfl) (by rw[←hw5];rcases hw4 with rfl|rfl<;>rfl) (by rw[hh5];simp) hoth
   refine X1e (v:=.tuple #[.bool true,e.key,e.val]) (w':=w5) rfl rfl (by simp[execOp,hev,hrun,Result.andThen]) ?_
   have hc5:=hc4.put (some 6) (x:=.tup [.c (.v (.bool true)),.any,.any]) (v:=.tuple #[.bool true,e.key,e.val]) (.tup [.bool true,e.key,e.val] _ rfl fun j u x hu hx=>by
    rcases j with _|_|_|j
    · cases hu;cases hx;exact Q2n _ rfl
    · cases hx;exact .any _
    · cases hx;exact .any _
    · cases hu)
   refine Q6j (Q5j (xs:=[.c (.v (.bool true)),.any,.any]) rfl rfl rfl rfl) hc5 rfl rfl fun a5 hc6=>?_
   refine wpListIn_nil ?_
   refine wp_seq ?_
   refine wp_cond_split (t:=true) (hc6.ev (Operand.tmp 7) rfl).v_inv.1 (fun _=>?_) fun h=>by cases h
   refine wp_skip ?_
   refine wp_block ?_
   refine wp_seq ?_
   refine(wpIn_wide (n:=0)).1 (wpIn_region_list ?_)
   have hen:=run_entry_at (P:=Try.prog) w5 r b clk seen X clk e hr5 hb5 heX.1 hw.2
   have hev6:a5.eval (Operand.tmp 5) = .pointer (some ⟨r,0,none⟩):=(hc6.ev (Operand.tmp 5) rfl).v_inv.1
   refine X1e (v:=.tuple #[e.key,e.val]) (w':=w5) rfl rfl (by simp[execOp,hev6,hen,Result.andThen]) ?_
   have hc7:=hc6.put (some 8) (x:=.tup [vi .u64 (keyI e),.any]) (v:=.tuple #[e.key,e.val]) (.tup [e.key,e.val] _ rfl fun j u x hu hx=>by
    rcases j with _|_|j
    · cases hu;cases hx;rw[hkey];exact Q2n _ rfl
    · cases hx;exact .any _
    · cases hu)
   refine Q6j (Q5j (xs:=[vi .u64 (keyI e),.any]) rfl rfl rfl rfl) hc7 rfl rfl fun a7 hc8=>?_
   refine Q6j (Q8l (.inr rfl) rfl) hc8 rfl rfl fun a8 hc9=>?_
   refine wpListIn_nil ?_
   refine wp_seq ?_
   refine(wpIn_wide (n:=0)).1 (wpIn_region_list ?_)
   refine Q6j (Q8l (.inl rfl) rfl) hc9 rfl rfl fun a9 hc10=>?_
   refine Q6j (Q8l (.inl rfl) rfl) hc10 rfl rfl fun a10 hc11=>?_
   refine wpListIn_plain rfl fun K' hK'=>?_
   have hll:(le.map keyI).length≤1000:=by
    have:=len_sub (le.map (·.born)) (X.toList.map (·.born)) h3 fun x hx=>by
     obtain⟨e',he',rfl⟩:=List.mem_map.1 hx
     exact List.mem_map.2 ⟨e',h1 e' he',rfl⟩
    rw[List.length_map,List.length_map] at this
    rw[List.length_map]
    omega
   have k9:∀r,AV.refsL r (raK (le.map keyI))=false:=fun r=>Q0z r _
   refine X5h (hY (le.map keyI) (keyI e) hll) (fun r=>if r=1600 then 600 else r) rfl rfl rfl rfl (.inr ?_) (by rfl) ?_ ?_ ?_ ?_ [1005] hT0 ?_ hp hc11 ?_
   · simp[AV.ren,AV.renL,St.ev,St.put]
   · simp[hget,AV.renL,AV.ren,St.put]
   · intro r hr q hq h
     simp only[List.map_cons,List.map_nil,List.cons_append,List.nil_append,List.mem_cons,List.not_mem_nil,or_false] at hr hq
     rcases hr with rfl|rfl|rfl|rfl<;>rcases hq with rfl|rfl|rfl|rfl<;>simp at h ⊢
   · simp[Q2d,St.free,Q1i,AV.refs,AV.refsL,St.put,St.ev,k9]
   · simp[inH,AV.inNL,AV.inN]
   · simp[hget,St.put]
   intro ι' a12 w6 hc12 hfr
   refine hK' _ _ ?_
   simp only[Q0q,Q2k,renH,AV.ren,AV.renL,Q1c,hput,hdel,hget,St.put,List.set] at hc12
   refine Q6j (pure_not (b:=true) rfl rfl ?_) hc12 rfl rfl fun a13 hc13=>?_
   · rfl
   refine wpListIn_nil ?_
   refine wp_cond_split (t:=false) (hc13.ev (Operand.tmp 13) rfl).v_inv.1 (fun h=>by cases h) fun _=>?_
   refine wp_skip ?_
   have hr6:=hfr r _ hr5 (fun _ _ _ h=>by cases h)
   have hb6:=hfr b _ hb5 (fun _ _ _ h=>by cases h)
   obtain⟨ι8,hc14⟩:∃ι8,Conc E ι8 (stK lp r b (im f m) 600 (le.map keyI++[keyI e])) a13 w6:=
    St.to.trans (St.to.of_le (τ:=stK lp r b (im f m) 11 (le.map keyI++[keyI e])) (St.le_of (by simp[leT,St.put]) (by simp[leH,hget,hput,hdel,St.put,raK]))) (stK_rn lp r b (im f m) _) E ι' _ _ hc13
   refine⟨(leftOf X (seen.push e.born)).size,?_,ι8,le++[e],seen.push e.born,by rw[List.map_append];exact hc14,hr6,hb6,fun e' he'=>?_,by simp[h2],?_,rfl⟩
   · unfold leftOf
     have h:=filt_lt (fun e=>!seen.contains e.born) (fun x=>!(seen.push e.born).contains x.born) (fun x hx=>by simp at hx ⊢;exact hx.1) X.toList ⟨e,heX.1,by simpa using heX.2,by simp⟩
     rw[←Array.toList_filter,←Array.toList_filter,Array.length_toList,Array.length_toList] at h
     exact h
   · rcases List.mem_append.1 he' with h|h
     · exact h1 _ h
     · simp at h;rw[h];exact heX.1
   · rw[List.map_append,List.nodup_append]
     refine⟨h3,by simp,fun x hx y hy=>?_⟩
     simp at hy
     rw[hy]
     rintro rfl
     exact heX.2 (by rw[←h2];exact hx)
end Go.Proofs.Ytbmcdemnnbndeaa
namespace Go.Proofs.Ytbmcdemnnbndeaa
open Go.RowKit Go.Lib
attribute [-go_sem] IntKind.bits
set_option maxRecDepth 20000
set_option maxHeartbeats 2000000
attribute [local simp] Q0l Q0a Q0k
theorem rI_raK(l:List Int):raK l=rI l.toArray:=by simp[rI]
abbrev X2x{V:Type}(m:List (Int×V)):Type:={ks:List Int // ks.Perm (m.map (·.1))}
theorem X5q{V:Type}(f:V→Value)(m:List (Int×V))(hm:m.length≤1000)(b:Nat) :
 FnX Try.prog 51 [nilK,.fn 39 [.ptr 1001 0]] [(1001,[.c (.mp b (im f m))])] (X:=X2x m) (fun ks=>.row 600 adT 1 ks.1.length) (fun ks=>[(600,raK ks.1)]):=by
 have F:=fun t asg bod T0 hT0 lp=>keys1_fn f m hm b (t:=t) (asg:=asg) (bod:=bod) (T0:=T0) hT0 lp
 (refine X3q Try.func51 rfl (by rfl) ?_;simp only[Try.ntmps51,List.length_cons,List.length_nil,Nat.reduceAdd,Nat.reduceSub,List.replicate,List.cons_append,List.nil_append])
 refine AWE.of ?_
 (repeat(any_goals(first|((with_reducible refine Q0g ?_ ?_);rfl;intro K hK;simp only[go_sem];((repeat(refine ndI (by first|assumption|omega|rfl) ?_));refine hK _ ?_;clear hK K))|(with_reducible first|(refine Q0i ?_;refine hR _ ?_;clear hR R)|((first|refine Q0h ?_|refine Q0c ?_);intro Ψ hΨ hΨ')|(refine Q0b ?_;intro R hR)|(refine hΨ _ ?_;clear hΨ hΨ' Ψ)|refine Q0d ?_|refine Q0j ?_|refine Q0e ?_)|((with_reducible refine hΨ' _ _ ?_ ?_);(focus(simp;done));clear hΨ hΨ' Ψ)|((with_reducible apply Q0f);rfl;rfl;all_goals(intro hc;first|(cases hc;done)|(try simp only at hc))))))
 show AW _ _ _ _
 refine AW.rangeX (X:=X2x m) ⟨_,List.Perm.refl _⟩ (T0:=[.any,.any,.ptr 1005 0,.any,.any,.any,.any,.any,.any,.any,.any,.any,.any]) (cargs:=[.ptr 1101 0]) (H0:=[(1005,[nilK]),(1101,[.c (.mp b (im f m))])]) (H1:=fun ks=>[(1005,[.row 600 adT 1 ks.1.length]),(600,raK ks.1)]) (res:=fun _=>.tup []) (fun r=>if r=1005 then 2 else if r=1101 then 1001 else r) (fun lp=>F _ _ _ _ ?_ lp ?_) rfl rfl Try.func39 (by kernel_rfl) rfl rfl ?_ ?_ ?_ ?_ ?_ (fun _=>rfl) ?_ ?_
 · rfl
 · intro out x ho
   refine yc_of rfl rfl ?_
   have k4:(raK out).length=out.length:=by rw[List.length_map,Q1u X4b];simp
   have k9:∀r,AV.refsL r (raK out)=false:=fun r=>Q0z r _
   simp only[List.set]
   (repeat(any_goals(first|((with_reducible refine Q0g ?_ ?_);rfl;intro K hK;simp(disch:=omega) only[go_sem,k4,k9];((repeat(refine ndI (by first|assumption|omega|rfl) ?_));refine hK _ ?_;clear hK K))|(with_reducible first|(refine Q0i ?_;refine hR _ ?_;clear hR R)|((first|refine Q0h ?_|refine Q0c ?_);intro Ψ hΨ hΨ')|(refine Q0b ?_;intro R hR)|(refine hΨ _ ?_;clear hΨ hΨ' Ψ)|refine Q0d ?_|refine Q0j ?_|refine Q0e ?_)|((with_reducible refine hΨ' _ _ ?_ ?_);(focus(simp;done));clear hΨ hΨ' Ψ)|((with_reducible apply Q0f);rfl;rfl;all_goals(intro hc;first|(cases hc;done)|(try simp only at hc))))))
   refine⟨rfl,?_⟩
   (have W:=ndI k4 (ndI k9 @Q0z);(repeat(any_goals(first|((with_reducible refine Q0g ?_ ?_);rfl;intro K hK;simp(disch:=omega) only[go_sem,W,Q5i,AV.refsL,AV.refs,List.length_append,List.length_cons,List.length_nil,Bool.or_false];((repeat(refine ndI (by first|assumption|omega|rfl) ?_));refine hK _ ?_;clear hK K))|(with_reducible first|(refine Q0i ?_;refine hR _ ?_;clear hR R)|((first|refine Q0h ?_|refine Q0c ?_);intro Ψ hΨ hΨ')|(refine Q0b ?_;intro R hR)|(refine hΨ _ ?_;clear hΨ hΨ' Ψ)|refine Q0d ?_|refine Q0j ?_|refine Q0e ?_)|((with_reducible refine hΨ' _ _ ?_ ?_);(focus(simp;done));clear hΨ hΨ' Ψ)|((with_reducible apply Q0f);rfl;rfl;all_goals(intro hc;first|(cases hc;done)|(try simp only at hc)))))))
   exact⟨rfl,Q0y (by simp[leH,hget,raK,apv])⟩
 · simp[Q1t,Q2h,AV.ren]
 · simp[Q1t,Q2h,AV.ren]
 · simp[hget,AV.renL,AV.ren]
 · intro x r hr q hq h
   simp only[List.map_cons,List.map_nil,List.cons_append,List.nil_append,List.mem_cons,List.not_mem_nil,or_false] at hr hq
   rcases hr with rfl|rfl|rfl|rfl<;>rcases hq with rfl|rfl|rfl|rfl<;>simp at h ⊢
 · intro x
   simp[Q2d,St.free,Q1i,AV.refs,AV.refsL]
 · intro x
   simp[inH,AV.inNL,AV.inN]
 · intro x
   simp only[Q0q,Q2k,renH,AV.ren,AV.renL,Q1c,hput,hdel,hget,Nat.reduceLeDiff,Nat.reduceSub,Nat.reduceEqDiff,↓reduceIte]
   (repeat(any_goals(first|((with_reducible refine Q0g ?_ ?_);rfl;intro K hK;simp only[go_sem];((repeat(refine ndI (by first|assumption|omega|rfl) ?_));refine hK _ ?_;clear hK K))|(with_reducible first|(refine Q0i ?_;refine hR _ ?_;clear hR R)|((first|refine Q0h ?_|refine Q0c ?_);intro Ψ hΨ hΨ')|(refine Q0b ?_;intro R hR)|(refine hΨ _ ?_;clear hΨ hΨ' Ψ)|refine Q0d ?_|refine Q0j ?_|refine Q0e ?_)|((with_reducible refine hΨ' _ _ ?_ ?_);(focus(simp;done));clear hΨ hΨ' Ψ)|((with_reducible apply Q0f);rfl;rfl;all_goals(intro hc;first|(cases hc;done)|(try simp only at hc))))))
   all_goals exact⟨x,by simp,⟨_,rfl,AV.le_refl _⟩,Q0y (by simp[leH,hget])⟩
theorem X3x{V:Type}(f:V→Value)(m:List (Int×V))(hm:m.length≤1000)(b:Nat) :
 FnX Try.prog 37 [.fn 39 [.ptr 1001 0]] [(1001,[.c (.mp b (im f m))])] (X:=X2x m) (fun ks=>.row 600 adT 1 ks.1.length) (fun ks=>[(600,raK ks.1)]):=by
 have F:=X5q f m hm b
 (refine X3q Try.func37 rfl (by rfl) ?_;simp only[Try.ntmps37,List.length_cons,List.length_nil,Nat.reduceAdd,Nat.reduceSub,List.replicate,List.cons_append,List.nil_append])
 refine AWE.of ?_
 (repeat(any_goals(first|((with_reducible refine Q0g ?_ ?_);rfl;intro K hK;simp only[go_sem];((repeat(refine ndI (by first|assumption|omega|rfl) ?_));refine hK _ ?_;clear hK K))|(with_reducible first|(refine Q0i ?_;refine hR _ ?_;clear hR R)|((first|refine Q0h ?_|refine Q0c ?_);intro Ψ hΨ hΨ')|(refine Q0b ?_;intro R hR)|(refine hΨ _ ?_;clear hΨ hΨ' Ψ)|refine Q0d ?_|refine Q0j ?_|refine Q0e ?_)|((with_reducible refine hΨ' _ _ ?_ ?_);(focus(simp;done));clear hΨ hΨ' Ψ)|((with_reducible apply Q0f);rfl;rfl;all_goals(intro hc;first|(cases hc;done)|(try simp only at hc))))))
 refine Q3t rfl fun K hK=>?_
 refine X1z (X:=X2x m) ⟨_,List.Perm.refl _⟩ F (fun r=>r) rfl rfl rfl rfl Try.func51 (by kernel_rfl) rfl rfl ?_ ?_ ?_ ?_ ?_ ?_ ?_
 · simp[Q1t,Q2h,AV.ren,AV.renL,St.ev,ofV]
 · simp[hget,AV.renL,AV.ren]
 · intro x r hr q hq h
   exact h
 · intro x
   simp[Q2d,St.free,Q1i,AV.refs,AV.refsL]
 · intro x
   rfl
 · intro x
   simp[inH,AV.inNL,AV.inN]
 · intro x
   simp only[Q0q,Q2k,renH,AV.ren,AV.renL,Q1c,hput,hdel,hget,Nat.reduceLeDiff,Nat.reduceSub,Nat.reduceEqDiff,↓reduceIte,St.put,List.set]
   refine hK _ ?_
   clear hK K
   (repeat(any_goals(first|((with_reducible refine Q0g ?_ ?_);rfl;intro K hK;simp only[go_sem];((repeat(refine ndI (by first|assumption|omega|rfl) ?_));refine hK _ ?_;clear hK K))|(with_reducible first|(refine Q0i ?_;refine hR _ ?_;clear hR R)|((first|refine Q0h ?_|refine Q0c ?_);intro Ψ hΨ hΨ')|(refine Q0b ?_;intro R hR)|(refine hΨ _ ?_;clear hΨ hΨ' Ψ)|refine Q0d ?_|refine Q0j ?_|refine Q0e ?_)|((with_reducible refine hΨ' _ _ ?_ ?_);(focus(simp;done));clear hΨ hΨ' Ψ)|((with_reducible apply Q0f);rfl;rfl;all_goals(intro hc;first|(cases hc;done)|(try simp only at hc))))))
   all_goals exact⟨x,by simp,⟨_,rfl,AV.le_refl _⟩,Q0y (by simp[leH,hget])⟩
def srtI(l:List Int):List Int:=l.mergeSort (fun x y=>decide (x≤y))
theorem srt_eq(l:List Int):Sort.sort ltI l.toArray=(srtI l).toArray:=by
 have h:=Sort.sortInt l
 apply Array.toList_inj.1
 rw[show Sort.sort ltI l.toArray=Sort.sort Sort.ltInt l.toArray from rfl,h]
 rfl
theorem srtI_perm{l l':List Int}(h:l.Perm l'):srtI l=srtI l':=by
 have tr:∀a b c:Int,decide (a≤b)=true→decide (b≤c)=true→decide (a≤c)=true:=fun a b c h1 h2=>by simp only[decide_eq_true_eq] at *;omega
 have to:∀a b:Int,(decide (a≤b)||decide (b≤a))=true:=fun a b=>by simp only[Bool.or_eq_true,decide_eq_true_eq];omega
 refine List.Perm.eq_of_pairwise (le:=fun a b=>decide (a≤b)=true) (fun a b _ _ h1 h2=>?_) (List.pairwise_mergeSort tr to l) (List.pairwise_mergeSort tr to l') (((List.mergeSort_perm l _).trans h).trans (List.mergeSort_perm l' _).symm)
 simp only[decide_eq_true_eq] at h1 h2
 omega
theorem sort_fn(n:Nat)(hn:n≤1000000)(d:Array Int)(h0:d.size=n):Fn Try.prog 38 [.row 1000 adT 1 n] [(1000,rI d)] (.tup []) [(1000,rI (Sort.sort ltI d))]:=by
 have gl:=len_fn n hn
 have h2:Sort.bitsLen n≤20:=(Sort.bitsLen_le_iff n 20).2 (by omega)
 have gp:=pdq_fn n hn n 0 n (Sort.bitsLen n) d (by omega) (Nat.zero_le _) (Nat.le_refl _) (by omega) h0 (.inl rfl)
 rw[show Sort.sort ltI d=Sort.pdq ltI d 0 n (Sort.bitsLen n) true true by rw[←h0];rfl]
 rw[show((0:Nat):Int)=0 from rfl] at gp
 generalize Sort.bitsLen n=l at *
 have w1:IntKind.u64.wrap (n:Int)=(n:Int):=by rw[IntKind.wrap_u64];omega
 (refine Q1q Try.func38 rfl (by rfl) ?_;simp only[Try.ntmps38,List.length_cons,List.length_nil,Nat.reduceAdd,Nat.reduceSub,List.replicate,List.cons_append,List.nil_append])
 (repeat(any_goals(first|((with_reducible refine Q1d ?_ ?_ ?_);rfl;rfl;intro K hK;(first|((apply Q0x (gl);rfl;rfl;rfl;rfl;exact Try.func53);kernel_rfl;rfl;(focus((simp(disch:=omega) only[go_sem,w1,Q0l,Q0k,Q0a,Nat.mul_one,wrI]);(try rfl);done));(first|rfl|simp[AV.inNL,AV.inN]))|(apply Q1n (gp) (fun r=>r);rfl;rfl;rfl;rfl;exact Try.func52;kernel_rfl;rfl;rfl;(intro r hr q hq h;simp(disch:=omega) only[List.map_cons,List.map_nil,List.cons_append,List.nil_append,List.mem_cons,List.not_mem_nil,or_false] at hr hq;(try dsimp only at h);first|omega|(rcases hr with rfl|rfl|rfl<;>rcases hq with rfl|rfl|rfl<;>simp at h ⊢)|(rcases hr with rfl|rfl<;>rcases hq with rfl|rfl<;>simp at h ⊢)|((repeat' split at h)<;>omega));(simp(disch:=omega) only[Q1t,Q2h,AV.ren,AV.renL,Q1c,List.mem_cons,List.not_mem_nil,forall_eq_or_imp,forall_eq,Q2d,List.contains_cons,List.contains_nil,AV.refsL,AV.refs,Q0z,AV.inN,AV.inNL,inH,Q1k,go_sem,w1,Q0l,Q0k,Q0a,Nat.mul_one,wrI])));(simp(disch:=omega) only[Q0q,Q2k,renH,AV.ren,AV.renL,Q1c,go_sem,w1,Q0l,Q0k,Q0a,Nat.mul_one,wrI];refine hK _ ?_;clear hK K))|((with_reducible refine Q0g ?_ ?_);rfl;intro K hK;simp(disch:=omega) only[go_sem,w1,Q0l,Q0k,Q0a,Nat.mul_one,wrI];((repeat(refine ndI (by first|assumption|omega|rfl) ?_));refine hK _ ?_;clear hK K))|(with_reducible first|(refine Q0i ?_;refine hR _ ?_;clear hR R)|((first|refine Q0h ?_|refine Q0c ?_);intro Ψ hΨ hΨ')|(refine Q0b ?_;intro R hR)|(refine hΨ _ ?_;clear hΨ hΨ' Ψ)|refine Q0d ?_|refine Q0j ?_|refine Q0e ?_)|((with_reducible refine hΨ' _ _ ?_ ?_);(focus(simp;done));clear hΨ hΨ' Ψ)|((with_reducible apply Q0f);rfl;rfl;all_goals(intro hc;first|(cases hc;done)|(try simp only at hc))))))
 all_goals(refine⟨by simp,⟨_,?_,AV.le_refl _⟩,Q0y (by simp[leH,hget])⟩;simp only[Try.results38,resL,ldA,Q1o,go_sem])
theorem X3a{V:Type}(f:V→Value)(m:List (Int×V))(hm:m.length≤1000)(b:Nat) :
 Fn Try.prog 15 [.fn 39 [.ptr 1001 0]] [(1001,[.c (.mp b (im f m))])] (.row 600 adT 1 m.length) [(600,raK (srtI (m.map (·.1))))]:=by
 have F:=X3x f m hm b
 (refine Q1q Try.func15 rfl (by rfl) ?_;simp only[Try.ntmps15,List.length_cons,List.length_nil,Nat.reduceAdd,Nat.reduceSub,List.replicate,List.cons_append,List.nil_append])
 (repeat(any_goals(first|((with_reducible refine Q0g ?_ ?_);rfl;intro K hK;simp only[go_sem];((repeat(refine ndI (by first|assumption|omega|rfl) ?_));refine hK _ ?_;clear hK K))|(with_reducible first|(refine Q0i ?_;refine hR _ ?_;clear hR R)|((first|refine Q0h ?_|refine Q0c ?_);intro Ψ hΨ hΨ')|(refine Q0b ?_;intro R hR)|(refine hΨ _ ?_;clear hΨ hΨ' Ψ)|refine Q0d ?_|refine Q0j ?_|refine Q0e ?_)|((with_reducible refine hΨ' _ _ ?_ ?_);(focus(simp;done));clear hΨ hΨ' Ψ)|((with_reducible apply Q0f);rfl;rfl;all_goals(intro hc;first|(cases hc;done)|(try simp only at hc))))))
 refine Q3t rfl fun K hK=>?_
 refine X1z (X:=X2x m) ⟨_,List.Perm.refl _⟩ F (fun r=>r) rfl rfl rfl rfl Try.func37 (by kernel_rfl) rfl rfl ?_ ?_ ?_ ?_ ?_ ?_ ?_
 · simp[Q1t,Q2h,AV.ren,AV.renL,St.ev,ofV]
 · simp[hget,AV.renL,AV.ren]
 · intro x r hr q hq h
   exact h
 · intro x
   simp[Q2d,St.free,Q1i,AV.refs,AV.refsL]
 · intro x
   rfl
 · intro x
   simp[inH,AV.inNL,AV.inN]
 · rintro ⟨ks,hp⟩
   have hl:ks.length=m.length:=by rw[hp.length_eq,List.length_map]
   have g:=sort_fn m.length (by omega) ks.toArray (by simpa using hl)
   rw[srt_eq,srtI_perm hp,←rI_raK,←rI_raK] at g
   simp only[Q0q,Q2k,renH,AV.ren,AV.renL,Q1c,hput,hdel,hget,Nat.reduceLeDiff,Nat.reduceSub,Nat.reduceEqDiff,↓reduceIte,St.put,List.set,hl]
   refine hK _ ?_
   clear hK K
   have k9:∀l r,AV.refsL r (raK l)=false:=fun l r=>Q0z r _
   (repeat(any_goals(first|((with_reducible refine Q1d ?_ ?_ ?_);rfl;rfl;intro K hK;(apply Q1n (g) (fun r=>if r=1000 then 600 else r);rfl;rfl;rfl;rfl;exact Try.func38;kernel_rfl;rfl;rfl;(intro r hr q hq h;simp only[List.map_cons,List.map_nil,List.cons_append,List.nil_append,List.mem_cons,List.not_mem_nil,or_false] at hr hq;(try dsimp only at h);first|omega|(rcases hr with rfl|rfl|rfl<;>rcases hq with rfl|rfl|rfl<;>simp at h ⊢)|(rcases hr with rfl|rfl<;>rcases hq with rfl|rfl<;>simp at h ⊢)|((repeat' split at h)<;>omega));(simp only[Q1t,Q2h,AV.ren,AV.renL,Q1c,List.mem_cons,List.not_mem_nil,forall_eq_or_imp,forall_eq,Q2d,List.contains_cons,List.contains_nil,AV.refsL,AV.refs,Q0z,AV.inN,AV.inNL,inH,Q1k,go_sem,k9,Q1k,Q1c]));(simp only[Q0q,Q2k,renH,AV.ren,AV.renL,Q1c,go_sem,k9,Q1k,Q1c];refine hK _ ?_;clear hK K))|((with_reducible refine Q0g ?_ ?_);rfl;intro K hK;simp only[go_sem,k9,Q1k,Q1c];((repeat(refine ndI (by first|assumption|omega|rfl) ?_));refine hK _ ?_;clear hK K))|(with_reducible first|(refine Q0i ?_;refine hR _ ?_;clear hR R)|((first|refine Q0h ?_|refine Q0c ?_);intro Ψ hΨ hΨ')|(refine Q0b ?_;intro R hR)|(refine hΨ _ ?_;clear hΨ hΨ' Ψ)|refine Q0d ?_|refine Q0j ?_|refine Q0e ?_)|((with_reducible refine hΨ' _ _ ?_ ?_);(focus(simp;done));clear hΨ hΨ' Ψ)|((with_reducible apply Q0f);rfl;rfl;all_goals(intro hc;first|(cases hc;done)|(try simp only at hc))))))
   all_goals(refine⟨by simp,⟨_,?_,AV.le_refl _⟩,Q0y (by simp[leH,hget])⟩;simp only[Try.results15,resL,ldA,Q1o,go_sem])
theorem keysA_fn{V:Type}(f:V→Value)(m:List (Int×V))(b:Nat) :
 Fn Try.prog 16 [.c (.mp b (im f m))] [] (.fn 39 [.ptr 1 0]) [(1,[.c (.mp b (im f m))])]:=by
 (refine Q1q Try.func16 rfl (by rfl) ?_;simp only[Try.ntmps16,List.length_cons,List.length_nil,Nat.reduceAdd,Nat.reduceSub,List.replicate,List.cons_append,List.nil_append])
 (repeat(any_goals(first|((with_reducible refine Q0g ?_ ?_);rfl;intro K hK;simp only[go_sem];((repeat(refine ndI (by first|assumption|omega|rfl) ?_));refine hK _ ?_;clear hK K))|(with_reducible first|(refine Q0i ?_;refine hR _ ?_;clear hR R)|((first|refine Q0h ?_|refine Q0c ?_);intro Ψ hΨ hΨ')|(refine Q0b ?_;intro R hR)|(refine hΨ _ ?_;clear hΨ hΨ' Ψ)|refine Q0d ?_|refine Q0j ?_|refine Q0e ?_)|((with_reducible refine hΨ' _ _ ?_ ?_);(focus(simp;done));clear hΨ hΨ' Ψ)|((with_reducible apply Q0f);rfl;rfl;all_goals(intro hc;first|(cases hc;done)|(try simp only at hc))))))
 all_goals(refine⟨by simp,⟨_,?_,AV.le_refl _⟩,Q0y (by simp[leH,hget])⟩;simp only[Try.results16,resL,ldA,Q1o,go_sem])
end Go.Proofs.Ytbmcdemnnbndeaa
namespace Go.Proofs.Ytbmcdemnnbndeaa
open Go.RowKit Go.Lib
section
variable {P:Program} {o:Oper} {σ : St} {K:St→Prop} {V:Type}
def mv(f:V→List Value)(v:V):Value:=.agg (f v).toArray
theorem rv_mv{S:Nat→Prop}{ι : Nat→Nat×Nat×Nat}{w:World}(xs:List Value)(h:∀x∈xs,x.oneCell'=true):RV S ι w (.agg xs.toArray) (.agg (xs.map fun x=>.c (.v x))):=
 .agg xs _ (by simp) h fun j u x hu hx=>by
  rw[List.getElem?_map,hu] at hx
  cases hx
  exact .c _ _ (.v _ (h u (List.mem_of_getElem? hu)))
theorem X3h(f:V→List Value)(z:V)(m:List (Int×V)){t kt et:TypeId}{x ix:Operand}{b:Nat}{k:Int}(ho:o.op = .lookup t x ix false)(hx:Q0v x=true)(hi:Q0v ix=true)(hm:P.underlying t=some (.map kt et))(hkt:P.underlying kt=some (.int .u64))
 (hz:∀w,(zeroValue et).run P w = .ok (mv f z) w) (h1:σ.ev x = .c (.mp b (im (mv f) m))) (h2:σ.ev ix = .c (.v (.int .u64 k))) (hf:∀v,∀x∈f v,x.oneCell'=true) (hK:K (σ.put o.dst (.agg ((f (mget z m k)).map fun x=>.c (.v x))))):OpA P o σ K:=by
 refine Q1y _ hK fun E ι a w h=>?_
 have hxv:=h.ev x hx
 rw[h1] at hxv
 have hiv:=h.ev ix hi
 rw[h2] at hiv
 obtain⟨ei,_⟩:=hiv.v_inv
 generalize he:a.eval x=v at hxv
 cases hxv with
 |c _ _ hp=>
  cases hp with
  |mp _ _ X clk hS hh hE hw=>
   refine⟨mv f (mget z m k),?_,rv_mv _ (hf _)⟩
   have hfn:=Q7k (mv f) k X.toList m 0 hE
   unfold mget
   unfold execOp
   simp only[ho,he,ei]
   cases hr:Q6h k m 0 with
   |none=>
    rw[hr] at hfn
    simp[Instr.lookup,run_underlying hm,MapKept.run_getObj_map hh,MapKept.run_checkKey hkt (Q5s k),MapKept.run_findKey hkt hfn,Result.andThen,hz]
   |some p=>
    rw[hr] at hfn
    simp[Instr.lookup,run_underlying hm,MapKept.run_getObj_map hh,MapKept.run_checkKey hkt (Q5s k),MapKept.run_findKey hkt hfn,Result.andThen]
theorem Q9f{E0:Env}(f:V→List Value)(m:List (Int×V)){t kt et:TypeId}{x ix vx:Operand}{b:Nat}{k:Int}{v:V}(ho:o.op = .mapUpdate t x ix vx)(hd:o.dst=none)(hx:Q0v x=true)(hi:Q0v ix=true)(hvx:Q0v vx=true)(hm:P.underlying t=some (.map kt et))(hkt:P.underlying kt=some (.int .u64))
 (h1:σ.ev x = .c (.mp b (im (mv f) m))) (h2:σ.ev ix = .c (.v (.int .u64 k))) (h3:σ.ev vx = .agg ((f v).map fun x=>.c (.v x))) (hb:E0.w.heap.size≤b) (hH:Q6w σ.H=false) (hK:K ⟨σ.T.map (AV.mpU b (im (mv f) (mput m k v))),σ.H⟩):OpE (fun E=>E=E0) P o σ K:=
 fun E ι a w hE hc K' Q hK'=>Q4a (by unfold opNd;rw[ho]) (Q9e (mv f) m ho hd hi hm hkt (fun E ι a w hc=>by
  have hxv:=hc.ev x hx
  rw[h1] at hxv
  generalize a.eval x=y at hxv
  cases hxv with
  |c _ _ hp=>
   cases hp with
   |mp _ _ X clk hS hh hE hw=>exact⟨rfl,X,clk,hh,hE,hw⟩) h2 (fun E ι a w hc=>by
  have hvv:=hc.ev vx hvx
  rw[h3] at hvv
  exact hvv.vals) hb hH hK E ι a w hE hc K' Q hK')
end
end Go.Proofs.Ytbmcdemnnbndeaa
namespace Go.Proofs.Ytbmcdemnnbndeaa
open Go.RowKit
open Nat (reduceBEq)
set_option maxRecDepth 20000
set_option maxHeartbeats 2000000
theorem Q4j(x y c:Int)(hx:0≤x)(hy:0≤y)(hy1:y≤18446744073709551615)(hc0:0≤c)(hc:c≤1):Ext Try.prog 40 [.int .u64 x,.int .u64 y,.int .u64 c] (.tup [.c (.v (.int .u64 (sbI x y c))),.c (.v (.int .u64 (bwI x y c)))]):=
 sub64_ext Try.func40 (by kernel_rfl) (by kernel_rfl) (by kernel_rfl) (by kernel_rfl) x y c hx hy hy1 hc0 hc
theorem bw01(x y c:Int):0≤bwI x y c∧bwI x y c≤1:=by unfold bwI;split<;>omega
theorem X0y(a b c d e f g h:Int)(u1:U a)(u2:U b)(u3:U c)(u4:U d)(u5:U e)(u6:U f)(u7:U g)(u8:U h):Fn Try.prog 17 [w4 a b c d,w4 e f g h,.fn 40 []] []
 (.tup [w4 (sbI a e 0) (sbI b f (bwI a e 0)) (sbI c g (bwI b f (bwI a e 0))) (sbI d h (bwI c g (bwI b f (bwI a e 0)))),vb (bwI d h (bwI c g (bwI b f (bwI a e 0))) != 0)]) []:=by
 have c1:=bw01 a e 0
 have c2:=bw01 b f (bwI a e 0)
 have c3:=bw01 c g (bwI b f (bwI a e 0))
 (refine Q1q Try.func17 rfl (by rfl) ?_;simp only[Try.ntmps17,List.length_cons,List.length_nil,Nat.reduceAdd,Nat.reduceSub,List.replicate,List.cons_append,List.nil_append])
 (repeat(any_goals(first|((with_reducible refine Q1d ?_ ?_ ?_);rfl;rfl;intro K hK;(first|(apply Q4w (Q4j a e 0 u1.1 u5.1 u5.2 (Int.le_refl 0) (by decide));rfl;rfl;rfl;rfl;(focus(simp(disch:=omega) only[AV.ones,Option.map_some,go_sem,wrI,Int.reduceAdd];done)))|(apply Q4w (Q4j b f _ u2.1 u6.1 u6.2 c1.1 c1.2);rfl;rfl;rfl;rfl;(focus(simp(disch:=omega) only[AV.ones,Option.map_some,go_sem,wrI,Int.reduceAdd];done)))|(apply Q4w (Q4j c g _ u3.1 u7.1 u7.2 c2.1 c2.2);rfl;rfl;rfl;rfl;(focus(simp(disch:=omega) only[AV.ones,Option.map_some,go_sem,wrI,Int.reduceAdd];done)))|(apply Q4w (Q4j d h _ u4.1 u8.1 u8.2 c3.1 c3.2);rfl;rfl;rfl;rfl;(focus(simp(disch:=omega) only[AV.ones,Option.map_some,go_sem,wrI,Int.reduceAdd];done))));(simp(disch:=omega) only[go_sem,wrI,Int.reduceAdd];refine hK _ ?_;clear hK K))|((with_reducible refine Q0g ?_ ?_);rfl;intro K hK;simp(disch:=omega) only[go_sem,wrI,Int.reduceAdd];((repeat(refine ndI (by first|assumption|omega|rfl) ?_));refine hK _ ?_;clear hK K))|(with_reducible first|(refine Q0i ?_;refine hR _ ?_;clear hR R)|((first|refine Q0h ?_|refine Q0c ?_);intro Ψ hΨ hΨ')|(refine Q0b ?_;intro R hR)|(refine hΨ _ ?_;clear hΨ hΨ' Ψ)|refine Q0d ?_|refine Q0j ?_|refine Q0e ?_)|((with_reducible refine hΨ' _ _ ?_ ?_);(focus(simp;done));clear hΨ hΨ' Ψ)|((with_reducible apply Q0f);rfl;rfl;all_goals(intro hc;first|(cases hc;done)|(try simp only at hc)))|(with_reducible refine Q3u 5 ?_)|((with_reducible refine Q4z ?_);intro Ψ hΨ hΨ')|((with_reducible refine Q0t ?_ ?_);kernel_rfl;(with_reducible refine hR _ ?_);clear hR R)|((first|((with_reducible apply Q1m);rfl;rfl;(first|(apply Q5m (Q4j a e 0 u1.1 u5.1 u5.2 (Int.le_refl 0) (by decide));rfl;rfl;rfl;rfl;(focus(simp(disch:=omega) only[AV.ones,Option.map_some,go_sem,wrI,Int.reduceAdd];done)))|(apply Q5m (Q4j b f _ u2.1 u6.1 u6.2 c1.1 c1.2);rfl;rfl;rfl;rfl;(focus(simp(disch:=omega) only[AV.ones,Option.map_some,go_sem,wrI,Int.reduceAdd];done)))|(apply Q5m (Q4j c g _ u3.1 u7.1 u7.2 c2.1 c2.2);rfl;rfl;rfl;rfl;(focus(simp(disch:=omega) only[AV.ones,Option.map_some,go_sem,wrI,Int.reduceAdd];done)))|(apply Q5m (Q4j d h _ u4.1 u8.1 u8.2 c3.1 c3.2);rfl;rfl;rfl;rfl;(focus(simp(disch:=omega) only[AV.ones,Option.map_some,go_sem,wrI,Int.reduceAdd];done)))))|((with_reducible apply Q0u);rfl;rfl;(simp(disch:=omega) only[rdE,rdOf,go_sem,wrI,Int.reduceAdd];rfl);(intro τ hA hQ hN;((try simp only[Q1h,Op.operands,Call.operands,go_sem,wrI,Int.reduceAdd,go_sem,List.mem_cons,List.not_mem_nil,forall_eq_or_imp,forall_eq,List.append_toArray,Option.toArray] at hA);(try simp only[go_sem,wrI,Int.reduceAdd,List.mem_cons,List.not_mem_nil,forall_eq_or_imp,forall_eq] at hQ hN);(first|(revert hA;intro hA)|have hA:=trivial);(first|(revert hQ;intro hQ)|have hQ:=trivial);(first|(revert hN;intro hN)|have hN:=trivial);simp(disch:=omega) only[go_sem,wrI,Int.reduceAdd,go_sem,hA,hQ,hN];(repeat(refine ndI (by first|assumption|omega|rfl) ?_));(first|apply Q1b|apply Q1a|apply Q0w)))));(simp(disch:=omega) only[St.eff,setO,Q0q,go_sem,wrI,Int.reduceAdd]))|((with_reducible refine Q0p ?_ ?_ ?_ ?_);kernel_rfl;kernel_rfl;(first|kernel_rfl|simp[Q0m,Q1j,St.free,Q1i,AV.refsL,AV.refs]);intro R hR))))
 all_goals(refine⟨by simp,⟨_,?_,AV.le_refl _⟩,Q0y (by simp[leH,hget])⟩;simp only[Try.results17,resL,ldA,Q1o,go_sem])
theorem sub_nat{x y a0 a1 a2 a3 b0 b1 b2 b3:Nat}(hxw:x<WW)(hyw:y<WW)(hx:x=a0+18446744073709551616*(a1+18446744073709551616*(a2+18446744073709551616*a3)))(hy:y=b0+18446744073709551616*(b1+18446744073709551616*(b2+18446744073709551616*b3)))
 {s0 s1 s2 s3 c1 c2 c3 c4:Nat} (e0:a0+18446744073709551616*c1=s0+b0) (e1:a1+18446744073709551616*c2=s1+b1+c1) (e2:a2+18446744073709551616*c3=s2+b2+c2) (e3:a3+18446744073709551616*c4=s3+b3+c3)
 (h0:s0<18446744073709551616) (h1:s1<18446744073709551616) (h2:s2<18446744073709551616) (h3:s3<18446744073709551616) :
 (x+WW-y)%WW=s0+18446744073709551616*(s1+18446744073709551616*(s2+18446744073709551616*s3))∧(x<y↔c4≠0):=by
 unfold WW at *
 omega
theorem X0c{a b c:Nat}(hb:b<18446744073709551616)(hc:c≤1):sbI a b c=(((a+18446744073709551616-b-c)%18446744073709551616:Nat):Int):=by unfold sbI;omega
theorem X1a{a b c:Nat}:bwI a b c=((if a<b+c then 1 else 0:Nat):Int):=by unfold bwI;split<;>split<;>omega
theorem sub_fn(x y:Nat)(hx:x<WW)(hy:y<WW):Fn Try.prog 21 [wN x,wN y] [] (.tup [wN ((x+WW-y)%WW),vb (decide (x<y))]) []:=by
 have h:=X0y (l0 x) (l1 x) (l2 x) (l3 x) (l0 y) (l1 y) (l2 y) (l3 y) (U0 x) (U1 x) (U2 x) (U3 x) (U0 y) (U1 y) (U2 y) (U3 y)
 obtain⟨a,b,c,d,ex,ha,hb,hc,hd,e0,e1,e2,e3⟩:=Q5f hx
 obtain⟨a',b',c',d',ey,ha',hb',hc',hd',f0,f1,f2,f3⟩:=Q5f hy
 rw[e0,e1,e2,e3,f0,f1,f2,f3] at h
 have z:(0:Int)=((0:Nat):Int):=rfl
 rw[z,X1a] at h
 obtain⟨c1,hc1⟩:∃s:Nat,(if a<a'+0 then 1 else 0)=s:=⟨_,rfl⟩
 have hc1':c1≤1:=by rw[←hc1];split<;>omega
 rw[hc1,X1a] at h
 obtain⟨c2,hc2⟩:∃s:Nat,(if b<b'+c1 then 1 else 0)=s:=⟨_,rfl⟩
 have hc2':c2≤1:=by rw[←hc2];split<;>omega
 rw[hc2,X1a] at h
 obtain⟨c3,hc3⟩:∃s:Nat,(if c<c'+c2 then 1 else 0)=s:=⟨_,rfl⟩
 have hc3':c3≤1:=by rw[←hc3];split<;>omega
 rw[hc3,X1a] at h
 obtain⟨c4,hc4⟩:∃s:Nat,(if d<d'+c3 then 1 else 0)=s:=⟨_,rfl⟩
 have hc4':c4≤1:=by rw[←hc4];split<;>omega
 rw[hc4,X0c ha' (by omega),X0c hb' hc1',X0c hc' hc2',X0c hd' hc3'] at h
 obtain⟨s0,hs0⟩:∃s,(a+18446744073709551616-a'-0)%18446744073709551616=s:=⟨_,rfl⟩
 obtain⟨s1,hs1⟩:∃s,(b+18446744073709551616-b'-c1)%18446744073709551616=s:=⟨_,rfl⟩
 obtain⟨s2,hs2⟩:∃s,(c+18446744073709551616-c'-c2)%18446744073709551616=s:=⟨_,rfl⟩
 obtain⟨s3,hs3⟩:∃s,(d+18446744073709551616-d'-c3)%18446744073709551616=s:=⟨_,rfl⟩
 rw[hs0,hs1,hs2,hs3] at h
 have k0:s0<18446744073709551616:=by omega
 have k1:s1<18446744073709551616:=by omega
 have k2:s2<18446744073709551616:=by omega
 have k3:s3<18446744073709551616:=by omega
 obtain⟨g1,g2⟩:=sub_nat hx hy ex ey (s0:=s0) (c1:=c1) (s1:=s1) (c2:=c2) (s2:=s2) (c3:=c3) (s3:=s3) (c4:=c4) (by split at hc1<;>omega) (by split at hc2<;>omega) (by split at hc3<;>omega) (by split at hc4<;>omega) k0 k1 k2 k3
 obtain⟨m0,m1,m2,m3⟩:=Q8b g1 k0 k1 k2 k3
 rw[←m0,←m1,←m2,←m3] at h
 have hq:(((c4:Nat):Int) != ((0:Nat):Int))=decide (x<y):=by
  rw[Bool.eq_iff_iff]
  simp only[bne_iff_ne,ne_eq,decide_eq_true_eq]
  rw[g2];omega
 rw[hq] at h
 rw[←e0,←e1,←e2,←e3,←f0,←f1,←f2,←f3] at h
 obtain⟨q,hq'⟩:∃q,decide (x<y)=q:=⟨_,rfl⟩
 obtain⟨n,hn⟩:∃n,(x+WW-y)%WW=n:=⟨_,rfl⟩
 rw[hq',hn] at h ⊢
 (refine Q1q Try.func21 rfl (by rfl) ?_;simp only[Try.ntmps21,List.length_cons,List.length_nil,Nat.reduceAdd,Nat.reduceSub,List.replicate,List.cons_append,List.nil_append])
 (repeat(any_goals(first|((with_reducible refine Q1d ?_ ?_ ?_);rfl;rfl;intro K hK;((apply Q0x (h);rfl;rfl;rfl;rfl;exact Try.func17);kernel_rfl;rfl;(focus((simp only[go_sem]);(try rfl);done));(first|rfl|simp[AV.inNL,AV.inN]));(simp only[go_sem];refine hK _ ?_;clear hK K))|((with_reducible refine Q0g ?_ ?_);rfl;intro K hK;simp only[go_sem];((repeat(refine ndI (by first|assumption|omega|rfl) ?_));refine hK _ ?_;clear hK K))|(with_reducible first|(refine Q0i ?_;refine hR _ ?_;clear hR R)|((first|refine Q0h ?_|refine Q0c ?_);intro Ψ hΨ hΨ')|(refine Q0b ?_;intro R hR)|(refine hΨ _ ?_;clear hΨ hΨ' Ψ)|refine Q0d ?_|refine Q0j ?_|refine Q0e ?_)|((with_reducible refine hΨ' _ _ ?_ ?_);(focus(simp;done));clear hΨ hΨ' Ψ)|((with_reducible apply Q0f);rfl;rfl;all_goals(intro hc;first|(cases hc;done)|(try simp only at hc))))))
 all_goals(refine⟨by simp,⟨_,?_,AV.le_refl _⟩,Q0y (by simp[leH,hget])⟩;simp only[Try.results21,resL,ldA,Q1o,go_sem])
end Go.Proofs.Ytbmcdemnnbndeaa
namespace Go.Proofs.Ytbmcdemnnbndeaa
open Go.RowKit
open Nat (reduceBEq)
set_option maxRecDepth 20000
set_option maxHeartbeats 2000000
theorem Q4l(x y c:Int)(hx:0≤x)(hy:0≤y)(hc0:0≤c)(hc:c≤1):Ext Try.prog 18 [.int .u64 x,.int .u64 y,.int .u64 c] (.tup [.c (.v (.int .u64 (smI x y c))),.c (.v (.int .u64 (cyI x y c)))]):=
 add64_ext Try.func18 (by kernel_rfl) (by kernel_rfl) (by kernel_rfl) (by kernel_rfl) x y c hx hy hc0 hc
theorem cy01{x y c:Int}(hx:U x)(hy:U y)(h:0≤c∧c≤1):0≤cyI x y c∧cyI x y c≤1:=by unfold U at hx hy;unfold cyI;omega
theorem X0z(a b c d e f g h:Int)(u1:U a)(u2:U b)(u3:U c)(u4:U d)(u5:U e)(u6:U f)(u7:U g)(u8:U h):Fn Try.prog 17 [w4 a b c d,w4 e f g h,.fn 18 []] []
 (.tup [w4 (smI a e 0) (smI b f (cyI a e 0)) (smI c g (cyI b f (cyI a e 0))) (smI d h (cyI c g (cyI b f (cyI a e 0)))),vb (cyI d h (cyI c g (cyI b f (cyI a e 0))) != 0)]) []:=by
 have c1:=cy01 u1 u5 ⟨Int.le_refl 0,by decide⟩
 have c2:=cy01 u2 u6 c1
 have c3:=cy01 u3 u7 c2
 (refine Q1q Try.func17 rfl (by rfl) ?_;simp only[Try.ntmps17,List.length_cons,List.length_nil,Nat.reduceAdd,Nat.reduceSub,List.replicate,List.cons_append,List.nil_append])
 (repeat(any_goals(first|((with_reducible refine Q1d ?_ ?_ ?_);rfl;rfl;intro K hK;(first|(apply Q4w (Q4l a e 0 u1.1 u5.1 (Int.le_refl 0) (by decide));rfl;rfl;rfl;rfl;(focus(simp(disch:=omega) only[AV.ones,Option.map_some,go_sem,wrI,Int.reduceAdd];done)))|(apply Q4w (Q4l b f _ u2.1 u6.1 c1.1 c1.2);rfl;rfl;rfl;rfl;(focus(simp(disch:=omega) only[AV.ones,Option.map_some,go_sem,wrI,Int.reduceAdd];done)))|(apply Q4w (Q4l c g _ u3.1 u7.1 c2.1 c2.2);rfl;rfl;rfl;rfl;(focus(simp(disch:=omega) only[AV.ones,Option.map_some,go_sem,wrI,Int.reduceAdd];done)))|(apply Q4w (Q4l d h _ u4.1 u8.1 c3.1 c3.2);rfl;rfl;rfl;rfl;(focus(simp(disch:=omega) only[AV.ones,Option.map_some,go_sem,wrI,Int.reduceAdd];done))));(simp(disch:=omega) only[go_sem,wrI,Int.reduceAdd];refine hK _ ?_;clear hK K))|((with_reducible refine Q0g ?_ ?_);rfl;intro K hK;simp(disch:=omega) only[go_sem,wrI,Int.reduceAdd];((repeat(refine ndI (by first|assumption|omega|rfl) ?_));refine hK _ ?_;clear hK K))|(with_reducible first|(refine Q0i ?_;refine hR _ ?_;clear hR R)|((first|refine Q0h ?_|refine Q0c ?_);intro Ψ hΨ hΨ')|(refine Q0b ?_;intro R hR)|(refine hΨ _ ?_;clear hΨ hΨ' Ψ)|refine Q0d ?_|refine Q0j ?_|refine Q0e ?_)|((with_reducible refine hΨ' _ _ ?_ ?_);(focus(simp;done));clear hΨ hΨ' Ψ)|((with_reducible apply Q0f);rfl;rfl;all_goals(intro hc;first|(cases hc;done)|(try simp only at hc)))|(with_reducible refine Q3u 5 ?_)|((with_reducible refine Q4z ?_);intro Ψ hΨ hΨ')|((with_reducible refine Q0t ?_ ?_);kernel_rfl;(with_reducible refine hR _ ?_);clear hR R)|((first|((with_reducible apply Q1m);rfl;rfl;(first|(apply Q5m (Q4l a e 0 u1.1 u5.1 (Int.le_refl 0) (by decide));rfl;rfl;rfl;rfl;(focus(simp(disch:=omega) only[AV.ones,Option.map_some,go_sem,wrI,Int.reduceAdd];done)))|(apply Q5m (Q4l b f _ u2.1 u6.1 c1.1 c1.2);rfl;rfl;rfl;rfl;(focus(simp(disch:=omega) only[AV.ones,Option.map_some,go_sem,wrI,Int.reduceAdd];done)))|(apply Q5m (Q4l c g _ u3.1 u7.1 c2.1 c2.2);rfl;rfl;rfl;rfl;(focus(simp(disch:=omega) only[AV.ones,Option.map_some,go_sem,wrI,Int.reduceAdd];done)))|(apply Q5m (Q4l d h _ u4.1 u8.1 c3.1 c3.2);rfl;rfl;rfl;rfl;(focus(simp(disch:=omega) only[AV.ones,Option.map_some,go_sem,wrI,Int.reduceAdd];done)))))|((with_reducible apply Q0u);rfl;rfl;(simp(disch:=omega) only[rdE,rdOf,go_sem,wrI,Int.reduceAdd];rfl);(intro τ hA hQ hN;((try simp only[Q1h,Op.operands,Call.operands,go_sem,wrI,Int.reduceAdd,go_sem,List.mem_cons,List.not_mem_nil,forall_eq_or_imp,forall_eq,List.append_toArray,Option.toArray] at hA);(try simp only[go_sem,wrI,Int.reduceAdd,List.mem_cons,List.not_mem_nil,forall_eq_or_imp,forall_eq] at hQ hN);(first|(revert hA;intro hA)|have hA:=trivial);(first|(revert hQ;intro hQ)|have hQ:=trivial);(first|(revert hN;intro hN)|have hN:=trivial);simp(disch:=omega) only[go_sem,wrI,Int.reduceAdd,go_sem,hA,hQ,hN];(repeat(refine ndI (by first|assumption|omega|rfl) ?_));(first|apply Q1b|apply Q1a|apply Q0w)))));(simp(disch:=omega) only[St.eff,setO,Q0q,go_sem,wrI,Int.reduceAdd]))|((with_reducible refine Q0p ?_ ?_ ?_ ?_);kernel_rfl;kernel_rfl;(first|kernel_rfl|simp[Q0m,Q1j,St.free,Q1i,AV.refsL,AV.refs]);intro R hR))))
 all_goals(refine⟨by simp,⟨_,?_,AV.le_refl _⟩,Q0y (by simp[leH,hget])⟩;simp only[Try.results17,resL,ldA,Q1o,go_sem])
theorem add_nat{x y a0 a1 a2 a3 b0 b1 b2 b3:Nat}(hx:x=a0+18446744073709551616*(a1+18446744073709551616*(a2+18446744073709551616*a3)))(hy:y=b0+18446744073709551616*(b1+18446744073709551616*(b2+18446744073709551616*b3)))
 {s0 s1 s2 s3 c1 c2 c3 c4:Nat} (e0:a0+b0=s0+18446744073709551616*c1) (e1:a1+b1+c1=s1+18446744073709551616*c2) (e2:a2+b2+c2=s2+18446744073709551616*c3) (e3:a3+b3+c3=s3+18446744073709551616*c4)
 (h0:s0<18446744073709551616) (h1:s1<18446744073709551616) (h2:s2<18446744073709551616) (h3:s3<18446744073709551616) :
 (x+y)%WW=s0+18446744073709551616*(s1+18446744073709551616*(s2+18446744073709551616*s3))∧(x+y)/WW=c4:=by
 unfold WW
 omega
theorem Q9z{a b c:Nat}:smI a b c=(((a+b+c)%18446744073709551616:Nat):Int):=by unfold smI;omega
theorem X0x{a b c:Nat}:cyI a b c=(((a+b+c)/18446744073709551616:Nat):Int):=by unfold cyI;omega
theorem X5b(x y:Nat)(hx:x<WW)(hy:y<WW):Fn Try.prog 7 [wN x,wN y] [] (.tup [wN ((x+y)%WW),vb (decide (WW≤x+y))]) []:=by
 have h:=X0z (l0 x) (l1 x) (l2 x) (l3 x) (l0 y) (l1 y) (l2 y) (l3 y) (U0 x) (U1 x) (U2 x) (U3 x) (U0 y) (U1 y) (U2 y) (U3 y)
 obtain⟨a,b,c,d,ex,ha,hb,hc,hd,e0,e1,e2,e3⟩:=Q5f hx
 obtain⟨a',b',c',d',ey,ha',hb',hc',hd',f0,f1,f2,f3⟩:=Q5f hy
 rw[e0,e1,e2,e3,f0,f1,f2,f3] at h
 have z:(0:Int)=((0:Nat):Int):=rfl
 rw[z,Q9z,X0x,Q9z,X0x,Q9z,X0x,Q9z,X0x] at h
 obtain⟨s0,hs0⟩:∃s,(a+a'+0)%18446744073709551616=s:=⟨_,rfl⟩
 obtain⟨c1,hc1⟩:∃s,(a+a'+0)/18446744073709551616=s:=⟨_,rfl⟩
 rw[hs0,hc1] at h
 obtain⟨s1,hs1⟩:∃s,(b+b'+c1)%18446744073709551616=s:=⟨_,rfl⟩
 obtain⟨c2,hc2⟩:∃s,(b+b'+c1)/18446744073709551616=s:=⟨_,rfl⟩
 rw[hs1,hc2] at h
 obtain⟨s2,hs2⟩:∃s,(c+c'+c2)%18446744073709551616=s:=⟨_,rfl⟩
 obtain⟨c3,hc3⟩:∃s,(c+c'+c2)/18446744073709551616=s:=⟨_,rfl⟩
 rw[hs2,hc3] at h
 obtain⟨s3,hs3⟩:∃s,(d+d'+c3)%18446744073709551616=s:=⟨_,rfl⟩
 obtain⟨c4,hc4⟩:∃s,(d+d'+c3)/18446744073709551616=s:=⟨_,rfl⟩
 rw[hs3,hc4] at h
 have k0:s0<18446744073709551616:=by omega
 have k1:s1<18446744073709551616:=by omega
 have k2:s2<18446744073709551616:=by omega
 have k3:s3<18446744073709551616:=by omega
 obtain⟨g1,g2⟩:=add_nat ex ey (s0:=s0) (c1:=c1) (s1:=s1) (c2:=c2) (s2:=s2) (c3:=c3) (s3:=s3) (c4:=c4) (by omega) (by omega) (by omega) (by omega) k0 k1 k2 k3
 obtain⟨m0,m1,m2,m3⟩:=Q8b g1 k0 k1 k2 k3
 rw[←m0,←m1,←m2,←m3] at h
 have hq:(((c4:Nat):Int) != ((0:Nat):Int))=decide (WW≤x+y):=by
  rw[Bool.eq_iff_iff]
  simp only[bne_iff_ne,ne_eq,decide_eq_true_eq]
  rw[←g2]
  constructor
  · intro h'
    rcases Nat.lt_or_ge (x+y) WW with h|h
    · exact absurd (by rw[Nat.div_eq_of_lt h]) h'
    · exact h
  · intro h' h''
    have:0<(x+y)/WW:=Nat.div_pos h' (by decide)
    omega
 rw[hq] at h
 rw[←e0,←e1,←e2,←e3,←f0,←f1,←f2,←f3] at h
 obtain⟨q,hq'⟩:∃q,decide (WW≤x+y)=q:=⟨_,rfl⟩
 obtain⟨n,hn⟩:∃n,(x+y)%WW=n:=⟨_,rfl⟩
 rw[hq',hn] at h ⊢
 (refine Q1q Try.func7 rfl (by rfl) ?_;simp only[Try.ntmps7,List.length_cons,List.length_nil,Nat.reduceAdd,Nat.reduceSub,List.replicate,List.cons_append,List.nil_append])
 (repeat(any_goals(first|((with_reducible refine Q1d ?_ ?_ ?_);rfl;rfl;intro K hK;((apply Q0x (h);rfl;rfl;rfl;rfl;exact Try.func17);kernel_rfl;rfl;(focus((simp only[go_sem]);(try rfl);done));(first|rfl|simp[AV.inNL,AV.inN]));(simp only[go_sem];refine hK _ ?_;clear hK K))|((with_reducible refine Q0g ?_ ?_);rfl;intro K hK;simp only[go_sem];((repeat(refine ndI (by first|assumption|omega|rfl) ?_));refine hK _ ?_;clear hK K))|(with_reducible first|(refine Q0i ?_;refine hR _ ?_;clear hR R)|((first|refine Q0h ?_|refine Q0c ?_);intro Ψ hΨ hΨ')|(refine Q0b ?_;intro R hR)|(refine hΨ _ ?_;clear hΨ hΨ' Ψ)|refine Q0d ?_|refine Q0j ?_|refine Q0e ?_)|((with_reducible refine hΨ' _ _ ?_ ?_);(focus(simp;done));clear hΨ hΨ' Ψ)|((with_reducible apply Q0f);rfl;rfl;all_goals(intro hc;first|(cases hc;done)|(try simp only at hc))))))
 all_goals(refine⟨by simp,⟨_,?_,AV.le_refl _⟩,Q0y (by simp[leH,hget])⟩;simp only[Try.results7,resL,ldA,Q1o,go_sem])
end Go.Proofs.Ytbmcdemnnbndeaa
namespace Go.Proofs.Ytbmcdemnnbndeaa
open Go.RowKit
open Nat (reduceBEq)
set_option maxRecDepth 20000
set_option maxHeartbeats 2000000
def wpv(x:Nat):List PV:=[.v (.int .u64 (l0 x)),.v (.int .u64 (l1 x)),.v (.int .u64 (l2 x)),.v (.int .u64 (l3 x))]
abbrev wsl(ex:Bool)(l:List Nat):AV:=.c (.sl ex 4 l.length (l.flatMap wpv))
theorem Q5d(x:Nat):(wpv x).length=4:=rfl
theorem wsl_at{l:List Nat}{i:Nat}{y:Nat}(h:l[i]? = some y):((l.flatMap wpv).drop (i*4)).take 4=[.v (.int .u64 (l0 y)),.v (.int .u64 (l1 y)),.v (.int .u64 (l2 y)),.v (.int .u64 (l3 y))]:=Q4y (f:=wpv) Q5d h
def rcW(l:List Nat):List AV:=(l.flatMap wpv).map .c
theorem Q8k(l:List Nat):(rcW l).length=l.length*4:=by unfold rcW;rw[List.length_map,Q1u Q5d]
theorem Q4u(ρ : Nat→Nat)(l:List Nat):AV.renL ρ (rcW l)=rcW l:=Q1c _ _
theorem Q6f(N:List Nat)(l:List Nat):AV.inNL N (rcW l)=true:=Q1k _ _
theorem X1h(ex:Bool)(l:List Nat)(hl:l.length≤1000)(hw:∀x∈l,x<WW):Fn Try.prog 19 [wsl ex l] [] (.tup [wN (l.sum%WW),vb (decide (WW≤l.sum))]) []:=by
 have hW:0<WW:=by decide
 obtain⟨tn,htn⟩:∃n,l.sum%WW=n:=⟨_,rfl⟩
 obtain⟨tq,htq⟩:∃q,decide (WW≤l.sum)=q:=⟨_,rfl⟩
 rw[htn,htq]
 (refine Q1q Try.func19 rfl (by rfl) ?_;simp only[Try.ntmps19,List.length_cons,List.length_nil,Nat.reduceAdd,Nat.reduceSub,List.replicate,List.cons_append,List.nil_append])
 (repeat(any_goals(first|((with_reducible refine Q0g ?_ ?_);rfl;intro K hK;simp only[go_sem];((repeat(refine ndI (by first|assumption|omega|rfl) ?_));refine hK _ ?_;clear hK K))|(with_reducible first|(refine Q0i ?_;refine hR _ ?_;clear hR R)|((first|refine Q0h ?_|refine Q0c ?_);intro Ψ hΨ hΨ')|(refine Q0b ?_;intro R hR)|(refine hΨ _ ?_;clear hΨ hΨ' Ψ)|refine Q0d ?_|refine Q0j ?_|refine Q0e ?_)|((with_reducible refine hΨ' _ _ ?_ ?_);(focus(simp;done));clear hΨ hΨ' Ψ)|((with_reducible apply Q1e);rfl;rfl;rfl;(try simp only[go_sem]))|((with_reducible apply Q1l);rfl;rfl;rfl;all_goals(intro hb;first|(cases hb;done)|((try simp only[Bool.not_true,Bool.not_false] at hb);(first|((with_reducible intro K hK);simp only[go_sem];((repeat(refine ndI (by first|assumption|omega|rfl) ?_));refine hK _ ?_;clear hK K))|((fail_if_success (with_reducible intro _));simp only[go_sem])))))|((with_reducible apply Q0f);rfl;rfl;all_goals(intro hc;first|(cases hc;done)|(try simp only at hc))))))
 refine Q2v (α:={p:Nat×Nat×Bool // p.1≤l.length∧p.2.1=(l.take p.1).sum%WW∧p.2.2=decide (WW≤(l.take p.1).sum)}) (fun p=>⟨[wsl ex l,.any,.ptr 2 0,.any,.ptr 4 0,vb p.1.2.2,.any,.any,.any,.any,wsl ex l,vi .i64 l.length,vi .i64 p.1.1,.any,.any,.any,.any,.any,.any,.any,.any,.any,.any,.any,.any,.any,.any,.any,.any,.any],[(2,[vi .u64 0,vi .u64 0,vi .u64 0,vi .u64 0]),(4,[vi .u64 (l0 p.1.2.1),vi .u64 (l1 p.1.2.1),vi .u64 (l2 p.1.2.1),vi .u64 (l3 p.1.2.1)])]⟩) (fun p=>l.length-p.1.1) ⟨(0,0,false),Nat.zero_le _,by simp,by simp[WW]⟩ (St.le_of (by simp[leT]) (by simp[leH,hget,Q4i,Q4h,Q4g,Q4f])) ?_
 rintro ⟨⟨i,n,q⟩,hi,hn,hq⟩ Ψ hΨ hΨ'
 dsimp only at hi hn hq hΨ ⊢
 rcases Nat.lt_or_ge i l.length with hlt|hge
 · obtain⟨y,hy⟩:∃y,l[i]? = some y:=⟨l[i],List.getElem?_eq_getElem hlt⟩
   have k1:(decide ((i:Int)<(l.length:Int)))=true:=by simpa using hlt
   have k2:=wsl_at hy
   have k7:(i:Int)+1=((i+1:Nat):Int):=by omega
   have hnw:n<WW:=by rw[hn];exact Nat.mod_lt _ hW
   have hyw:=hw y (List.mem_of_getElem? hy)
   have ad:=X5b n y hnw hyw
   have hs:(l.take (i+1)).sum=(l.take i).sum+y:=by rw[List.take_add_one,hy];simp
   have h1:(n+y)%WW=(l.take (i+1)).sum%WW:=by rw[hs,hn,Nat.add_mod];simp
   have h2:(q||decide (WW≤n+y))=decide (WW≤(l.take (i+1)).sum):=by
    rw[Bool.eq_iff_iff,hq,hs]
    simp only[Bool.or_eq_true,decide_eq_true_eq]
    rcases Nat.lt_or_ge (l.take i).sum WW with h|h
    · rw[hn,Nat.mod_eq_of_lt h];omega
    · omega
   obtain⟨m,hm⟩:∃m,(n+y)%WW=m:=⟨_,rfl⟩
   obtain⟨b,hb⟩:∃b,decide (WW≤n+y)=b:=⟨_,rfl⟩
   rw[hm,hb] at ad
   rw[hm] at h1
   rw[hb] at h2
   cases q with
   |true=>
    (have W:=ndI k1 (ndI k2 (ndI k7 @wrI));(repeat(any_goals(first|((with_reducible refine Q1d ?_ ?_ ?_);rfl;rfl;intro K hK;((apply Q0x (ad);rfl;rfl;rfl;rfl;exact Try.func7);kernel_rfl;rfl;(focus((simp(disch:=omega) only[go_sem,W]);(try rfl);done));(first|rfl|simp[AV.inNL,AV.inN]));(simp(disch:=omega) only[go_sem,W];refine hK _ ?_;clear hK K))|((with_reducible refine Q0g ?_ ?_);rfl;intro K hK;simp(disch:=omega) only[go_sem,W];((repeat(refine ndI (by first|assumption|omega|rfl) ?_));refine hK _ ?_;clear hK K))|(with_reducible first|(refine Q0i ?_;refine hR _ ?_;clear hR R)|((first|refine Q0h ?_|refine Q0c ?_);intro Ψ hΨ hΨ')|(refine Q0b ?_;intro R hR)|(refine hΨ _ ?_;clear hΨ hΨ' Ψ)|refine Q0d ?_|refine Q0j ?_|refine Q0e ?_)|((with_reducible refine hΨ' _ _ ?_ ?_);(focus(simp;done));clear hΨ hΨ' Ψ)|((with_reducible apply Q1e);rfl;rfl;rfl;(try simp(disch:=omega) only[go_sem,W]))|((with_reducible apply Q1l);rfl;rfl;rfl;all_goals(intro hb;first|(cases hb;done)|((try simp only[Bool.not_true,Bool.not_false] at hb);(first|((with_reducible intro K hK);simp(disch:=omega) only[go_sem,W];((repeat(refine ndI (by first|assumption|omega|rfl) ?_));refine hK _ ?_;clear hK K))|((fail_if_success (with_reducible intro _));simp(disch:=omega) only[go_sem,W])))))|((with_reducible apply Q0f);rfl;rfl;all_goals(intro hc;first|(cases hc;done)|(try simp only at hc)))))))
    exact hΨ _ ⟨(i+1,m,true),hlt,h1,by simpa using h2⟩ (by simp only;omega) (St.le_of (by simp[leT]) (by simp[leH,hget]))
   |false=>
    (have W:=ndI k1 (ndI k2 (ndI k7 @wrI));(repeat(any_goals(first|((with_reducible refine Q1d ?_ ?_ ?_);rfl;rfl;intro K hK;((apply Q0x (ad);rfl;rfl;rfl;rfl;exact Try.func7);kernel_rfl;rfl;(focus((simp(disch:=omega) only[go_sem,W]);(try rfl);done));(first|rfl|simp[AV.inNL,AV.inN]));(simp(disch:=omega) only[go_sem,W];refine hK _ ?_;clear hK K))|((with_reducible refine Q0g ?_ ?_);rfl;intro K hK;simp(disch:=omega) only[go_sem,W];((repeat(refine ndI (by first|assumption|omega|rfl) ?_));refine hK _ ?_;clear hK K))|(with_reducible first|(refine Q0i ?_;refine hR _ ?_;clear hR R)|((first|refine Q0h ?_|refine Q0c ?_);intro Ψ hΨ hΨ')|(refine Q0b ?_;intro R hR)|(refine hΨ _ ?_;clear hΨ hΨ' Ψ)|refine Q0d ?_|refine Q0j ?_|refine Q0e ?_)|((with_reducible refine hΨ' _ _ ?_ ?_);(focus(simp;done));clear hΨ hΨ' Ψ)|((with_reducible apply Q1e);rfl;rfl;rfl;(try simp(disch:=omega) only[go_sem,W]))|((with_reducible apply Q1l);rfl;rfl;rfl;all_goals(intro hb;first|(cases hb;done)|((try simp only[Bool.not_true,Bool.not_false] at hb);(first|((with_reducible intro K hK);simp(disch:=omega) only[go_sem,W];((repeat(refine ndI (by first|assumption|omega|rfl) ?_));refine hK _ ?_;clear hK K))|((fail_if_success (with_reducible intro _));simp(disch:=omega) only[go_sem,W])))))|((with_reducible apply Q0f);rfl;rfl;all_goals(intro hc;first|(cases hc;done)|(try simp only at hc)))))))
    exact hΨ _ ⟨(i+1,m,b),hlt,h1,by simpa using h2⟩ (by simp only;omega) (St.le_of (by simp[leT]) (by simp[leH,hget]))
 · have k1:(decide ((i:Int)<(l.length:Int)))=false:=by simpa using hge
   have e:l.take i=l:=List.take_of_length_le hge
   rw[e,htn] at hn
   rw[e,htq] at hq
   rw[hn,hq]
   (repeat(any_goals(first|((with_reducible refine Q0g ?_ ?_);rfl;intro K hK;simp only[go_sem,k1];((repeat(refine ndI (by first|assumption|omega|rfl) ?_));refine hK _ ?_;clear hK K))|(with_reducible first|(refine Q0i ?_;refine hR _ ?_;clear hR R)|((first|refine Q0h ?_|refine Q0c ?_);intro Ψ hΨ hΨ')|(refine Q0b ?_;intro R hR)|(refine hΨ _ ?_;clear hΨ hΨ' Ψ)|refine Q0d ?_|refine Q0j ?_|refine Q0e ?_)|((with_reducible refine hΨ' _ _ ?_ ?_);(focus(simp;done));clear hΨ hΨ' Ψ)|((with_reducible apply Q1e);rfl;rfl;rfl;(try simp only[go_sem,k1]))|((with_reducible apply Q1l);rfl;rfl;rfl;all_goals(intro hb;first|(cases hb;done)|((try simp only[Bool.not_true,Bool.not_false] at hb);(first|((with_reducible intro K hK);simp only[go_sem,k1];((repeat(refine ndI (by first|assumption|omega|rfl) ?_));refine hK _ ?_;clear hK K))|((fail_if_success (with_reducible intro _));simp only[go_sem,k1])))))|((with_reducible apply Q0f);rfl;rfl;all_goals(intro hc;first|(cases hc;done)|(try simp only at hc))))))
   all_goals(refine⟨by simp,⟨_,?_,AV.le_refl _⟩,Q0y (by simp[leH,hget])⟩;simp only[Try.results19,resL,ldA,Q1o,go_sem])
end Go.Proofs.Ytbmcdemnnbndeaa
namespace Go.Proofs.Ytbmcdemnnbndeaa
open Go.RowKit
open Nat (reduceBEq)
set_option maxRecDepth 20000
set_option maxHeartbeats 2000000
theorem X4y(x y:Nat)(hx:x<WW)(hy:y<WW):Fn Try.prog 32 [wN x,wN y] [] (vi .i64 (if x<y then -1 else if y<x then 1 else 0)) []:=by
 have h:∀a b c d e f g h:Int,Fn Try.prog 32 [w4 a b c d,w4 e f g h] [] (vi .i64 (if d<h then -1 else if h<d then 1 else if c<g then -1 else if g<c then 1 else if b<f then -1 else if f<b then 1 else if a<e then -1 else if e<a then 1 else 0)) []:=by
  intro a b c d e f g h
  (refine Q1q Try.func32 rfl (by rfl) ?_;simp only[Try.ntmps32,List.length_cons,List.length_nil,Nat.reduceAdd,Nat.reduceSub,List.replicate,List.cons_append,List.nil_append])
  (repeat(any_goals(first|((with_reducible refine Q0g ?_ ?_);rfl;intro K hK;simp(disch:=omega) only[go_sem,wrI,Int.reduceSub,Int.reduceNeg,Int.reduceGE,decide_true,decide_false,ge_iff_le,gt_iff_lt];((repeat(refine ndI (by first|assumption|omega|rfl) ?_));refine hK _ ?_;clear hK K))|(with_reducible first|(refine Q0i ?_;refine hR _ ?_;clear hR R)|((first|refine Q0h ?_|refine Q0c ?_);intro Ψ hΨ hΨ')|(refine Q0b ?_;intro R hR)|(refine hΨ _ ?_;clear hΨ hΨ' Ψ)|refine Q0d ?_|refine Q0j ?_|refine Q0e ?_)|((with_reducible refine hΨ' _ _ ?_ ?_);(focus(simp;done));clear hΨ hΨ' Ψ)|((with_reducible apply Q0f);rfl;rfl;all_goals(intro hc;first|(cases hc;done)|(try simp only at hc)))|(with_reducible refine Q3u 5 ?_)|((with_reducible refine Q4z ?_);intro Ψ hΨ hΨ')|((with_reducible refine Q0t ?_ ?_);kernel_rfl;(with_reducible refine hR _ ?_);clear hR R)|(((with_reducible apply Q0u);rfl;rfl;(simp(disch:=omega) only[rdE,rdOf,go_sem,wrI,Int.reduceSub,Int.reduceNeg,Int.reduceGE,decide_true,decide_false,ge_iff_le,gt_iff_lt];rfl);(intro τ hA hQ hN;((try simp only[Q1h,Op.operands,Call.operands,go_sem,wrI,Int.reduceSub,Int.reduceNeg,Int.reduceGE,decide_true,decide_false,ge_iff_le,gt_iff_lt,go_sem,List.mem_cons,List.not_mem_nil,forall_eq_or_imp,forall_eq,List.append_toArray,Option.toArray] at hA);(try simp only[go_sem,wrI,Int.reduceSub,Int.reduceNeg,Int.reduceGE,decide_true,decide_false,ge_iff_le,gt_iff_lt,List.mem_cons,List.not_mem_nil,forall_eq_or_imp,forall_eq] at hQ hN);(first|(revert hA;intro hA)|have hA:=trivial);(first|(revert hQ;intro hQ)|have hQ:=trivial);(first|(revert hN;intro hN)|have hN:=trivial);simp(disch:=omega) only[go_sem,wrI,Int.reduceSub,Int.reduceNeg,Int.reduceGE,decide_true,decide_false,ge_iff_le,gt_iff_lt,go_sem,hA,hQ,hN];(repeat(refine ndI (by first|assumption|omega|rfl) ?_));(first|apply Q1b|apply Q1a|apply Q0w))));(simp(disch:=omega) only[St.eff,setO,Q0q,go_sem,wrI,Int.reduceSub,Int.reduceNeg,Int.reduceGE,decide_true,decide_false,ge_iff_le,gt_iff_lt]))|((with_reducible refine Q0p ?_ ?_ ?_ ?_);kernel_rfl;kernel_rfl;(first|kernel_rfl|simp[Q0m,Q1j,St.free,Q1i,AV.refsL,AV.refs]);intro R hR))))
  all_goals(refine⟨by simp,⟨_,?_,AV.le_refl _⟩,Q0y (by simp[leH,hget])⟩;simp only[Try.results32,resL,ldA,Q1o,go_sem])
  all_goals simp_all
  all_goals(repeat' split)<;>first|rfl|omega
 have h1:=h (l0 x) (l1 x) (l2 x) (l3 x) (l0 y) (l1 y) (l2 y) (l3 y)
 obtain⟨a,b,c,d,ex,ha,hb,hc,hd,e0,e1,e2,e3⟩:=Q5f hx
 obtain⟨a',b',c',d',ey,ha',hb',hc',hd',f0,f1,f2,f3⟩:=Q5f hy
 have e:(if l3 x<l3 y then(-1:Int) else if l3 y<l3 x then 1 else if l2 x<l2 y then -1 else if l2 y<l2 x then 1 else if l1 x<l1 y then -1 else if l1 y<l1 x then 1 else if l0 x<l0 y then -1 else if l0 y<l0 x then 1 else 0)=(if x<y then -1 else if y<x then 1 else 0):=by
  rw[e0,e1,e2,e3,f0,f1,f2,f3]
  clear h1 h e0 e1 e2 e3 f0 f1 f2 f3 hx hy
  subst ex ey
  repeat' split
  all_goals first|rfl|omega
 rw[e] at h1
 exact h1
end Go.Proofs.Ytbmcdemnnbndeaa
namespace Go.Proofs.Ytbmcdemnnbndeaa
open Go.RowKit
open Nat (reduceBEq)
set_option maxRecDepth 20000
set_option maxHeartbeats 2000000
structure Pr where
 k:Nat
 v:Nat
def Pr.ok(p:Pr):Prop:=p.k<WW∧p.v<WW
def Pr.pv(p:Pr):List PV:=[.v (.int .u64 (l0 p.k)),.v (.int .u64 (l1 p.k)),.v (.int .u64 (l2 p.k)),.v (.int .u64 (l3 p.k)),.v (.int .u64 (l0 p.v)),.v (.int .u64 (l1 p.v)),.v (.int .u64 (l2 p.v)),.v (.int .u64 (l3 p.v))]
theorem X4k(p:Pr):p.pv.length=8:=rfl
def bpv(b:Nat):List PV:=[.v (.int .u8 (b:Int))]
theorem X3y(b:Nat):(bpv b).length=1:=rfl
abbrev bsV(l:List Nat):PV:=.sl false 1 l.length (l.flatMap bpv)
abbrev psV(l:List Pr):PV:=.sl false 8 l.length (l.flatMap Pr.pv)
structure Ac where
 a:Int
 b:Nat
 n:Int
 code:List Nat
 store:List Pr
def Ac.ok(x:Ac):Prop:=U x.a∧x.b<WW∧U x.n∧(x.code.length≤maxLen∧∀c∈x.code,c<256)∧x.store.length≤maxLen∧∀p∈x.store,p.ok
def Ac.pv(x:Ac):List PV:=[.v (.int .u64 x.a),.v (.int .u64 (l0 x.b)),.v (.int .u64 (l1 x.b)),.v (.int .u64 (l2 x.b)),.v (.int .u64 (l3 x.b)),.v (.int .u64 x.n),bsV x.code,psV x.store]
theorem ac_len(x:Ac):x.pv.length=8:=rfl
abbrev ac8(a:Int)(b:Nat)(n:Int)(c s:PV):List AV:=[vi .u64 a,vi .u64 (l0 b),vi .u64 (l1 b),vi .u64 (l2 b),vi .u64 (l3 b),vi .u64 n,.c c,.c s]
abbrev acA(x:Ac):AV:=.agg (ac8 x.a x.b x.n (bsV x.code) (psV x.store))
abbrev acS(ex:Bool)(l:List Ac):AV:=.c (.sl ex 8 l.length (l.flatMap Ac.pv))
abbrev stA(ex:Bool)(l:List Ac):AV:=.agg [acS ex l]
theorem ps_at{l:List Pr}{i:Nat}{y:Pr}(h:l[i]? = some y):((l.flatMap Pr.pv).drop (i*8)).take 8=[.v (.int .u64 (l0 y.k)),.v (.int .u64 (l1 y.k)),.v (.int .u64 (l2 y.k)),.v (.int .u64 (l3 y.k)),.v (.int .u64 (l0 y.v)),.v (.int .u64 (l1 y.v)),.v (.int .u64 (l2 y.v)),.v (.int .u64 (l3 y.v))]:=Q4y (f:=Pr.pv) X4k h
theorem X2w{l:List Ac}{i:Nat}{y:Ac}(h:l[i]? = some y):((l.flatMap Ac.pv).drop (i*8)).take 8=[.v (.int .u64 y.a),.v (.int .u64 (l0 y.b)),.v (.int .u64 (l1 y.b)),.v (.int .u64 (l2 y.b)),.v (.int .u64 (l3 y.b)),.v (.int .u64 y.n),bsV y.code,psV y.store]:=Q4y (f:=Ac.pv) ac_len h
def okP(st:List Pr)(j:Nat):Bool:=match st[j]? with
 |none=>true
 |some p=>decide (p.v≠0)&&(decide (j=0)||match st[j-1]? with
  |some q=>decide (q.k<p.k)
  |none=>true)
def okTo(st:List Pr):Nat→Bool
 |0=>true
 |i+1=>okTo st i&&okP st i
def okAc(x:Ac):Bool:=decide (x.a≠0)&&decide (x.code.length≤200)&&decide (x.store.length≤24)&&okTo x.store x.store.length
theorem okP_zero{st:List Pr}{p:Pr}(h:st[0]? = some p):okP st 0=decide (p.v≠0):=by
 unfold okP;rw[h];simp
theorem okP_succ{st:List Pr}{j:Nat}{q p:Pr}(hq:st[j]? = some q)(hp:st[j+1]? = some p):okP st (j+1)=(decide (p.v≠0)&&decide (q.k<p.k)):=by
 unfold okP;rw[hp];simp[hq]
theorem zero_dec{x:Nat}(hx:x<WW):(l0 x==0&&(l1 x==0&&(l2 x==0&&l3 x==0))) = !decide (x≠0):=by
 rw[X2z hx]
 by_cases h:x=0<;>simp[h]
theorem check_no(x:Ac)(hl:x.store.length≤maxLen)(hc:x.code.length≤maxLen)(h0:(decide (x.a≠0)&&decide (x.code.length≤200)&&decide (x.store.length≤24))=false):Fn Try.prog 61 [acA x] [] (vi .i64 161) []:=by
 obtain⟨a,b,n,code,store⟩:=x
 dsimp only at hl hc h0
 obtain⟨p1,e1⟩:∃p,decide (a≠0)=p:=⟨_,rfl⟩
 obtain⟨p2,e2⟩:∃p,decide (code.length≤200)=p:=⟨_,rfl⟩
 obtain⟨p3,e3⟩:∃p,decide (store.length≤24)=p:=⟨_,rfl⟩
 have f1:(a != 0)=p1:=by rw[←e1];by_cases h:a=0<;>simp[h]
 have f2:decide ((code.length:Int)≤200)=p2:=by rw[←e2];exact decide_eq_decide.2 (by omega)
 have f3:decide ((store.length:Int)≤24)=p3:=by rw[←e3];exact decide_eq_decide.2 (by omega)
 rw[e1,e2,e3] at h0
 clear e1 e2 e3
 have hlv:store.length<9223372036854775808:=Nat.lt_succ_of_le hl
 (refine Q1q Try.func61 rfl (by rfl) ?_;simp only[Try.ntmps61,List.length_cons,List.length_nil,Nat.reduceAdd,Nat.reduceSub,List.replicate,List.cons_append,List.nil_append])
 (have W:=ndI f1 (ndI f2 f3);(repeat(any_goals(first|((with_reducible refine Q0g ?_ ?_);rfl;intro K hK;simp only[go_sem,W];((repeat(refine ndI (by first|assumption|omega|rfl) ?_));refine hK _ ?_;clear hK K))|(with_reducible first|(refine Q0i ?_;refine hR _ ?_;clear hR R)|((first|refine Q0h ?_|refine Q0c ?_);intro Ψ hΨ hΨ')|(refine Q0b ?_;intro R hR)|(refine hΨ _ ?_;clear hΨ hΨ' Ψ)|refine Q0d ?_|refine Q0j ?_|refine Q0e ?_)|((with_reducible refine hΨ' _ _ ?_ ?_);(focus(simp;done));clear hΨ hΨ' Ψ)|((with_reducible apply Q1e);rfl;rfl;rfl;(try simp only[go_sem,W]))|((with_reducible apply Q1l);rfl;rfl;rfl;all_goals(intro hb;first|(cases hb;done)|((try simp only[Bool.not_true,Bool.not_false] at hb);(first|((with_reducible intro K hK);simp only[go_sem,W];((repeat(refine ndI (by first|assumption|omega|rfl) ?_));refine hK _ ?_;clear hK K))|((fail_if_success (with_reducible intro _));simp only[go_sem,W])))))|((with_reducible apply Q0f);rfl;rfl;all_goals(intro hc;first|(cases hc;done)|(try simp only at hc)))|((with_reducible refine Q0t ?_ ?_);kernel_rfl;(with_reducible refine hR _ ?_);clear hR R)|((first|((with_reducible apply Q0r);rfl;rfl;rfl;rfl)|((with_reducible apply Q0n);rfl;rfl;rfl)|((first|((with_reducible apply Q0u);rfl;rfl)|((with_reducible apply Q0s);rfl;rfl;rfl;rfl;rfl));(simp only[rdE,rdOf,go_sem,W];rfl);(intro τ hA hQ hN;((try simp only[Q1h,Op.operands,Call.operands,go_sem,W,go_sem,List.mem_cons,List.not_mem_nil,forall_eq_or_imp,forall_eq,List.append_toArray,Option.toArray] at hA);(try simp only[go_sem,W,List.mem_cons,List.not_mem_nil,forall_eq_or_imp,forall_eq] at hQ hN);(first|(revert hA;intro hA)|have hA:=trivial);(first|(revert hQ;intro hQ)|have hQ:=trivial);(first|(revert hN;intro hN)|have hN:=trivial);simp only[go_sem,W,go_sem,hA,hQ,hN];(repeat(refine ndI (by first|assumption|omega|rfl) ?_));(first|apply Q1b|apply Q1a|apply Q0w)))));(simp only[St.eff,setO,Q0q,go_sem,W]))|((with_reducible apply Q0o);rfl;rfl;rfl;all_goals intro hb;all_goals(simp only[St.eff,setO,Q0q,go_sem,W]))|((with_reducible refine Q0p ?_ ?_ ?_ ?_);kernel_rfl;kernel_rfl;(first|kernel_rfl|simp[Q0m,Q1j,St.free,Q1i,AV.refsL,AV.refs]);intro R hR)))))
 all_goals refine Q5a store.length (fun i=>⟨[.any,.ptr 1 0,vi .i64 0,vb false,.any,.any,.any,.any,.any,.any,.any,.any,.any,.any,.any,.any,.any,.any,.any,.any,.any,.any,.c (psV store),vi .i64 store.length,vi .i64 (i:Int),.any,.any,.any,.any,.any,.any,.any,.any,.any,.any,.any,.any,.any,.any,.any,.any,.any,.any,.any,.any,.any,.any,.any,.any,.any,.any,.any,.any,.any,.any,.any],[(1,ac8 a b n (bsV code) (psV store))]⟩) (St.le_of (by simp_all [leT]) (by simp[leH,hget])) ?_
 all_goals intro i hi Ψ hΨ hΨ'
 all_goals(try dsimp only at hΨ ⊢)
 all_goals rcases Nat.lt_or_ge i store.length with hlt|hge
 all_goals first
  |(have k1:(decide ((i:Int)<(store.length:Int)))=true:=decide_eq_true (by omega))
  |(have k1:(decide ((i:Int)<(store.length:Int)))=false:=decide_eq_false (by omega))
 all_goals first
  |(have hx:=hlt
    obtain⟨p,hp⟩:∃p,store[i]? = some p:=⟨_,List.getElem?_eq_getElem hx⟩
    have k2:=ps_at hp)
  |(have k2:=True.intro)
 all_goals have k7:(i:Int)+1=((i+1:Nat):Int):=by omega
 all_goals(have W:=ndI k1 (ndI k2 (ndI k7 @wrI));(repeat(any_goals(first|((with_reducible refine Q0g ?_ ?_);rfl;intro K hK;simp(disch:=omega) only[go_sem,W];((repeat(refine ndI (by first|assumption|omega|rfl) ?_));refine hK _ ?_;clear hK K))|(with_reducible first|(refine Q0i ?_;refine hR _ ?_;clear hR R)|((first|refine Q0h ?_|refine Q0c ?_);intro Ψ hΨ hΨ')|(refine Q0b ?_;intro R hR)|(refine hΨ _ ?_;clear hΨ hΨ' Ψ)|refine Q0d ?_|refine Q0j ?_|refine Q0e ?_)|((with_reducible refine hΨ' _ _ ?_ ?_);(focus(simp;done));clear hΨ hΨ' Ψ)|((with_reducible apply Q1e);rfl;rfl;rfl;(try simp(disch:=omega) only[go_sem,W]))|((with_reducible apply Q1l);rfl;rfl;rfl;all_goals(intro hb;first|(cases hb;done)|((try simp only[Bool.not_true,Bool.not_false] at hb);(first|((with_reducible intro K hK);simp(disch:=omega) only[go_sem,W];((repeat(refine ndI (by first|assumption|omega|rfl) ?_));refine hK _ ?_;clear hK K))|((fail_if_success (with_reducible intro _));simp(disch:=omega) only[go_sem,W])))))|((with_reducible apply Q0f);rfl;rfl;all_goals(intro hc;first|(cases hc;done)|(try simp only at hc)))|((with_reducible refine Q0t ?_ ?_);kernel_rfl;(with_reducible refine hR _ ?_);clear hR R)|((first|((with_reducible apply Q0r);rfl;rfl;rfl;rfl)|((with_reducible apply Q0n);rfl;rfl;rfl)|((first|((with_reducible apply Q0u);rfl;rfl)|((with_reducible apply Q0s);rfl;rfl;rfl;rfl;rfl));(simp(disch:=omega) only[rdE,rdOf,go_sem,W];rfl);(intro τ hA hQ hN;((try simp only[Q1h,Op.operands,Call.operands,go_sem,W,go_sem,List.mem_cons,List.not_mem_nil,forall_eq_or_imp,forall_eq,List.append_toArray,Option.toArray] at hA);(try simp only[go_sem,W,List.mem_cons,List.not_mem_nil,forall_eq_or_imp,forall_eq] at hQ hN);(first|(revert hA;intro hA)|have hA:=trivial);(first|(revert hQ;intro hQ)|have hQ:=trivial);(first|(revert hN;intro hN)|have hN:=trivial);simp(disch:=omega) only[go_sem,W,go_sem,hA,hQ,hN];(repeat(refine ndI (by first|assumption|omega|rfl) ?_));(first|apply Q1b|apply Q1a|apply Q0w)))));(simp(disch:=omega) only[St.eff,setO,Q0q,go_sem,W]))|((with_reducible apply Q0o);rfl;rfl;rfl;all_goals intro hb;all_goals(simp(disch:=omega) only[St.eff,setO,Q0q,go_sem,W]))|((with_reducible refine Q0p ?_ ?_ ?_ ?_);kernel_rfl;kernel_rfl;(first|kernel_rfl|simp[Q0m,Q1j,St.free,Q1i,AV.refsL,AV.refs]);intro R hR)))))
 all_goals first|exact hΨ _ hlt (St.le_of (by simp[leT]) (by simp[leH,hget]))|(refine⟨by simp,⟨_,?_,AV.le_refl _⟩,Q0y (by simp[leH,hget])⟩;simp only[Try.results61,resL,ldA,Q1o,go_sem])
theorem check_yes(x:Ac)(hs:∀p∈x.store,p.ok)(h0:(decide (x.a≠0)&&decide (x.code.length≤200)&&decide (x.store.length≤24))=true):Fn Try.prog 61 [acA x] [] (vi .i64 (if okTo x.store x.store.length then 0 else 161)) []:=by
 obtain⟨a,b,n,code,store⟩:=x
 dsimp only at hs h0 ⊢
 simp only[Bool.and_eq_true,decide_eq_true_eq] at h0
 obtain⟨⟨h1,h2⟩,h3⟩:=h0
 have f1:(a != 0)=true:=by simp[h1]
 have f2:decide ((code.length:Int)≤200)=true:=decide_eq_true (by omega)
 have f3:decide ((store.length:Int)≤24)=true:=decide_eq_true (by omega)
 obtain⟨rr,hrr⟩:∃r,okTo store store.length=r:=⟨_,rfl⟩
 rw[hrr]
 (refine Q1q Try.func61 rfl (by rfl) ?_;simp only[Try.ntmps61,List.length_cons,List.length_nil,Nat.reduceAdd,Nat.reduceSub,List.replicate,List.cons_append,List.nil_append])
 (have W:=ndI f1 (ndI f2 f3);(repeat(any_goals(first|((with_reducible refine Q0g ?_ ?_);rfl;intro K hK;simp only[go_sem,W];((repeat(refine ndI (by first|assumption|omega|rfl) ?_));refine hK _ ?_;clear hK K))|(with_reducible first|(refine Q0i ?_;refine hR _ ?_;clear hR R)|((first|refine Q0h ?_|refine Q0c ?_);intro Ψ hΨ hΨ')|(refine Q0b ?_;intro R hR)|(refine hΨ _ ?_;clear hΨ hΨ' Ψ)|refine Q0d ?_|refine Q0j ?_|refine Q0e ?_)|((with_reducible refine hΨ' _ _ ?_ ?_);(focus(simp;done));clear hΨ hΨ' Ψ)|((with_reducible apply Q1e);rfl;rfl;rfl;(try simp only[go_sem,W]))|((with_reducible apply Q1l);rfl;rfl;rfl;all_goals(intro hb;first|(cases hb;done)|((try simp only[Bool.not_true,Bool.not_false] at hb);(first|((with_reducible intro K hK);simp only[go_sem,W];((repeat(refine ndI (by first|assumption|omega|rfl) ?_));refine hK _ ?_;clear hK K))|((fail_if_success (with_reducible intro _));simp only[go_sem,W])))))|((with_reducible apply Q0f);rfl;rfl;all_goals(intro hc;first|(cases hc;done)|(try simp only at hc)))|((with_reducible refine Q0t ?_ ?_);kernel_rfl;(with_reducible refine hR _ ?_);clear hR R)|((first|((with_reducible apply Q0r);rfl;rfl;rfl;rfl)|((with_reducible apply Q0n);rfl;rfl;rfl)|((first|((with_reducible apply Q0u);rfl;rfl)|((with_reducible apply Q0s);rfl;rfl;rfl;rfl;rfl));(simp only[rdE,rdOf,go_sem,W];rfl);(intro τ hA hQ hN;((try simp only[Q1h,Op.operands,Call.operands,go_sem,W,go_sem,List.mem_cons,List.not_mem_nil,forall_eq_or_imp,forall_eq,List.append_toArray,Option.toArray] at hA);(try simp only[go_sem,W,List.mem_cons,List.not_mem_nil,forall_eq_or_imp,forall_eq] at hQ hN);(first|(revert hA;intro hA)|have hA:=trivial);(first|(revert hQ;intro hQ)|have hQ:=trivial);(first|(revert hN;intro hN)|have hN:=trivial);simp only[go_sem,W,go_sem,hA,hQ,hN];(repeat(refine ndI (by first|assumption|omega|rfl) ?_));(first|apply Q1b|apply Q1a|apply Q0w)))));(simp only[St.eff,setO,Q0q,go_sem,W]))|((with_reducible apply Q0o);rfl;rfl;rfl;all_goals intro hb;all_goals(simp only[St.eff,setO,Q0q,go_sem,W]))|((with_reducible refine Q0p ?_ ?_ ?_ ?_);kernel_rfl;kernel_rfl;(first|kernel_rfl|simp[Q0m,Q1j,St.free,Q1i,AV.refsL,AV.refs]);intro R hR)))))
 refine Q5a store.length (fun i=>⟨[.any,.ptr 1 0,vi .i64 0,vb (okTo store i),.any,.any,.any,.any,.any,.any,.any,.any,.any,.any,.any,.any,.any,.any,.any,.any,.any,.any,.c (psV store),vi .i64 store.length,vi .i64 (i:Int),.any,.any,.any,.any,.any,.any,.any,.any,.any,.any,.any,.any,.any,.any,.any,.any,.any,.any,.any,.any,.any,.any,.any,.any,.any,.any,.any,.any,.any,.any,.any],[(1,ac8 a b n (bsV code) (psV store))]⟩) (St.le_of (by simp[leT,okTo]) (by simp[leH,hget])) ?_
 intro i hi Ψ hΨ hΨ'
 (try dsimp only at hΨ ⊢)
 have k7:(i:Int)+1=((i+1:Nat):Int):=by omega
 rcases Nat.lt_or_ge i store.length with hlt|hge
 · obtain⟨p,hp⟩:∃p,store[i]? = some p:=⟨_,List.getElem?_eq_getElem hlt⟩
   have k1:(decide ((i:Int)<(store.length:Int)))=true:=decide_eq_true (by omega)
   have k2:=ps_at hp
   have hv:=zero_dec (hs p (List.mem_of_getElem? hp)).2
   obtain⟨q1,hq1⟩:∃q,decide (p.v≠0)=q:=⟨_,rfl⟩
   rw[hq1] at hv
   have hnx:okTo store (i+1)=(okTo store i&&okP store i):=rfl
   rw[hnx] at hΨ
   generalize okTo store i=g at hΨ ⊢
   rcases Nat.eq_zero_or_pos i with h0|h0
   · have n3:((i:Int)==0)=true:=by rw[h0];rfl
     have hok:okP store i=q1:=by
      rw[h0] at hp ⊢
      rw[okP_zero hp,hq1]
     rw[hok] at hΨ
     cases g<;>cases q1
     all_goals simp only[Bool.not_true,Bool.not_false] at hv
     all_goals(have W:=ndI k1 (ndI k2 (ndI k7 (ndI n3 @wrI)));(repeat(any_goals(first|((with_reducible refine Q0g ?_ ?_);rfl;intro K hK;simp(disch:=omega) only[go_sem,W,hv];((repeat(refine ndI (by first|assumption|omega|rfl) ?_));refine hK _ ?_;clear hK K))|(with_reducible first|(refine Q0i ?_;refine hR _ ?_;clear hR R)|((first|refine Q0h ?_|refine Q0c ?_);intro Ψ hΨ hΨ')|(refine Q0b ?_;intro R hR)|(refine hΨ _ ?_;clear hΨ hΨ' Ψ)|refine Q0d ?_|refine Q0j ?_|refine Q0e ?_)|((with_reducible refine hΨ' _ _ ?_ ?_);(focus(simp;done));clear hΨ hΨ' Ψ)|((with_reducible apply Q1e);rfl;rfl;rfl;(try simp(disch:=omega) only[go_sem,W,hv]))|((with_reducible apply Q1l);rfl;rfl;rfl;all_goals(intro hb;first|(cases hb;done)|((try simp only[Bool.not_true,Bool.not_false] at hb);(first|((with_reducible intro K hK);simp(disch:=omega) only[go_sem,W,hv];((repeat(refine ndI (by first|assumption|omega|rfl) ?_));refine hK _ ?_;clear hK K))|((fail_if_success (with_reducible intro _));simp(disch:=omega) only[go_sem,W,hv])))))|((with_reducible apply Q0f);rfl;rfl;all_goals(intro hc;first|(cases hc;done)|(try simp only at hc)))|((with_reducible refine Q0t ?_ ?_);kernel_rfl;(with_reducible refine hR _ ?_);clear hR R)|((first|((with_reducible apply Q0r);rfl;rfl;rfl;rfl)|((with_reducible apply Q0n);rfl;rfl;rfl)|((first|((with_reducible apply Q0u);rfl;rfl)|((with_reducible apply Q0s);rfl;rfl;rfl;rfl;rfl));(simp(disch:=omega) only[rdE,rdOf,go_sem,W,hv];rfl);(intro τ hA hQ hN;((try simp only[Q1h,Op.operands,Call.operands,go_sem,W,hv,go_sem,List.mem_cons,List.not_mem_nil,forall_eq_or_imp,forall_eq,List.append_toArray,Option.toArray] at hA);(try simp only[go_sem,W,hv,List.mem_cons,List.not_mem_nil,forall_eq_or_imp,forall_eq] at hQ hN);(first|(revert hA;intro hA)|have hA:=trivial);(first|(revert hQ;intro hQ)|have hQ:=trivial);(first|(revert hN;intro hN)|have hN:=trivial);simp(disch:=omega) only[go_sem,W,hv,go_sem,hA,hQ,hN];(repeat(refine ndI (by first|assumption|omega|rfl) ?_));(first|apply Q1b|apply Q1a|apply Q0w)))));(simp(disch:=omega) only[St.eff,setO,Q0q,go_sem,W,hv]))|((with_reducible apply Q0o);rfl;rfl;rfl;all_goals intro hb;all_goals(simp(disch:=omega) only[St.eff,setO,Q0q,go_sem,W,hv]))|((with_reducible refine Q0p ?_ ?_ ?_ ?_);kernel_rfl;kernel_rfl;(first|kernel_rfl|simp[Q0m,Q1j,St.free,Q1i,AV.refsL,AV.refs]);intro R hR)))))
     all_goals exact hΨ _ hlt (St.le_of (by simp[leT]) (by simp[leH,hget]))
   · obtain⟨j,hj⟩:∃j,i=j+1:=⟨i-1,by omega⟩
     obtain⟨q,hq⟩:∃q,store[j]? = some q:=⟨_,List.getElem?_eq_getElem (by omega)⟩
     have n3:((i:Int)==0)=false:=by rw[beq_eq_false_iff_ne];omega
     have n4:=ps_at hq
     have n5:(i:Int)-1=(j:Int):=by omega
     have hjl:j<store.length:=by omega
     have cm:=X4y q.k p.k (hs q (List.mem_of_getElem? hq)).1 (hs p (List.mem_of_getElem? hp)).1
     obtain⟨q2,hq2⟩:∃c,decide (q.k<p.k)=c:=⟨_,rfl⟩
     have hok:okP store i=(q1&&q2):=by
      rw[hj] at hp ⊢
      rw[okP_succ hq hp,hq1,hq2]
     rw[hok] at hΨ
     obtain⟨cv,hcv,hcd⟩:∃cv:Int,(if q.k<p.k then -1 else if p.k<q.k then 1 else 0:Int)=cv∧decide (cv<0)=q2:=by
      refine⟨_,rfl,?_⟩
      rw[←hq2]
      by_cases h:q.k<p.k
      · rw[if_pos h,decide_eq_true h];rfl
      · rw[if_neg h,decide_eq_false h];split<;>rfl
     rw[hcv] at cm
     cases g<;>cases q1<;>cases q2
     all_goals simp only[Bool.not_true,Bool.not_false] at hv
     all_goals(have W:=ndI k1 (ndI k2 (ndI k7 (ndI n3 (ndI n4 (ndI n5 @wrI)))));(repeat(any_goals(first|((with_reducible refine Q0g ?_ ?_);rfl;intro K hK;simp(disch:=omega) only[go_sem,W,hv,hcd];((repeat(refine ndI (by first|assumption|omega|rfl) ?_));refine hK _ ?_;clear hK K))|(with_reducible first|(refine Q0i ?_;refine hR _ ?_;clear hR R)|((first|refine Q0h ?_|refine Q0c ?_);intro Ψ hΨ hΨ')|(refine Q0b ?_;intro R hR)|(refine hΨ _ ?_;clear hΨ hΨ' Ψ)|refine Q0d ?_|refine Q0j ?_|refine Q0e ?_)|((with_reducible refine hΨ' _ _ ?_ ?_);(focus(simp;done));clear hΨ hΨ' Ψ)|((with_reducible apply Q1e);rfl;rfl;rfl;(try simp(disch:=omega) only[go_sem,W,hv,hcd]))|((with_reducible apply Q1l);rfl;rfl;rfl;all_goals(intro hb;first|(cases hb;done)|((try simp only[Bool.not_true,Bool.not_false] at hb);(first|((with_reducible intro K hK);simp(disch:=omega) only[go_sem,W,hv,hcd];((repeat(refine ndI (by first|assumption|omega|rfl) ?_));refine hK _ ?_;clear hK K))|((fail_if_success (with_reducible intro _));simp(disch:=omega) only[go_sem,W,hv,hcd])))))|((with_reducible apply Q0f);rfl;rfl;all_goals(intro hc;first|(cases hc;done)|(try simp only at hc)))|((with_reducible refine Q0t ?_ ?_);kernel_rfl;(with_reducible refine hR _ ?_);clear hR R)|((first|((with_reducible apply Q0r);rfl;rfl;rfl;rfl)|((with_reducible apply Q0n);rfl;rfl;rfl)|((first|((with_reducible apply Q1m);rfl;rfl)|((with_reducible apply Q1p);rfl;rfl;rfl;rfl;rfl));((apply Q1g (cm);rfl;rfl;rfl;rfl;exact Try.func32);kernel_rfl;rfl;(focus((simp(disch:=omega) only[go_sem,W,hv,hcd]);(try rfl);done));(first|rfl|simp[AV.inNL,AV.inN])))|((first|((with_reducible apply Q0u);rfl;rfl)|((with_reducible apply Q0s);rfl;rfl;rfl;rfl;rfl));(simp(disch:=omega) only[rdE,rdOf,go_sem,W,hv,hcd];rfl);(intro τ hA hQ hN;((try simp only[Q1h,Op.operands,Call.operands,go_sem,W,hv,hcd,go_sem,List.mem_cons,List.not_mem_nil,forall_eq_or_imp,forall_eq,List.append_toArray,Option.toArray] at hA);(try simp only[go_sem,W,hv,hcd,List.mem_cons,List.not_mem_nil,forall_eq_or_imp,forall_eq] at hQ hN);(first|(revert hA;intro hA)|have hA:=trivial);(first|(revert hQ;intro hQ)|have hQ:=trivial);(first|(revert hN;intro hN)|have hN:=trivial);simp(disch:=omega) only[go_sem,W,hv,hcd,go_sem,hA,hQ,hN];(repeat(refine ndI (by first|assumption|omega|rfl) ?_));(first|apply Q1b|apply Q1a|apply Q0w)))));(simp(disch:=omega) only[St.eff,setO,Q0q,go_sem,W,hv,hcd]))|((with_reducible apply Q0o);rfl;rfl;rfl;all_goals intro hb;all_goals(simp(disch:=omega) only[St.eff,setO,Q0q,go_sem,W,hv,hcd]))|((with_reducible refine Q0p ?_ ?_ ?_ ?_);kernel_rfl;kernel_rfl;(first|kernel_rfl|simp[Q0m,Q1j,St.free,Q1i,AV.refsL,AV.refs]);intro R hR)))))
     all_goals exact hΨ _ hlt (St.le_of (by simp[leT]) (by simp[leH,hget]))
 · have k1:(decide ((i:Int)<(store.length:Int)))=false:=decide_eq_false (by omega)
   have e:i=store.length:=by omega
   rw[e,hrr]
   rw[e] at k1
   (repeat(any_goals(first|((with_reducible refine Q0g ?_ ?_);rfl;intro K hK;simp only[go_sem,k1];((repeat(refine ndI (by first|assumption|omega|rfl) ?_));refine hK _ ?_;clear hK K))|(with_reducible first|(refine Q0i ?_;refine hR _ ?_;clear hR R)|((first|refine Q0h ?_|refine Q0c ?_);intro Ψ hΨ hΨ')|(refine Q0b ?_;intro R hR)|(refine hΨ _ ?_;clear hΨ hΨ' Ψ)|refine Q0d ?_|refine Q0j ?_|refine Q0e ?_)|((with_reducible refine hΨ' _ _ ?_ ?_);(focus(simp;done));clear hΨ hΨ' Ψ)|((with_reducible apply Q1e);rfl;rfl;rfl;(try simp only[go_sem,k1]))|((with_reducible apply Q1l);rfl;rfl;rfl;all_goals(intro hb;first|(cases hb;done)|((try simp only[Bool.not_true,Bool.not_false] at hb);(first|((with_reducible intro K hK);simp only[go_sem,k1];((repeat(refine ndI (by first|assumption|omega|rfl) ?_));refine hK _ ?_;clear hK K))|((fail_if_success (with_reducible intro _));simp only[go_sem,k1])))))|((with_reducible apply Q0f);rfl;rfl;all_goals(intro hc;first|(cases hc;done)|(try simp only at hc)))|((with_reducible refine Q0t ?_ ?_);kernel_rfl;(with_reducible refine hR _ ?_);clear hR R)|((first|((with_reducible apply Q0r);rfl;rfl;rfl;rfl)|((with_reducible apply Q0n);rfl;rfl;rfl)|((first|((with_reducible apply Q0u);rfl;rfl)|((with_reducible apply Q0s);rfl;rfl;rfl;rfl;rfl));(simp only[rdE,rdOf,go_sem,k1];rfl);(intro τ hA hQ hN;((try simp only[Q1h,Op.operands,Call.operands,go_sem,k1,go_sem,List.mem_cons,List.not_mem_nil,forall_eq_or_imp,forall_eq,List.append_toArray,Option.toArray] at hA);(try simp only[go_sem,k1,List.mem_cons,List.not_mem_nil,forall_eq_or_imp,forall_eq] at hQ hN);(first|(revert hA;intro hA)|have hA:=trivial);(first|(revert hQ;intro hQ)|have hQ:=trivial);(first|(revert hN;intro hN)|have hN:=trivial);simp only[go_sem,k1,go_sem,hA,hQ,hN];(repeat(refine ndI (by first|assumption|omega|rfl) ?_));(first|apply Q1b|apply Q1a|apply Q0w)))));(simp only[St.eff,setO,Q0q,go_sem,k1]))|((with_reducible apply Q0o);rfl;rfl;rfl;all_goals intro hb;all_goals(simp only[St.eff,setO,Q0q,go_sem,k1]))|((with_reducible refine Q0p ?_ ?_ ?_ ?_);kernel_rfl;kernel_rfl;(first|kernel_rfl|simp[Q0m,Q1j,St.free,Q1i,AV.refsL,AV.refs]);intro R hR))))
   all_goals simp only[Bool.not_eq_true',Bool.not_eq_false'] at hc
   all_goals rw[hc]
   all_goals(refine⟨by simp,⟨_,?_,AV.le_refl _⟩,Q0y (by simp[leH,hget])⟩;simp only[Try.results61,resL,ldA,Q1o,go_sem])
theorem check_fn(x:Ac)(hs:∀p∈x.store,p.ok)(hl:x.store.length≤maxLen)(hc:x.code.length≤maxLen):Fn Try.prog 61 [acA x] [] (vi .i64 (if okAc x then 0 else 161)) []:=by
 unfold okAc
 obtain⟨c,h0⟩:∃c,(decide (x.a≠0)&&decide (x.code.length≤200)&&decide (x.store.length≤24))=c:=⟨_,rfl⟩
 rw[h0]
 cases c
 · rw[Bool.false_and]
   exact check_no x hl hc h0
 · rw[Bool.true_and]
   exact check_yes x hs h0
def Q9r(x:Ac):Bool:=decide (x.b=0)&&decide (x.n=0)&&decide (x.code.length+x.store.length=0)
theorem X0w(x:Ac)(hb:x.b<WW)(hl:x.store.length≤maxLen)(hc:x.code.length≤maxLen)(h:x.code.length+x.store.length≤maxLen):Fn Try.prog 62 [acA x] [] (vb (Q9r x)) []:=by
 obtain⟨a,b,n,code,store⟩:=x
 dsimp only at hb hl hc h
 unfold Q9r
 dsimp only
 have f1:=X2z hb
 obtain⟨p1,e1⟩:∃p,decide (b=0)=p:=⟨_,rfl⟩
 obtain⟨p2,e2⟩:∃p,decide (n=0)=p:=⟨_,rfl⟩
 obtain⟨p3,e3⟩:∃p,decide (code.length+store.length=0)=p:=⟨_,rfl⟩
 have f2:(n==0)=p2:=by rw[←e2,Bool.eq_iff_iff];simp
 have f3:((code.length:Int)+(store.length:Int))=((code.length+store.length:Nat):Int):=by omega
 have f4:(((code.length+store.length:Nat):Int)==0)=p3:=by
  rw[←e3,Bool.eq_iff_iff,beq_iff_eq,decide_eq_true_eq];omega
 have hm:code.length+store.length<9223372036854775808:=Nat.lt_succ_of_le h
 rw[e1] at f1
 rw[e1,e2,e3]
 clear e1 e2 e3
 generalize code.length+store.length=m at f3 f4 hm
 cases p1<;>cases p2<;>cases p3
 all_goals(refine Q1q Try.func62 rfl (by rfl) ?_;simp only[Try.ntmps62,List.length_cons,List.length_nil,Nat.reduceAdd,Nat.reduceSub,List.replicate,List.cons_append,List.nil_append])
 all_goals(have W:=ndI f1 (ndI f2 (ndI f3 (ndI f4 @wrI)));(repeat(any_goals(first|((with_reducible refine Q0g ?_ ?_);rfl;intro K hK;simp(disch:=omega) only[go_sem,W];((repeat(refine ndI (by first|assumption|omega|rfl) ?_));refine hK _ ?_;clear hK K))|(with_reducible first|(refine Q0i ?_;refine hR _ ?_;clear hR R)|((first|refine Q0h ?_|refine Q0c ?_);intro Ψ hΨ hΨ')|(refine Q0b ?_;intro R hR)|(refine hΨ _ ?_;clear hΨ hΨ' Ψ)|refine Q0d ?_|refine Q0j ?_|refine Q0e ?_)|((with_reducible refine hΨ' _ _ ?_ ?_);(focus(simp;done));clear hΨ hΨ' Ψ)|((with_reducible apply Q1e);rfl;rfl;rfl;(try simp(disch:=omega) only[go_sem,W]))|((with_reducible apply Q1l);rfl;rfl;rfl;all_goals(intro hb;first|(cases hb;done)|((try simp only[Bool.not_true,Bool.not_false] at hb);(first|((with_reducible intro K hK);simp(disch:=omega) only[go_sem,W];((repeat(refine ndI (by first|assumption|omega|rfl) ?_));refine hK _ ?_;clear hK K))|((fail_if_success (with_reducible intro _));simp(disch:=omega) only[go_sem,W])))))|((with_reducible apply Q0f);rfl;rfl;all_goals(intro hc;first|(cases hc;done)|(try simp only at hc)))))))
 all_goals(refine⟨by simp,⟨_,?_,AV.le_refl _⟩,Q0y (by simp[leH,hget])⟩;simp only[Try.results62,resL,ldA,Q1o,go_sem])
 all_goals rfl
end Go.Proofs.Ytbmcdemnnbndeaa
namespace Go.Proofs.Ytbmcdemnnbndeaa
open Go.RowKit
open Nat (reduceBEq)
set_option maxRecDepth 20000
set_option maxHeartbeats 2000000
theorem many_fn(ex:Bool)(L:List Ac)(hL:L.length≤maxLen):Fn Try.prog 60 [stA ex L] [] (vi .i64 ((L.filter fun x=>decide (16≤x.a)).length:Nat)) []:=by
 (refine Q1q Try.func60 rfl (by rfl) ?_;simp only[Try.ntmps60,List.length_cons,List.length_nil,Nat.reduceAdd,Nat.reduceSub,List.replicate,List.cons_append,List.nil_append])
 (repeat(any_goals(first|((with_reducible refine Q0g ?_ ?_);rfl;intro K hK;simp only[go_sem];((repeat(refine ndI (by first|assumption|omega|rfl) ?_));refine hK _ ?_;clear hK K))|(with_reducible first|(refine Q0i ?_;refine hR _ ?_;clear hR R)|((first|refine Q0h ?_|refine Q0c ?_);intro Ψ hΨ hΨ')|(refine Q0b ?_;intro R hR)|(refine hΨ _ ?_;clear hΨ hΨ' Ψ)|refine Q0d ?_|refine Q0j ?_|refine Q0e ?_)|((with_reducible refine hΨ' _ _ ?_ ?_);(focus(simp;done));clear hΨ hΨ' Ψ)|((with_reducible apply Q0f);rfl;rfl;all_goals(intro hc;first|(cases hc;done)|(try simp only at hc))))))
 refine Q5a L.length (fun i=>⟨[.any,.ptr 1 0,.any,vi .i64 (((L.take i).filter fun x=>decide (16≤x.a)).length:Nat),.any,.any,.any,acS ex L,vi .i64 L.length,vi .i64 (i:Int),.any,.any,.any,.any,.any,.any,.any,.any,.any,.any],[(1,[acS ex L])]⟩) (St.le_of (by simp[leT]) (by simp[leH,hget])) ?_
 intro i hi Ψ hΨ hΨ'
 (try dsimp only at hΨ ⊢)
 have k8:L.length<9223372036854775808:=Nat.lt_succ_of_le hL
 rcases Nat.lt_or_ge i L.length with hlt|hge
 · obtain⟨x,hx⟩:∃x,L[i]? = some x:=⟨_,List.getElem?_eq_getElem hlt⟩
   have k1:(decide ((i:Int)<(L.length:Int)))=true:=decide_eq_true (by omega)
   have k2:=X2w hx
   have k7:(i:Int)+1=((i+1:Nat):Int):=by omega
   have k3:((L.take (i+1)).filter fun x=>decide (16≤x.a))=((L.take i).filter fun x=>decide (16≤x.a))++(if decide (16≤x.a) then[x] else[]):=by
    rw[List.take_add_one,hx,List.filter_append];simp[List.filter_cons]
   have k5:((L.take i).filter fun x=>decide (16≤x.a)).length≤i:=Nat.le_trans (List.length_filter_le _ _) (by rw[List.length_take];omega)
   rw[k3,List.length_append] at hΨ
   generalize ((L.take i).filter fun x=>decide (16≤x.a)).length=c at hΨ k5 ⊢
   cases hq:decide (16≤x.a) with
   |true=>
    rw[hq] at hΨ
    have k6:(c:Int)+1=((c+1:Nat):Int):=by omega
    (have W:=ndI k1 (ndI k2 (ndI k6 (ndI k7 @wrI)));(repeat(any_goals(first|((with_reducible refine Q0g ?_ ?_);rfl;intro K hK;simp(disch:=omega) only[go_sem,W,hq];((repeat(refine ndI (by first|assumption|omega|rfl) ?_));refine hK _ ?_;clear hK K))|(with_reducible first|(refine Q0i ?_;refine hR _ ?_;clear hR R)|((first|refine Q0h ?_|refine Q0c ?_);intro Ψ hΨ hΨ')|(refine Q0b ?_;intro R hR)|(refine hΨ _ ?_;clear hΨ hΨ' Ψ)|refine Q0d ?_|refine Q0j ?_|refine Q0e ?_)|((with_reducible refine hΨ' _ _ ?_ ?_);(focus(simp;done));clear hΨ hΨ' Ψ)|((with_reducible apply Q0f);rfl;rfl;all_goals(intro hc;first|(cases hc;done)|(try simp only at hc)))))))
    all_goals exact hΨ _ hlt (St.le_of (by simp[leT]) (by simp[leH,hget]))
   |false=>
    rw[hq] at hΨ
    (have W:=ndI k1 (ndI k2 (ndI k7 @wrI));(repeat(any_goals(first|((with_reducible refine Q0g ?_ ?_);rfl;intro K hK;simp(disch:=omega) only[go_sem,W,hq];((repeat(refine ndI (by first|assumption|omega|rfl) ?_));refine hK _ ?_;clear hK K))|(with_reducible first|(refine Q0i ?_;refine hR _ ?_;clear hR R)|((first|refine Q0h ?_|refine Q0c ?_);intro Ψ hΨ hΨ')|(refine Q0b ?_;intro R hR)|(refine hΨ _ ?_;clear hΨ hΨ' Ψ)|refine Q0d ?_|refine Q0j ?_|refine Q0e ?_)|((with_reducible refine hΨ' _ _ ?_ ?_);(focus(simp;done));clear hΨ hΨ' Ψ)|((with_reducible apply Q0f);rfl;rfl;all_goals(intro hc;first|(cases hc;done)|(try simp only at hc)))))))
    all_goals exact hΨ _ hlt (St.le_of (by simp[leT]) (by simp[leH,hget]))
 · have k1:(decide ((i:Int)<(L.length:Int)))=false:=decide_eq_false (by omega)
   rw[List.take_of_length_le hge]
   (repeat(any_goals(first|((with_reducible refine Q0g ?_ ?_);rfl;intro K hK;simp only[go_sem,k1];((repeat(refine ndI (by first|assumption|omega|rfl) ?_));refine hK _ ?_;clear hK K))|(with_reducible first|(refine Q0i ?_;refine hR _ ?_;clear hR R)|((first|refine Q0h ?_|refine Q0c ?_);intro Ψ hΨ hΨ')|(refine Q0b ?_;intro R hR)|(refine hΨ _ ?_;clear hΨ hΨ' Ψ)|refine Q0d ?_|refine Q0j ?_|refine Q0e ?_)|((with_reducible refine hΨ' _ _ ?_ ?_);(focus(simp;done));clear hΨ hΨ' Ψ)|((with_reducible apply Q0f);rfl;rfl;all_goals(intro hc;first|(cases hc;done)|(try simp only at hc))))))
   all_goals(refine⟨by simp,⟨_,?_,AV.le_refl _⟩,Q0y (by simp[leH,hget])⟩;simp only[Try.results60,resL,ldA,Q1o,go_sem])
theorem X4a(ex:Bool)(L:List Ac):Fn Try.prog 63 [stA ex L] [] (.fn 83 [.ptr 1 0]) [(1,[acS ex L])]:=by
 (refine Q1q Try.func63 rfl (by rfl) ?_;simp only[Try.ntmps63,List.length_cons,List.length_nil,Nat.reduceAdd,Nat.reduceSub,List.replicate,List.cons_append,List.nil_append])
 (repeat(any_goals(first|((with_reducible refine Q0g ?_ ?_);rfl;intro K hK;simp only[go_sem];((repeat(refine ndI (by first|assumption|omega|rfl) ?_));refine hK _ ?_;clear hK K))|(with_reducible first|(refine Q0i ?_;refine hR _ ?_;clear hR R)|((first|refine Q0h ?_|refine Q0c ?_);intro Ψ hΨ hΨ')|(refine Q0b ?_;intro R hR)|(refine hΨ _ ?_;clear hΨ hΨ' Ψ)|refine Q0d ?_|refine Q0j ?_|refine Q0e ?_)|((with_reducible refine hΨ' _ _ ?_ ?_);(focus(simp;done));clear hΨ hΨ' Ψ)|((with_reducible apply Q0f);rfl;rfl;all_goals(intro hc;first|(cases hc;done)|(try simp only at hc))))))
 all_goals exact⟨by simp,⟨_,rfl,AV.le_of (by simp[Q1o])⟩,Q0y (by simp[leH,hget])⟩
abbrev balH0(out:List Nat):List (Nat×List AV):=[(1003,[.row 1600 30 4 out.length]),(1600,rcW out)]
abbrev balH1(out:List Nat)(y:Nat):List (Nat×List AV):=[(1003,[.row 15 30 4 (out.length+1)]),(15,rcW (out++[y]))]
abbrev stB(ex:Bool)(L:List Ac)(lp r:Nat)(out:List Nat)(i:Nat):St:=⟨[yv lp,.ptr 1101 0,.any,.any,.any,.any,acS ex L,vi .i64 L.length,vi .i64 i,.any,.any,.any,.any,.any,.any,.any,.any,.any],[(1003,[.row r 30 4 out.length]),(r,rcW out),(1101,[acS ex L])]⟩
theorem stB_rn(ex:Bool)(L:List Ac)(lp:Nat)(out:List Nat)(i:Nat):(stB ex L lp 15 out i).to (stB ex L lp 600 out i):=by
 have h:=St.to.rn (σ:=stB ex L lp 15 out i) (fun r=>if r=15 then 600 else r) (fun r=>if r=600 then 15 else r) [15,1003,1101] (by simp[AV.inNL,AV.inN]) (by simp) (by simp[inH,AV.inNL,AV.inN,Q6f]) (by simp) (by simp)
 simpa [AV.renL,AV.ren,renH,Q4u] using h
theorem stB_rn0(ex:Bool)(L:List Ac)(lp:Nat)(out:List Nat)(i:Nat):(stB ex L lp 1600 out i).to (stB ex L lp 600 out i):=by
 have h:=St.to.rn (σ:=stB ex L lp 1600 out i) (fun r=>if r=1600 then 600 else r) (fun r=>if r=600 then 1600 else r) [1600,1003,1101] (by simp[AV.inNL,AV.inN]) (by simp) (by simp[inH,AV.inNL,AV.inN,Q6f]) (by simp) (by simp)
 simpa [AV.renL,AV.ren,renH,Q4u] using h
theorem bal1_fn(ex:Bool)(m:List Nat)(hm1:m.length≤10)(L:List Ac)(hl:L.length≤900){t:Tmp}{asg bod:Code}{T0:List AV}(hT0:AV.inNL [1003] T0=true)(lp:Nat)
 (hY:∀(out:List Nat) (y:Ac),y∈L→out.length≤1000→YC Try.prog t asg bod T0 lp (wN y.b) (balH0 out) (balH1 out y.b)) :
 FnW (LoopAt t asg bod T0 [1003,1600,1101] lp) Try.prog 83 [yv lp,.ptr 1101 0] [(1003,[.row 1600 30 4 m.length]),(1600,rcW m),(1101,[acS ex L])] (.tup []) [(1003,[.row 600 30 4 (m++L.map Ac.b).length]),(600,rcW (m++L.map Ac.b))]:=by
 (refine X4t Try.func83 rfl (by rfl) ?_;simp only[Try.ntmps83,List.length_cons,List.length_nil,Nat.reduceAdd,Nat.reduceSub,List.replicate,List.cons_append,List.nil_append])
 refine AWE.seq (AWE.of ?_)
 have k8:∀r,AV.refsL r (rcW m)=false:=fun r=>Q0z r _
 (repeat(any_goals(first|((with_reducible refine Q0g ?_ ?_);rfl;intro K hK;simp only[go_sem,k8];((repeat(refine ndI (by first|assumption|omega|rfl) ?_));refine hK _ ?_;clear hK K))|(with_reducible first|(refine Q0i ?_;refine hR _ ?_;clear hR R)|((first|refine Q0h ?_|refine Q0c ?_);intro Ψ hΨ hΨ')|(refine Q0b ?_;intro R hR)|(refine hΨ _ ?_;clear hΨ hΨ' Ψ)|refine Q0d ?_|refine Q0j ?_|refine Q0e ?_)|((with_reducible refine hΨ' _ _ ?_ ?_);(focus(simp;done));clear hΨ hΨ' Ψ)|((with_reducible apply Q0f);rfl;rfl;all_goals(intro hc;first|(cases hc;done)|(try simp only at hc))))))
 refine AWE.block ?_
 refine AWE.loop (α:={i:Nat // i≤L.length}) (fun p=>stB ex L lp 600 (m++(L.take p.1).map Ac.b) p.1) (fun p=>L.length-p.1) ⟨0,Nat.zero_le _⟩ ?_ ?_
 · refine St.to.trans (St.to.of_le (τ:=stB ex L lp 1600 (m++(L.take 0).map Ac.b) 0) (St.le_of (by simp[leT]) (by simp[leH,hget]))) (stB_rn0 ex L lp _ _)
 rintro ⟨i,hi⟩
 dsimp only[stB]
 rcases Nat.lt_or_ge i L.length with hlt|hge
 · obtain⟨y,hy⟩:∃y,L[i]? = some y:=⟨L[i],List.getElem?_eq_getElem hlt⟩
   have k1:(decide ((i:Int)<(L.length:Int)))=true:=by simpa using hlt
   have k2:=X2w hy
   have k7:(i:Int)+1=((i+1:Nat):Int):=by omega
   have k5:(m++(L.take i).map Ac.b).length≤1000:=by rw[List.length_append,List.length_map,List.length_take];omega
   have hm:=List.mem_of_getElem? hy
   have m1:m++(L.take (i+1)).map Ac.b=(m++(L.take i).map Ac.b)++[y.b]:=by
    rw[List.take_add_one,hy,List.map_append,List.append_assoc];rfl
   have fin:∀τ : St,τ.to (stB ex L lp 600 (m++(L.take (i+1)).map Ac.b) (i+1))→∃q:{i:Nat // i≤L.length},L.length-q.1<L.length-i∧τ.to (stB ex L lp 600 (m++(L.take q.1).map Ac.b) q.1):=fun τ h=>⟨⟨i+1,hlt⟩,by simp only;omega,h⟩
   rw[m1] at fin
   generalize m++(L.take i).map Ac.b=out at k5 fin ⊢
   have k9:∀r,AV.refsL r (rcW out)=false:=fun r=>Q0z r _
   refine AWE.seq (AWE.of ?_)
   (repeat(any_goals(first|((with_reducible refine Q0g ?_ ?_);rfl;intro K hK;simp only[go_sem,k1];((repeat(refine ndI (by first|assumption|omega|rfl) ?_));refine hK _ ?_;clear hK K))|(with_reducible first|(refine Q0i ?_;refine hR _ ?_;clear hR R)|((first|refine Q0h ?_|refine Q0c ?_);intro Ψ hΨ hΨ')|(refine Q0b ?_;intro R hR)|(refine hΨ _ ?_;clear hΨ hΨ' Ψ)|refine Q0d ?_|refine Q0j ?_|refine Q0e ?_)|((with_reducible refine hΨ' _ _ ?_ ?_);(focus(simp;done));clear hΨ hΨ' Ψ)|((with_reducible apply Q0f);rfl;rfl;all_goals(intro hc;first|(cases hc;done)|(try simp only at hc))))))
   refine AWE.seq (AWE.of ?_)
   (repeat(any_goals(first|((with_reducible refine Q0g ?_ ?_);rfl;intro K hK;simp only[go_sem,k1];((repeat(refine ndI (by first|assumption|omega|rfl) ?_));refine hK _ ?_;clear hK K))|(with_reducible first|(refine Q0i ?_;refine hR _ ?_;clear hR R)|((first|refine Q0h ?_|refine Q0c ?_);intro Ψ hΨ hΨ')|(refine Q0b ?_;intro R hR)|(refine hΨ _ ?_;clear hΨ hΨ' Ψ)|refine Q0d ?_|refine Q0j ?_|refine Q0e ?_)|((with_reducible refine hΨ' _ _ ?_ ?_);(focus(simp;done));clear hΨ hΨ' Ψ)|((with_reducible apply Q0f);rfl;rfl;all_goals(intro hc;first|(cases hc;done)|(try simp only at hc))))))
   refine AWE.seq (AWE.block (AWE.seq (AWE.of ?_)))
   (have W:=ndI k1 (ndI k2 (ndI k7 (ndI k9 @wrI)));(repeat(any_goals(first|((with_reducible refine Q0g ?_ ?_);rfl;intro K hK;simp(disch:=omega) only[go_sem,W];((repeat(refine ndI (by first|assumption|omega|rfl) ?_));refine hK _ ?_;clear hK K))|(with_reducible first|(refine Q0i ?_;refine hR _ ?_;clear hR R)|((first|refine Q0h ?_|refine Q0c ?_);intro Ψ hΨ hΨ')|(refine Q0b ?_;intro R hR)|(refine hΨ _ ?_;clear hΨ hΨ' Ψ)|refine Q0d ?_|refine Q0j ?_|refine Q0e ?_)|((with_reducible refine hΨ' _ _ ?_ ?_);(focus(simp;done));clear hΨ hΨ' Ψ)|((with_reducible apply Q0f);rfl;rfl;all_goals(intro hc;first|(cases hc;done)|(try simp only at hc)))))))
   refine AWE.seq (AWE.region_at 3 rfl rfl ?_)
   intro R hR
   simp only[List.take,List.drop]
   (have W:=ndI k1 (ndI k2 (ndI k7 (ndI k9 @wrI)));(repeat(any_goals(first|((with_reducible refine Q0g ?_ ?_);rfl;intro K hK;simp(disch:=omega) only[go_sem,W];((repeat(refine ndI (by first|assumption|omega|rfl) ?_));refine hK _ ?_;clear hK K))|(with_reducible first|(refine Q0i ?_;refine hR _ ?_;clear hR R)|((first|refine Q0h ?_|refine Q0c ?_);intro Ψ hΨ hΨ')|(refine Q0b ?_;intro R hR)|(refine hΨ _ ?_;clear hΨ hΨ' Ψ)|refine Q0d ?_|refine Q0j ?_|refine Q0e ?_)|((with_reducible refine hΨ' _ _ ?_ ?_);(focus(simp;done));clear hΨ hΨ' Ψ)|((with_reducible apply Q0f);rfl;rfl;all_goals(intro hc;first|(cases hc;done)|(try simp only at hc)))))))
   refine⟨.inl rfl,opE_yield (hY out y hm (by omega)) (fun r=>if r=1600 then 600 else r) rfl rfl rfl rfl (.inr ?_) (by rfl) ?_ ?_ ?_ ?_ [1003] hT0 ?_ ?_⟩
   · simp[AV.ren,AV.renL,St.ev]
   · simp[hget,AV.renL,AV.ren,Q4u]
   · intro r hr q hq h
     simp only[List.map_cons,List.map_nil,List.cons_append,List.nil_append,List.mem_cons,List.not_mem_nil,or_false] at hr hq
     rcases hr with rfl|rfl|rfl|rfl<;>rcases hq with rfl|rfl|rfl|rfl<;>simp at h ⊢
   · simp[Q2d,St.free,Q1i,AV.refs,AV.refsL,k9]
   · simp[inH,AV.inNL,AV.inN,Q6f]
   · simp[hget]
   intro R hR
   simp only[List.drop,Q0q,Q2k,renH,AV.ren,AV.renL,Q4u,hput,hdel,hget,St.put,List.set]
   (have W:=ndI k1 (ndI k2 (ndI k7 (ndI k9 @wrI)));(repeat(any_goals(first|((with_reducible refine Q0g ?_ ?_);rfl;intro K hK;simp(disch:=omega) only[go_sem,W];((repeat(refine ndI (by first|assumption|omega|rfl) ?_));refine hK _ ?_;clear hK K))|(with_reducible first|(refine Q0i ?_;refine hR _ ?_;clear hR R)|((first|refine Q0h ?_|refine Q0c ?_);intro Ψ hΨ hΨ')|(refine Q0b ?_;intro R hR)|(refine hΨ _ ?_;clear hΨ hΨ' Ψ)|refine Q0d ?_|refine Q0j ?_|refine Q0e ?_)|((with_reducible refine hΨ' _ _ ?_ ?_);(focus(simp;done));clear hΨ hΨ' Ψ)|((with_reducible apply Q0f);rfl;rfl;all_goals(intro hc;first|(cases hc;done)|(try simp only at hc)))))))
   show AWE _ _ _ _ _
   refine AWE.of ?_
   (repeat(any_goals(first|((with_reducible refine Q0g ?_ ?_);rfl;intro K hK;simp only[go_sem];((repeat(refine ndI (by first|assumption|omega|rfl) ?_));refine hK _ ?_;clear hK K))|(with_reducible first|(refine Q0i ?_;refine hR _ ?_;clear hR R)|((first|refine Q0h ?_|refine Q0c ?_);intro Ψ hΨ hΨ')|(refine Q0b ?_;intro R hR)|(refine hΨ _ ?_;clear hΨ hΨ' Ψ)|refine Q0d ?_|refine Q0j ?_|refine Q0e ?_)|((with_reducible refine hΨ' _ _ ?_ ?_);(focus(simp;done));clear hΨ hΨ' Ψ)|((with_reducible apply Q0f);rfl;rfl;all_goals(intro hc;first|(cases hc;done)|(try simp only at hc))))))
   show AWE _ _ _ _ _
   refine AWE.of ?_
   (repeat(any_goals(first|((with_reducible refine Q0g ?_ ?_);rfl;intro K hK;simp(disch:=omega) only[go_sem,k7,wrI];((repeat(refine ndI (by first|assumption|omega|rfl) ?_));refine hK _ ?_;clear hK K))|(with_reducible first|(refine Q0i ?_;refine hR _ ?_;clear hR R)|((first|refine Q0h ?_|refine Q0c ?_);intro Ψ hΨ hΨ')|(refine Q0b ?_;intro R hR)|(refine hΨ _ ?_;clear hΨ hΨ' Ψ)|refine Q0d ?_|refine Q0j ?_|refine Q0e ?_)|((with_reducible refine hΨ' _ _ ?_ ?_);(focus(simp;done));clear hΨ hΨ' Ψ)|((with_reducible apply Q0f);rfl;rfl;all_goals(intro hc;first|(cases hc;done)|(try simp only at hc))))))
   exact fin _ (St.to.trans (St.to.of_le (τ:=stB ex L lp 15 (out++[y.b]) (i+1)) (St.le_of (by simp[leT]) (by simp[leH,hget]))) (stB_rn ex L lp _ _))
 · have k1:(decide ((i:Int)<(L.length:Int)))=false:=by simpa using hge
   have e:L.take i=L:=List.take_of_length_le hge
   rw[e]
   refine AWE.seq (AWE.of ?_)
   (repeat(any_goals(first|((with_reducible refine Q0g ?_ ?_);rfl;intro K hK;simp only[go_sem,k1];((repeat(refine ndI (by first|assumption|omega|rfl) ?_));refine hK _ ?_;clear hK K))|(with_reducible first|(refine Q0i ?_;refine hR _ ?_;clear hR R)|((first|refine Q0h ?_|refine Q0c ?_);intro Ψ hΨ hΨ')|(refine Q0b ?_;intro R hR)|(refine hΨ _ ?_;clear hΨ hΨ' Ψ)|refine Q0d ?_|refine Q0j ?_|refine Q0e ?_)|((with_reducible refine hΨ' _ _ ?_ ?_);(focus(simp;done));clear hΨ hΨ' Ψ)|((with_reducible apply Q0f);rfl;rfl;all_goals(intro hc;first|(cases hc;done)|(try simp only at hc))))))
   refine AWE.seq (AWE.of ?_)
   (repeat(any_goals(first|((with_reducible refine Q0g ?_ ?_);rfl;intro K hK;simp only[go_sem,k1];((repeat(refine ndI (by first|assumption|omega|rfl) ?_));refine hK _ ?_;clear hK K))|(with_reducible first|(refine Q0i ?_;refine hR _ ?_;clear hR R)|((first|refine Q0h ?_|refine Q0c ?_);intro Ψ hΨ hΨ')|(refine Q0b ?_;intro R hR)|(refine hΨ _ ?_;clear hΨ hΨ' Ψ)|refine Q0d ?_|refine Q0j ?_|refine Q0e ?_)|((with_reducible refine hΨ' _ _ ?_ ?_);(focus(simp;done));clear hΨ hΨ' Ψ)|((with_reducible apply Q0f);rfl;rfl;all_goals(intro hc;first|(cases hc;done)|(try simp only at hc))))))
   exact⟨by simp,⟨_,rfl,AV.le_of (by simp[Q1o])⟩,Q0y (by simp[leH,hget])⟩
theorem rcW_snoc(l:List Nat)(x:Nat):rcW (l++[x])=rcW l++(wpv x).map .c:=by
 unfold rcW;rw[List.flatMap_append,List.map_append,List.flatMap_cons,List.flatMap_nil,List.append_nil]
theorem X1f(ex:Bool)(L:List Ac)(hl:L.length≤900)(ok:∀x∈L,x.b<WW):Fn Try.prog 50 [stA ex L,.c (.v (.slice none 0 0))] [] (.tup [wN ((L.map Ac.b).sum%WW),vb (!decide (WW≤(L.map Ac.b).sum))]) []:=by
 have hs:=fun ex=>X1h ex (L.map Ac.b) (by rw[List.length_map];omega) (by simpa using ok)
 obtain⟨q,hq⟩:∃q,decide (WW≤(L.map Ac.b).sum)=q:=⟨_,rfl⟩
 obtain⟨n,hn⟩:∃n,(L.map Ac.b).sum%WW=n:=⟨_,rfl⟩
 rw[hq,hn] at hs
 rw[hq,hn]
 (refine Q1q Try.func50 rfl (by rfl) ?_;simp only[Try.ntmps50,List.length_cons,List.length_nil,Nat.reduceAdd,Nat.reduceSub,List.replicate,List.cons_append,List.nil_append])
 (repeat(any_goals(first|((with_reducible refine Q1d ?_ ?_ ?_);rfl;rfl;intro K hK;(apply Q1n (X4a ex L) (fun r=>r+100);rfl;rfl;rfl;rfl;exact Try.func63;kernel_rfl;rfl;rfl;(intro r hr q hq h;simp only[List.map_cons,List.map_nil,List.cons_append,List.nil_append,List.mem_cons,List.not_mem_nil,or_false] at hr hq;(try dsimp only at h);first|omega|(rcases hr with rfl|rfl|rfl<;>rcases hq with rfl|rfl|rfl<;>simp at h ⊢)|(rcases hr with rfl|rfl<;>rcases hq with rfl|rfl<;>simp at h ⊢)|((repeat' split at h)<;>omega));(simp only[Q1t,Q2h,AV.ren,AV.renL,Q1c,List.mem_cons,List.not_mem_nil,forall_eq_or_imp,forall_eq,Q2d,List.contains_cons,List.contains_nil,AV.refsL,AV.refs,Q0z,AV.inN,AV.inNL,inH,Q1k,go_sem]));(simp only[Q0q,Q2k,renH,AV.ren,AV.renL,Q1c,go_sem];refine hK _ ?_;clear hK K))|((with_reducible refine Q0g ?_ ?_);rfl;intro K hK;simp only[go_sem];((repeat(refine ndI (by first|assumption|omega|rfl) ?_));refine hK _ ?_;clear hK K))|(with_reducible first|(refine Q0i ?_;refine hR _ ?_;clear hR R)|((first|refine Q0h ?_|refine Q0c ?_);intro Ψ hΨ hΨ')|(refine Q0b ?_;intro R hR)|(refine hΨ _ ?_;clear hΨ hΨ' Ψ)|refine Q0d ?_|refine Q0j ?_|refine Q0e ?_)|((with_reducible refine hΨ' _ _ ?_ ?_);(focus(simp;done));clear hΨ hΨ' Ψ)|((with_reducible apply Q0f);rfl;rfl;all_goals(intro hc;first|(cases hc;done)|(try simp only at hc))))))
 show AW _ _ _ _
 refine AW.to (St.to.nilcell 3 700 30 4 0 (cs:=[.c (.v (.slice none 0 0))]) (by simp[hget]) rfl (by simp[St.free,Q1i,AV.refsL,AV.refs]) (by decide) (by decide)) ?_
 refine AW.range (T0:=[.any,.any,.any,.ptr 1003 0,.any,.any,.any,.any,.any,.any,.any,.any,.any,.any,.any,.any,.any,.any,.any,.any,.any,.any,.any,.any]) (cargs:=[.ptr 1101 0]) (H0:=[(1003,[.row 1600 30 4 ([]:List Nat).length]),(1600,rcW []),(1101,[acS ex L])]) (H1:=[(1003,[.row 600 30 4 ([]++L.map Ac.b).length]),(600,rcW ([]++L.map Ac.b))]) (res:=.tup []) (fun r=>if r=1600 then 700 else if 1000≤r then r-1000 else r) (fun lp=>bal1_fn ex [] (by simp) L hl rfl lp fun out y hm ho=>yc_of rfl rfl ?_) rfl rfl Try.func83 (by kernel_rfl) rfl rfl ?_ ?_ ?_ ?_ ?_ rfl ?_ ?_
 · have k4:=Q8k out
   have k9:∀r,AV.refsL r (rcW out)=false:=fun r=>Q0z r _
   simp only[List.set]
   (repeat(any_goals(first|((with_reducible refine Q0g ?_ ?_);rfl;intro K hK;simp(disch:=omega) only[go_sem,k4,k9];((repeat(refine ndI (by first|assumption|omega|rfl) ?_));refine hK _ ?_;clear hK K))|(with_reducible first|(refine Q0i ?_;refine hR _ ?_;clear hR R)|((first|refine Q0h ?_|refine Q0c ?_);intro Ψ hΨ hΨ')|(refine Q0b ?_;intro R hR)|(refine hΨ _ ?_;clear hΨ hΨ' Ψ)|refine Q0d ?_|refine Q0j ?_|refine Q0e ?_)|((with_reducible refine hΨ' _ _ ?_ ?_);(focus(simp;done));clear hΨ hΨ' Ψ)|((with_reducible apply Q0f);rfl;rfl;all_goals(intro hc;first|(cases hc;done)|(try simp only at hc))))))
   refine⟨rfl,?_⟩
   (have W:=ndI k4 (ndI k9 @Q0z);(repeat(any_goals(first|((with_reducible refine Q0g ?_ ?_);rfl;intro K hK;simp(disch:=omega) only[go_sem,W,Q5i,AV.refsL,AV.refs,List.length_append,List.length_cons,List.length_nil,Bool.or_false];((repeat(refine ndI (by first|assumption|omega|rfl) ?_));refine hK _ ?_;clear hK K))|(with_reducible first|(refine Q0i ?_;refine hR _ ?_;clear hR R)|((first|refine Q0h ?_|refine Q0c ?_);intro Ψ hΨ hΨ')|(refine Q0b ?_;intro R hR)|(refine hΨ _ ?_;clear hΨ hΨ' Ψ)|refine Q0d ?_|refine Q0j ?_|refine Q0e ?_)|((with_reducible refine hΨ' _ _ ?_ ?_);(focus(simp;done));clear hΨ hΨ' Ψ)|((with_reducible apply Q0f);rfl;rfl;all_goals(intro hc;first|(cases hc;done)|(try simp only at hc)))))))
   exact⟨rfl,Q0y (by simp[leH,hget,rcW_snoc,wpv])⟩
 · simp[Q1t,Q2h,AV.ren]
 · simp[Q1t,Q2h,AV.ren]
 · simp[hget,AV.renL,AV.ren,hput,rcW]
 · intro r hr q hq h
   simp only[List.map_cons,List.map_nil,List.cons_append,List.nil_append,List.mem_cons,List.not_mem_nil,or_false] at hr hq
   rcases hr with rfl|rfl|rfl|rfl|rfl<;>rcases hq with rfl|rfl|rfl|rfl|rfl<;>simp at h ⊢
 · simp[Q2d,St.free,Q1i,AV.refs,AV.refsL,hput]
 · simp[inH,AV.inNL,AV.inN,Q6f]
 · simp only[Q0q,Q2k,renH,AV.ren,AV.renL,Q4u,hput,hdel,hget,Nat.reduceLeDiff,Nat.reduceSub,Nat.reduceEqDiff,↓reduceIte,List.nil_append]
   (repeat(any_goals(first|((with_reducible refine Q0g ?_ ?_);rfl;intro K hK;simp only[go_sem];((repeat(refine ndI (by first|assumption|omega|rfl) ?_));refine hK _ ?_;clear hK K))|(with_reducible first|(refine Q0i ?_;refine hR _ ?_;clear hR R)|((first|refine Q0h ?_|refine Q0c ?_);intro Ψ hΨ hΨ')|(refine Q0b ?_;intro R hR)|(refine hΨ _ ?_;clear hΨ hΨ' Ψ)|refine Q0d ?_|refine Q0j ?_|refine Q0e ?_)|((with_reducible refine hΨ' _ _ ?_ ?_);(focus(simp;done));clear hΨ hΨ' Ψ)|((with_reducible apply Q0f);rfl;rfl;all_goals(intro hc;first|(cases hc;done)|(try simp only at hc))))))
   refine X4u rfl (St.to.frz 600 (pcs:=(L.map Ac.b).flatMap wpv) (by simp[hget,rcW])) ?_
   have el:((L.map Ac.b).flatMap wpv).length=(L.map Ac.b).length*4:=Q1u Q5d _
   simp only[St.frz,AV.frzL,AV.frz,frzH,el,if_true,eq_self,↓reduceIte,Nat.reduceEqDiff]
   (repeat(any_goals(first|((with_reducible refine Q1d ?_ ?_ ?_);rfl;rfl;intro K hK;((apply Q0x (hs _);rfl;rfl;rfl;rfl;exact Try.func19);kernel_rfl;rfl;(focus((simp only[go_sem]);(try rfl);done));(first|rfl|simp[AV.inNL,AV.inN]));(simp only[go_sem];refine hK _ ?_;clear hK K))|((with_reducible refine Q0g ?_ ?_);rfl;intro K hK;simp only[go_sem];((repeat(refine ndI (by first|assumption|omega|rfl) ?_));refine hK _ ?_;clear hK K))|(with_reducible first|(refine Q0i ?_;refine hR _ ?_;clear hR R)|((first|refine Q0h ?_|refine Q0c ?_);intro Ψ hΨ hΨ')|(refine Q0b ?_;intro R hR)|(refine hΨ _ ?_;clear hΨ hΨ' Ψ)|refine Q0d ?_|refine Q0j ?_|refine Q0e ?_)|((with_reducible refine hΨ' _ _ ?_ ?_);(focus(simp;done));clear hΨ hΨ' Ψ)|((with_reducible apply Q0f);rfl;rfl;all_goals(intro hc;first|(cases hc;done)|(try simp only at hc))))))
   all_goals(refine⟨by simp,⟨_,?_,AV.le_refl _⟩,Q0y (by simp[leH,hget])⟩;simp only[Try.results50,resL,ldA,Q1o,go_sem])
end Go.Proofs.Ytbmcdemnnbndeaa
namespace Go.Proofs.Ytbmcdemnnbndeaa
open Go.RowKit
open Nat (reduceBEq)
set_option maxRecDepth 20000
set_option maxHeartbeats 2000000
def okS1(L:List Ac)(j:Nat):Bool:=match L[j]? with
 |none=>true
 |some x=>okAc x && !Q9r x&&(decide (j=0)||match L[j-1]? with
  |some q=>decide (q.a<x.a)
  |none=>true)
def okS(q:Bool)(L:List Ac):Nat→Bool
 |0=>q
 |i+1=>okS q L i&&okS1 L i
def manyL(L:List Ac):Nat:=(L.filter fun x=>decide (16≤x.a)).length
def okSt(L:List Ac):Bool:=okS (!decide (WW≤(L.map Ac.b).sum)&&decide (manyL L≤24)) L L.length
theorem okS1_zero{L:List Ac}{x:Ac}(h:L[0]? = some x):okS1 L 0=(okAc x && !Q9r x):=by
 unfold okS1;rw[h];simp
theorem okS1_succ{L:List Ac}{j:Nat}{q x:Ac}(hq:L[j]? = some q)(hx:L[j+1]? = some x):okS1 L (j+1)=(okAc x && !Q9r x&&decide (q.a<x.a)):=by
 unfold okS1;rw[hx];simp[hq]
theorem X4n{q:Bool}{L:List Ac}{i:Nat}(h:okS q L i=false):∀j,i≤j→okS q L j=false
 |0,hj=>by
  obtain rfl:i=0:=by omega
  exact h
 |j+1,hj=>by
  by_cases e:i=j+1
  · rw[←e];exact h
  · unfold okS;rw[X4n h j (by omega),Bool.false_and]
def Ac.fine(x:Ac):Prop:=x.ok∧x.code.length+x.store.length≤maxLen
theorem Q8z(ex:Bool)(L:List Ac)(hl:L.length≤900)(ok:∀x∈L,x.fine):Fn Try.prog 49 [stA ex L] [] (vi .i64 (if okSt L then 0 else 160)) []:=by
 have tn:=X1f ex L hl fun x hx=>(ok x hx).1.2.1
 have mn:=many_fn ex L (Nat.le_trans hl (by decide))
 obtain⟨rr,hrr⟩:∃r,okSt L=r:=⟨_,rfl⟩
 rw[hrr]
 unfold okSt at hrr
 obtain⟨s1,hs1⟩:∃q,decide (WW≤(L.map Ac.b).sum)=q:=⟨_,rfl⟩
 obtain⟨s2,hs2⟩:∃q,decide (manyL L≤24)=q:=⟨_,rfl⟩
 obtain⟨tt,htt⟩:∃q,(L.map Ac.b).sum%WW=q:=⟨_,rfl⟩
 have f1:decide ((((L.filter fun x=>decide (16≤x.a)).length:Nat):Int)≤24)=s2:=by
  rw[←hs2];exact decide_eq_decide.2 (by unfold manyL;omega)
 rw[hs1,htt] at tn
 rw[hs1,hs2] at hrr
 clear hs1 hs2 htt
 have inv:(!s1&&s2)=true∨((!s1&&s2)=false∧rr=false):=by
  cases h:(!s1&&s2) with
  |true=>exact .inl rfl
  |false=>
   rw[h] at hrr
   exact .inr ⟨rfl,by rw[←hrr];exact X4n (i:=0) rfl _ (Nat.zero_le _)⟩
 rcases inv with hq|⟨hq,rfl⟩
 · simp only[Bool.and_eq_true,Bool.not_eq_true'] at hq
   obtain⟨rfl,rfl⟩:=hq
   rw[show(!false&&true)=true from rfl] at hrr
   (refine Q1q Try.func49 rfl (by rfl) ?_;simp only[Try.ntmps49,List.length_cons,List.length_nil,Nat.reduceAdd,Nat.reduceSub,List.replicate,List.cons_append,List.nil_append])
   (repeat(any_goals(first|((with_reducible refine Q1d ?_ ?_ ?_);rfl;rfl;intro K hK;((apply Q0x (tn);rfl;rfl;rfl;rfl;exact Try.func50);kernel_rfl;rfl;(focus((simp only[go_sem,f1]);(try rfl);done));(first|rfl|simp[AV.inNL,AV.inN]));(simp only[go_sem,f1];refine hK _ ?_;clear hK K))|((with_reducible refine Q0g ?_ ?_);rfl;intro K hK;simp only[go_sem,f1];((repeat(refine ndI (by first|assumption|omega|rfl) ?_));refine hK _ ?_;clear hK K))|(with_reducible first|(refine Q0i ?_;refine hR _ ?_;clear hR R)|((first|refine Q0h ?_|refine Q0c ?_|refine Q4q ?_);intro Ψ hΨ hΨ')|(refine Q0b ?_;intro R hR)|(refine hΨ _ ?_;clear hΨ hΨ' Ψ)|refine Q0d ?_|refine Q0j ?_|refine Q0e ?_|refine Q4r ?_)|((with_reducible refine hΨ' _ _ ?_ ?_);(focus(simp;done));clear hΨ hΨ' Ψ)|((with_reducible apply Q1e);rfl;rfl;rfl;(try simp only[go_sem,f1]))|((with_reducible apply Q1l);rfl;rfl;rfl;all_goals(intro hb;first|(cases hb;done)|((try simp only[Bool.not_true,Bool.not_false] at hb);(first|((with_reducible intro K hK);(first|((apply Q0x (mn);rfl;rfl;rfl;rfl;exact Try.func60);kernel_rfl;rfl;(focus((simp only[go_sem,f1]);(try rfl);done));(first|rfl|simp[AV.inNL,AV.inN]))|skip);simp only[go_sem,f1];((repeat(refine ndI (by first|assumption|omega|rfl) ?_));refine hK _ ?_;clear hK K))|((fail_if_success (with_reducible intro _));simp only[go_sem,f1])))))|((with_reducible apply Q0f);rfl;rfl;all_goals(intro hc;first|(cases hc;done)|(try simp only at hc)))|((with_reducible refine Q0t ?_ ?_);kernel_rfl;(with_reducible refine hR _ ?_);clear hR R)|((first|((with_reducible apply Q0r);rfl;rfl;rfl;rfl)|((with_reducible apply Q0n);rfl;rfl;rfl)|((first|((with_reducible apply Q0u);rfl;rfl)|((with_reducible apply Q0s);rfl;rfl;rfl;rfl;rfl));(simp only[rdE,rdOf,go_sem,f1];rfl);(intro τ hA hQ hN;((try simp only[Q1h,Op.operands,Call.operands,go_sem,f1,go_sem,List.mem_cons,List.not_mem_nil,forall_eq_or_imp,forall_eq,List.append_toArray,Option.toArray] at hA);(try simp only[go_sem,f1,List.mem_cons,List.not_mem_nil,forall_eq_or_imp,forall_eq] at hQ hN);(first|(revert hA;intro hA)|have hA:=trivial);(first|(revert hQ;intro hQ)|have hQ:=trivial);(first|(revert hN;intro hN)|have hN:=trivial);simp only[go_sem,f1,go_sem,hA,hQ,hN];(repeat(refine ndI (by first|assumption|omega|rfl) ?_));(first|apply Q1b|apply Q1a|apply Q0w)))));(simp only[St.eff,setO,Q0q,go_sem,f1]))|((with_reducible apply Q0o);rfl;rfl;rfl;all_goals intro hb;all_goals(simp only[St.eff,setO,Q0q,go_sem,f1]))|((with_reducible refine Q0p ?_ ?_ ?_ ?_);kernel_rfl;kernel_rfl;(first|kernel_rfl|simp[Q0m,Q1j,St.free,Q1i,AV.refsL,AV.refs]);intro R hR))))
   refine Q5a L.length (fun i=>⟨[.any,.ptr 1 0,vi .i64 0,.any,vb (okS true L i),.any,.any,.any,.any,.any,.any,.any,.any,.any,.any,.any,.any,.any,.any,acS ex L,vi .i64 L.length,vi .i64 (i:Int),.any,.any,.any,.any,.any,.any,.any,.any,.any,.any,.any,.any,.any,.any,.any,.any,.any,.any,.any,.any,.any,.any,.any,.any,.any,.any,.any,.any,.any,.any,.any,.any,.any,.any,.any,.any],[(1,[acS ex L])]⟩) (St.le_of (by simp[leT,okS]) (by simp[leH,hget])) ?_
   intro i hi Ψ hΨ hΨ'
   (try dsimp only at hΨ ⊢)
   have k7:(i:Int)+1=((i+1:Nat):Int):=by omega
   rcases Nat.lt_or_ge i L.length with hlt|hge
   · obtain⟨x,hx⟩:∃x,L[i]? = some x:=⟨_,List.getElem?_eq_getElem hlt⟩
     have k1:(decide ((i:Int)<(L.length:Int)))=true:=decide_eq_true (by omega)
     have k2:=X2w hx
     obtain⟨⟨u1,u2,u3,⟨u4,u5⟩,u6,u7⟩,u8⟩:=ok x (List.mem_of_getElem? hx)
     have hck:=check_fn x u7 u6 u4
     have hem:=X0w x u2 u6 u4 u8
     obtain⟨q1,hq1⟩:∃q,okAc x=q:=⟨_,rfl⟩
     obtain⟨q2,hq2⟩:∃q,Q9r x=q:=⟨_,rfl⟩
     rw[hq1] at hck
     rw[hq2] at hem
     have hnx:okS true L (i+1)=(okS true L i&&okS1 L i):=rfl
     have hno:okS true L (i+1)=false→rr=false:=fun h=>by rw[←hrr];exact X4n h _ hlt
     have hno0:okS true L i=false→rr=false:=fun h=>by rw[←hrr];exact X4n h _ hi
     rw[hnx] at hΨ hno
     generalize okS true L i=g at hΨ hno hno0 ⊢
     rcases Nat.eq_zero_or_pos i with h0|h0
     · have n3:((i:Int)==0)=true:=by rw[h0];rfl
       have hok:okS1 L i=(q1 && !q2):=by
        rw[h0] at hx ⊢
        rw[okS1_zero hx,hq1,hq2]
       rw[hok] at hΨ hno
       cases g<;>cases q1<;>cases q2
       all_goals have hr:=hno
       all_goals try replace hr:=hr rfl
       all_goals simp only[Bool.false_eq_true,if_true,if_false] at hck
       all_goals(have W:=ndI k1 (ndI k2 (ndI k7 (ndI n3 @wrI)));(repeat(any_goals(first|((with_reducible refine Q0g ?_ ?_);rfl;intro K hK;simp(disch:=omega) only[go_sem,W];((repeat(refine ndI (by first|assumption|omega|rfl) ?_));refine hK _ ?_;clear hK K))|(with_reducible first|(refine Q0i ?_;refine hR _ ?_;clear hR R)|((first|refine Q0h ?_|refine Q0c ?_|refine Q4q ?_);intro Ψ hΨ hΨ')|(refine Q0b ?_;intro R hR)|(refine hΨ _ ?_;clear hΨ hΨ' Ψ)|refine Q0d ?_|refine Q0j ?_|refine Q0e ?_|refine Q4r ?_)|((with_reducible refine hΨ' _ _ ?_ ?_);(focus(simp;done));clear hΨ hΨ' Ψ)|((with_reducible apply Q1e);rfl;rfl;rfl;(try simp(disch:=omega) only[go_sem,W]))|((with_reducible apply Q1l);rfl;rfl;rfl;all_goals(intro hb;first|(cases hb;done)|((try simp only[Bool.not_true,Bool.not_false] at hb);(first|((with_reducible intro K hK);simp(disch:=omega) only[go_sem,W];((repeat(refine ndI (by first|assumption|omega|rfl) ?_));refine hK _ ?_;clear hK K))|((fail_if_success (with_reducible intro _));simp(disch:=omega) only[go_sem,W])))))|((with_reducible apply Q0f);rfl;rfl;all_goals(intro hc;first|(cases hc;done)|(try simp only at hc)))|((with_reducible refine Q0t ?_ ?_);kernel_rfl;(with_reducible refine hR _ ?_);clear hR R)|((first|((with_reducible apply Q0r);rfl;rfl;rfl;rfl)|((with_reducible apply Q0n);rfl;rfl;rfl)|((first|((with_reducible apply Q1m);rfl;rfl)|((with_reducible apply Q1p);rfl;rfl;rfl;rfl;rfl));((first|(apply Q1g (hck);rfl;rfl;rfl;rfl;exact Try.func61)|(apply Q1g (hem);rfl;rfl;rfl;rfl;exact Try.func62));kernel_rfl;rfl;(focus((simp(disch:=omega) only[go_sem,W]);(try rfl);done));(first|rfl|simp[AV.inNL,AV.inN])))|((first|((with_reducible apply Q0u);rfl;rfl)|((with_reducible apply Q0s);rfl;rfl;rfl;rfl;rfl));(simp(disch:=omega) only[rdE,rdOf,go_sem,W];rfl);(intro τ hA hQ hN;((try simp only[Q1h,Op.operands,Call.operands,go_sem,W,go_sem,List.mem_cons,List.not_mem_nil,forall_eq_or_imp,forall_eq,List.append_toArray,Option.toArray] at hA);(try simp only[go_sem,W,List.mem_cons,List.not_mem_nil,forall_eq_or_imp,forall_eq] at hQ hN);(first|(revert hA;intro hA)|have hA:=trivial);(first|(revert hQ;intro hQ)|have hQ:=trivial);(first|(revert hN;intro hN)|have hN:=trivial);simp(disch:=omega) only[go_sem,W,go_sem,hA,hQ,hN];(repeat(refine ndI (by first|assumption|omega|rfl) ?_));(first|apply Q1b|apply Q1a|apply Q0w)))));(simp(disch:=omega) only[St.eff,setO,Q0q,go_sem,W]))|((with_reducible apply Q0o);rfl;rfl;rfl;all_goals intro hb;all_goals(simp(disch:=omega) only[St.eff,setO,Q0q,go_sem,W]))|((with_reducible refine Q0p ?_ ?_ ?_ ?_);kernel_rfl;kernel_rfl;(first|kernel_rfl|simp[Q0m,Q1j,St.free,Q1i,AV.refsL,AV.refs]);intro R hR)))))
       all_goals first
        |exact hΨ _ hlt (St.le_of (by simp[leT]) (by simp[leH,hget]))
        |(rw[hr];(refine⟨by simp,⟨_,?_,AV.le_refl _⟩,Q0y (by simp[leH,hget])⟩;simp only[Try.results49,resL,ldA,Q1o,go_sem]))
     · obtain⟨j,hj⟩:∃j,i=j+1:=⟨i-1,by omega⟩
       obtain⟨q,hq⟩:∃q,L[j]? = some q:=⟨_,List.getElem?_eq_getElem (by omega)⟩
       have n3:((i:Int)==0)=false:=by rw[beq_eq_false_iff_ne];omega
       have n4:=X2w hq
       have n5:(i:Int)-1=(j:Int):=by omega
       have hjl:j<L.length:=by omega
       obtain⟨q3,hq3⟩:∃c,decide (q.a<x.a)=c:=⟨_,rfl⟩
       have hok:okS1 L i=(q1 && !q2&&q3):=by
        rw[hj] at hx ⊢
        rw[okS1_succ hq hx,hq1,hq2,hq3]
       rw[hok] at hΨ hno
       cases g<;>cases q1<;>cases q2<;>cases q3
       all_goals have hr:=hno
       all_goals try replace hr:=hr rfl
       all_goals simp only[Bool.false_eq_true,if_true,if_false] at hck
       all_goals(have W:=ndI k1 (ndI k2 (ndI k7 (ndI n3 (ndI n4 (ndI n5 (ndI hq3 @wrI))))));(repeat(any_goals(first|((with_reducible refine Q0g ?_ ?_);rfl;intro K hK;simp(disch:=omega) only[go_sem,W];((repeat(refine ndI (by first|assumption|omega|rfl) ?_));refine hK _ ?_;clear hK K))|(with_reducible first|(refine Q0i ?_;refine hR _ ?_;clear hR R)|((first|refine Q0h ?_|refine Q0c ?_|refine Q4q ?_);intro Ψ hΨ hΨ')|(refine Q0b ?_;intro R hR)|(refine hΨ _ ?_;clear hΨ hΨ' Ψ)|refine Q0d ?_|refine Q0j ?_|refine Q0e ?_|refine Q4r ?_)|((with_reducible refine hΨ' _ _ ?_ ?_);(focus(simp;done));clear hΨ hΨ' Ψ)|((with_reducible apply Q1e);rfl;rfl;rfl;(try simp(disch:=omega) only[go_sem,W]))|((with_reducible apply Q1l);rfl;rfl;rfl;all_goals(intro hb;first|(cases hb;done)|((try simp only[Bool.not_true,Bool.not_false] at hb);(first|((with_reducible intro K hK);simp(disch:=omega) only[go_sem,W];((repeat(refine ndI (by first|assumption|omega|rfl) ?_));refine hK _ ?_;clear hK K))|((fail_if_success (with_reducible intro _));simp(disch:=omega) only[go_sem,W])))))|((with_reducible apply Q0f);rfl;rfl;all_goals(intro hc;first|(cases hc;done)|(try simp only at hc)))|((with_reducible refine Q0t ?_ ?_);kernel_rfl;(with_reducible refine hR _ ?_);clear hR R)|((first|((with_reducible apply Q0r);rfl;rfl;rfl;rfl)|((with_reducible apply Q0n);rfl;rfl;rfl)|((first|((with_reducible apply Q1m);rfl;rfl)|((with_reducible apply Q1p);rfl;rfl;rfl;rfl;rfl));((first|(apply Q1g (hck);rfl;rfl;rfl;rfl;exact Try.func61)|(apply Q1g (hem);rfl;rfl;rfl;rfl;exact Try.func62));kernel_rfl;rfl;(focus((simp(disch:=omega) only[go_sem,W]);(try rfl);done));(first|rfl|simp[AV.inNL,AV.inN])))|((first|((with_reducible apply Q0u);rfl;rfl)|((with_reducible apply Q0s);rfl;rfl;rfl;rfl;rfl));(simp(disch:=omega) only[rdE,rdOf,go_sem,W];rfl);(intro τ hA hQ hN;((try simp only[Q1h,Op.operands,Call.operands,go_sem,W,go_sem,List.mem_cons,List.not_mem_nil,forall_eq_or_imp,forall_eq,List.append_toArray,Option.toArray] at hA);(try simp only[go_sem,W,List.mem_cons,List.not_mem_nil,forall_eq_or_imp,forall_eq] at hQ hN);(first|(revert hA;intro hA)|have hA:=trivial);(first|(revert hQ;intro hQ)|have hQ:=trivial);(first|(revert hN;intro hN)|have hN:=trivial);simp(disch:=omega) only[go_sem,W,go_sem,hA,hQ,hN];(repeat(refine ndI (by first|assumption|omega|rfl) ?_));(first|apply Q1b|apply Q1a|apply Q0w)))));(simp(disch:=omega) only[St.eff,setO,Q0q,go_sem,W]))|((with_reducible apply Q0o);rfl;rfl;rfl;all_goals intro hb;all_goals(simp(disch:=omega) only[St.eff,setO,Q0q,go_sem,W]))|((with_reducible refine Q0p ?_ ?_ ?_ ?_);kernel_rfl;kernel_rfl;(first|kernel_rfl|simp[Q0m,Q1j,St.free,Q1i,AV.refsL,AV.refs]);intro R hR)))))
       all_goals first
        |exact hΨ _ hlt (St.le_of (by simp[leT]) (by simp[leH,hget]))
        |(rw[hr];(refine⟨by simp,⟨_,?_,AV.le_refl _⟩,Q0y (by simp[leH,hget])⟩;simp only[Try.results49,resL,ldA,Q1o,go_sem]))
   · have k1:(decide ((i:Int)<(L.length:Int)))=false:=decide_eq_false (by omega)
     have e:i=L.length:=by omega
     rw[e,hrr]
     rw[e] at k1
     (repeat(any_goals(first|((with_reducible refine Q0g ?_ ?_);rfl;intro K hK;simp only[go_sem,k1];((repeat(refine ndI (by first|assumption|omega|rfl) ?_));refine hK _ ?_;clear hK K))|(with_reducible first|(refine Q0i ?_;refine hR _ ?_;clear hR R)|((first|refine Q0h ?_|refine Q0c ?_|refine Q4q ?_);intro Ψ hΨ hΨ')|(refine Q0b ?_;intro R hR)|(refine hΨ _ ?_;clear hΨ hΨ' Ψ)|refine Q0d ?_|refine Q0j ?_|refine Q0e ?_|refine Q4r ?_)|((with_reducible refine hΨ' _ _ ?_ ?_);(focus(simp;done));clear hΨ hΨ' Ψ)|((with_reducible apply Q1e);rfl;rfl;rfl;(try simp only[go_sem,k1]))|((with_reducible apply Q1l);rfl;rfl;rfl;all_goals(intro hb;first|(cases hb;done)|((try simp only[Bool.not_true,Bool.not_false] at hb);(first|((with_reducible intro K hK);simp only[go_sem,k1];((repeat(refine ndI (by first|assumption|omega|rfl) ?_));refine hK _ ?_;clear hK K))|((fail_if_success (with_reducible intro _));simp only[go_sem,k1])))))|((with_reducible apply Q0f);rfl;rfl;all_goals(intro hc;first|(cases hc;done)|(try simp only at hc)))|((with_reducible refine Q0t ?_ ?_);kernel_rfl;(with_reducible refine hR _ ?_);clear hR R)|((first|((with_reducible apply Q0r);rfl;rfl;rfl;rfl)|((with_reducible apply Q0n);rfl;rfl;rfl)|((first|((with_reducible apply Q0u);rfl;rfl)|((with_reducible apply Q0s);rfl;rfl;rfl;rfl;rfl));(simp only[rdE,rdOf,go_sem,k1];rfl);(intro τ hA hQ hN;((try simp only[Q1h,Op.operands,Call.operands,go_sem,k1,go_sem,List.mem_cons,List.not_mem_nil,forall_eq_or_imp,forall_eq,List.append_toArray,Option.toArray] at hA);(try simp only[go_sem,k1,List.mem_cons,List.not_mem_nil,forall_eq_or_imp,forall_eq] at hQ hN);(first|(revert hA;intro hA)|have hA:=trivial);(first|(revert hQ;intro hQ)|have hQ:=trivial);(first|(revert hN;intro hN)|have hN:=trivial);simp only[go_sem,k1,go_sem,hA,hQ,hN];(repeat(refine ndI (by first|assumption|omega|rfl) ?_));(first|apply Q1b|apply Q1a|apply Q0w)))));(simp only[St.eff,setO,Q0q,go_sem,k1]))|((with_reducible apply Q0o);rfl;rfl;rfl;all_goals intro hb;all_goals(simp only[St.eff,setO,Q0q,go_sem,k1]))|((with_reducible refine Q0p ?_ ?_ ?_ ?_);kernel_rfl;kernel_rfl;(first|kernel_rfl|simp[Q0m,Q1j,St.free,Q1i,AV.refsL,AV.refs]);intro R hR))))
     all_goals simp only[Bool.not_eq_true',Bool.not_eq_false'] at hc
     all_goals rw[hc]
     all_goals(refine⟨by simp,⟨_,?_,AV.le_refl _⟩,Q0y (by simp[leH,hget])⟩;simp only[Try.results49,resL,ldA,Q1o,go_sem])
 · (refine Q1q Try.func49 rfl (by rfl) ?_;simp only[Try.ntmps49,List.length_cons,List.length_nil,Nat.reduceAdd,Nat.reduceSub,List.replicate,List.cons_append,List.nil_append])
   cases s1<;>cases s2
   all_goals first|(exact absurd hq (by decide))|skip
   all_goals(repeat(any_goals(first|((with_reducible refine Q1d ?_ ?_ ?_);rfl;rfl;intro K hK;((apply Q0x (tn);rfl;rfl;rfl;rfl;exact Try.func50);kernel_rfl;rfl;(focus((simp only[go_sem,f1]);(try rfl);done));(first|rfl|simp[AV.inNL,AV.inN]));(simp only[go_sem,f1];refine hK _ ?_;clear hK K))|((with_reducible refine Q0g ?_ ?_);rfl;intro K hK;simp only[go_sem,f1];((repeat(refine ndI (by first|assumption|omega|rfl) ?_));refine hK _ ?_;clear hK K))|(with_reducible first|(refine Q0i ?_;refine hR _ ?_;clear hR R)|((first|refine Q0h ?_|refine Q0c ?_|refine Q4q ?_);intro Ψ hΨ hΨ')|(refine Q0b ?_;intro R hR)|(refine hΨ _ ?_;clear hΨ hΨ' Ψ)|refine Q0d ?_|refine Q0j ?_|refine Q0e ?_|refine Q4r ?_)|((with_reducible refine hΨ' _ _ ?_ ?_);(focus(simp;done));clear hΨ hΨ' Ψ)|((with_reducible apply Q1e);rfl;rfl;rfl;(try simp only[go_sem,f1]))|((with_reducible apply Q1l);rfl;rfl;rfl;all_goals(intro hb;first|(cases hb;done)|((try simp only[Bool.not_true,Bool.not_false] at hb);(first|((with_reducible intro K hK);(first|((apply Q0x (mn);rfl;rfl;rfl;rfl;exact Try.func60);kernel_rfl;rfl;(focus((simp only[go_sem,f1]);(try rfl);done));(first|rfl|simp[AV.inNL,AV.inN]))|skip);simp only[go_sem,f1];((repeat(refine ndI (by first|assumption|omega|rfl) ?_));refine hK _ ?_;clear hK K))|((fail_if_success (with_reducible intro _));simp only[go_sem,f1])))))|((with_reducible apply Q0f);rfl;rfl;all_goals(intro hc;first|(cases hc;done)|(try simp only at hc)))|((with_reducible refine Q0t ?_ ?_);kernel_rfl;(with_reducible refine hR _ ?_);clear hR R)|((first|((with_reducible apply Q0r);rfl;rfl;rfl;rfl)|((with_reducible apply Q0n);rfl;rfl;rfl)|((first|((with_reducible apply Q0u);rfl;rfl)|((with_reducible apply Q0s);rfl;rfl;rfl;rfl;rfl));(simp only[rdE,rdOf,go_sem,f1];rfl);(intro τ hA hQ hN;((try simp only[Q1h,Op.operands,Call.operands,go_sem,f1,go_sem,List.mem_cons,List.not_mem_nil,forall_eq_or_imp,forall_eq,List.append_toArray,Option.toArray] at hA);(try simp only[go_sem,f1,List.mem_cons,List.not_mem_nil,forall_eq_or_imp,forall_eq] at hQ hN);(first|(revert hA;intro hA)|have hA:=trivial);(first|(revert hQ;intro hQ)|have hQ:=trivial);(first|(revert hN;intro hN)|have hN:=trivial);simp only[go_sem,f1,go_sem,hA,hQ,hN];(repeat(refine ndI (by first|assumption|omega|rfl) ?_));(first|apply Q1b|apply Q1a|apply Q0w)))));(simp only[St.eff,setO,Q0q,go_sem,f1]))|((with_reducible apply Q0o);rfl;rfl;rfl;all_goals intro hb;all_goals(simp only[St.eff,setO,Q0q,go_sem,f1]))|((with_reducible refine Q0p ?_ ?_ ?_ ?_);kernel_rfl;kernel_rfl;(first|kernel_rfl|simp[Q0m,Q1j,St.free,Q1i,AV.refsL,AV.refs]);intro R hR))))
   all_goals refine Q5a L.length (fun i=>⟨[.any,.ptr 1 0,vi .i64 0,.any,vb false,.any,.any,.any,.any,.any,.any,.any,.any,.any,.any,.any,.any,.any,.any,acS ex L,vi .i64 L.length,vi .i64 (i:Int),.any,.any,.any,.any,.any,.any,.any,.any,.any,.any,.any,.any,.any,.any,.any,.any,.any,.any,.any,.any,.any,.any,.any,.any,.any,.any,.any,.any,.any,.any,.any,.any,.any,.any,.any,.any],[(1,[acS ex L])]⟩) (St.le_of (by simp[leT]) (by simp[leH,hget])) ?_
   all_goals intro i hi Ψ hΨ hΨ'
   all_goals(try dsimp only at hΨ ⊢)
   all_goals rcases Nat.lt_or_ge i L.length with hlt|hge
   all_goals first
    |(have k1:(decide ((i:Int)<(L.length:Int)))=true:=decide_eq_true (by omega)
      have hx:=hlt
      obtain⟨x,hx⟩:∃x,L[i]? = some x:=⟨_,List.getElem?_eq_getElem hx⟩
      have k2:=X2w hx)
    |(have k1:(decide ((i:Int)<(L.length:Int)))=false:=decide_eq_false (by omega)
      have k2:=True.intro)
   all_goals(repeat(any_goals(first|((with_reducible refine Q0g ?_ ?_);rfl;intro K hK;simp(disch:=omega) only[go_sem,k1,k2];((repeat(refine ndI (by first|assumption|omega|rfl) ?_));refine hK _ ?_;clear hK K))|(with_reducible first|(refine Q0i ?_;refine hR _ ?_;clear hR R)|((first|refine Q0h ?_|refine Q0c ?_|refine Q4q ?_);intro Ψ hΨ hΨ')|(refine Q0b ?_;intro R hR)|(refine hΨ _ ?_;clear hΨ hΨ' Ψ)|refine Q0d ?_|refine Q0j ?_|refine Q0e ?_|refine Q4r ?_)|((with_reducible refine hΨ' _ _ ?_ ?_);(focus(simp;done));clear hΨ hΨ' Ψ)|((with_reducible apply Q1e);rfl;rfl;rfl;(try simp(disch:=omega) only[go_sem,k1,k2]))|((with_reducible apply Q1l);rfl;rfl;rfl;all_goals(intro hb;first|(cases hb;done)|((try simp only[Bool.not_true,Bool.not_false] at hb);(first|((with_reducible intro K hK);simp(disch:=omega) only[go_sem,k1,k2];((repeat(refine ndI (by first|assumption|omega|rfl) ?_));refine hK _ ?_;clear hK K))|((fail_if_success (with_reducible intro _));simp(disch:=omega) only[go_sem,k1,k2])))))|((with_reducible apply Q0f);rfl;rfl;all_goals(intro hc;first|(cases hc;done)|(try simp only at hc)))|((with_reducible refine Q0t ?_ ?_);kernel_rfl;(with_reducible refine hR _ ?_);clear hR R)|((first|((with_reducible apply Q0r);rfl;rfl;rfl;rfl)|((with_reducible apply Q0n);rfl;rfl;rfl)|((first|((with_reducible apply Q0u);rfl;rfl)|((with_reducible apply Q0s);rfl;rfl;rfl;rfl;rfl));(simp(disch:=omega) only[rdE,rdOf,go_sem,k1,k2];rfl);(intro τ hA hQ hN;((try simp only[Q1h,Op.operands,Call.operands,go_sem,k1,k2,go_sem,List.mem_cons,List.not_mem_nil,forall_eq_or_imp,forall_eq,List.append_toArray,Option.toArray] at hA);(try simp only[go_sem,k1,k2,List.mem_cons,List.not_mem_nil,forall_eq_or_imp,forall_eq] at hQ hN);(first|(revert hA;intro hA)|have hA:=trivial);(first|(revert hQ;intro hQ)|have hQ:=trivial);(first|(revert hN;intro hN)|have hN:=trivial);simp(disch:=omega) only[go_sem,k1,k2,go_sem,hA,hQ,hN];(repeat(refine ndI (by first|assumption|omega|rfl) ?_));(first|apply Q1b|apply Q1a|apply Q0w)))));(simp(disch:=omega) only[St.eff,setO,Q0q,go_sem,k1,k2]))|((with_reducible apply Q0o);rfl;rfl;rfl;all_goals intro hb;all_goals(simp(disch:=omega) only[St.eff,setO,Q0q,go_sem,k1,k2]))|((with_reducible refine Q0p ?_ ?_ ?_ ?_);kernel_rfl;kernel_rfl;(first|kernel_rfl|simp[Q0m,Q1j,St.free,Q1i,AV.refsL,AV.refs]);intro R hR))))
   all_goals(refine⟨by simp,⟨_,?_,AV.le_refl _⟩,Q0y (by simp[leH,hget])⟩;simp only[Try.results49,resL,ldA,Q1o,go_sem])
end Go.Proofs.Ytbmcdemnnbndeaa
namespace Go.Proofs.Ytbmcdemnnbndeaa.lg
open Go.RowKit
set_option maxRecDepth 20000
set_option maxHeartbeats 2000000
structure Hd where
 a:Int
 p:Nat
 s:Nat
 d:Int
 f:Int
def Hd.pv(h:Hd):List PV:=[.v (.int .u64 h.a),.v (.int .u64 (l0 h.p)),.v (.int .u64 (l1 h.p)),.v (.int .u64 (l2 h.p)),.v (.int .u64 (l3 h.p)),.v (.int .u64 (l0 h.s)),.v (.int .u64 (l1 h.s)),.v (.int .u64 (l2 h.s)),.v (.int .u64 (l3 h.s)),.v (.int .u64 h.d),.v (.int .u64 h.f)]
def Hd.ok(h:Hd):Prop:=U h.a∧h.p<WW∧h.s<WW∧U h.d∧U h.f
theorem hd_len(h:Hd):h.pv.length=11:=rfl
abbrev c11(a:Int)(p s:Nat)(d f:Int):List AV:=[vi .u64 a,vi .u64 (l0 p),vi .u64 (l1 p),vi .u64 (l2 p),vi .u64 (l3 p),vi .u64 (l0 s),vi .u64 (l1 s),vi .u64 (l2 s),vi .u64 (l3 s),vi .u64 d,vi .u64 f]
abbrev h11(a:Int)(p s:Nat)(d f:Int):AV:=.agg (c11 a p s d f)
abbrev hsl(ex:Bool)(l:List Hd):AV:=.c (.sl ex 11 l.length (l.flatMap Hd.pv))
abbrev lg(ex:Bool)(l:List Hd):AV:=.agg [hsl ex l]
abbrev nilS:AV:=.c (.v (.slice none 0 0))
theorem X2g{l:List Hd}{i:Nat}{y:Hd}(h:l[i]? = some y):((l.flatMap Hd.pv).drop (i*11)).take 11=[.v (.int .u64 y.a),.v (.int .u64 (l0 y.p)),.v (.int .u64 (l1 y.p)),.v (.int .u64 (l2 y.p)),.v (.int .u64 (l3 y.p)),.v (.int .u64 (l0 y.s)),.v (.int .u64 (l1 y.s)),.v (.int .u64 (l2 y.s)),.v (.int .u64 (l3 y.s)),.v (.int .u64 y.d),.v (.int .u64 y.f)]:=Q4y (f:=Hd.pv) hd_len h
end Go.Proofs.Ytbmcdemnnbndeaa.lg
namespace Go.Proofs.Ytbmcdemnnbndeaa.lg
open Go.RowKit
open Nat (reduceBEq)
set_option maxRecDepth 20000
set_option maxHeartbeats 2000000
theorem X3k(x:Nat)(hx:x<WW):Fn Try.prog 80 [wN x] [] (vb (decide (x=0))) []:=by
 have h:=X2z hx
 obtain⟨q,hq⟩:∃q,decide (x=0)=q:=⟨_,rfl⟩
 rw[hq] at h ⊢
 (refine Q1q Try.func80 rfl (by rfl) ?_;simp only[Try.ntmps80,List.length_cons,List.length_nil,Nat.reduceAdd,Nat.reduceSub,List.replicate,List.cons_append,List.nil_append])
 (repeat(any_goals(first|((with_reducible refine Q0g ?_ ?_);rfl;intro K hK;simp only[go_sem,h];((repeat(refine ndI (by first|assumption|omega|rfl) ?_));refine hK _ ?_;clear hK K))|(with_reducible first|(refine Q0i ?_;refine hR _ ?_;clear hR R)|((first|refine Q0h ?_|refine Q0c ?_);intro Ψ hΨ hΨ')|(refine Q0b ?_;intro R hR)|(refine hΨ _ ?_;clear hΨ hΨ' Ψ)|refine Q0d ?_|refine Q0j ?_|refine Q0e ?_)|((with_reducible refine hΨ' _ _ ?_ ?_);(focus(simp;done));clear hΨ hΨ' Ψ)|((with_reducible apply Q0f);rfl;rfl;all_goals(intro hc;first|(cases hc;done)|(try simp only at hc))))))
 all_goals(refine⟨by simp,⟨_,?_,AV.le_refl _⟩,Q0y (by simp[leH,hget])⟩;simp only[Try.results80,resL,ldA,Q1o,go_sem])
theorem X0w(a:Int)(p s:Nat)(d f:Int)(hp:p<WW)(hs:s<WW):Fn Try.prog 79 [h11 a p s d f] [] (vb (decide (p=0)&&decide (s=0))) []:=by
 have h1:=X3k p hp
 have h2:=X3k s hs
 generalize decide (p=0)=q1 at h1
 generalize decide (s=0)=q2 at h2
 cases q1 with
 |true=>
  (refine Q1q Try.func79 rfl (by rfl) ?_;simp only[Try.ntmps79,List.length_cons,List.length_nil,Nat.reduceAdd,Nat.reduceSub,List.replicate,List.cons_append,List.nil_append])
  (repeat(any_goals(first|((with_reducible refine Q1d ?_ ?_ ?_);rfl;rfl;intro K hK;(first|((apply Q0x (h1);rfl;rfl;rfl;rfl;exact Try.func80);kernel_rfl;rfl;(focus((simp only[go_sem]);(try rfl);done));(first|rfl|simp[AV.inNL,AV.inN]))|((apply Q0x (h2);rfl;rfl;rfl;rfl;exact Try.func80);kernel_rfl;rfl;(focus((simp only[go_sem]);(try rfl);done));(first|rfl|simp[AV.inNL,AV.inN])));(simp only[go_sem];refine hK _ ?_;clear hK K))|((with_reducible refine Q0g ?_ ?_);rfl;intro K hK;simp only[go_sem];((repeat(refine ndI (by first|assumption|omega|rfl) ?_));refine hK _ ?_;clear hK K))|(with_reducible first|(refine Q0i ?_;refine hR _ ?_;clear hR R)|((first|refine Q0h ?_|refine Q0c ?_);intro Ψ hΨ hΨ')|(refine Q0b ?_;intro R hR)|(refine hΨ _ ?_;clear hΨ hΨ' Ψ)|refine Q0d ?_|refine Q0j ?_|refine Q0e ?_)|((with_reducible refine hΨ' _ _ ?_ ?_);(focus(simp;done));clear hΨ hΨ' Ψ)|((with_reducible apply Q1e);rfl;rfl;rfl;(try simp only[go_sem]))|((with_reducible apply Q1l);rfl;rfl;rfl;all_goals(intro hb;first|(cases hb;done)|((try simp only[Bool.not_true,Bool.not_false] at hb);(first|((with_reducible intro K hK);(first|((apply Q0x (h2);rfl;rfl;rfl;rfl;exact Try.func80);kernel_rfl;rfl;(focus((simp only[go_sem]);(try rfl);done));(first|rfl|simp[AV.inNL,AV.inN]))|skip);simp only[go_sem];((repeat(refine ndI (by first|assumption|omega|rfl) ?_));refine hK _ ?_;clear hK K))|((fail_if_success (with_reducible intro _));simp only[go_sem])))))|((with_reducible apply Q0f);rfl;rfl;all_goals(intro hc;first|(cases hc;done)|(try simp only at hc))))))
  all_goals(refine⟨by simp,⟨_,?_,AV.le_refl _⟩,Q0y (by simp[leH,hget])⟩;simp only[Try.results79,resL,ldA,Q1o,go_sem])
 |false=>
  (refine Q1q Try.func79 rfl (by rfl) ?_;simp only[Try.ntmps79,List.length_cons,List.length_nil,Nat.reduceAdd,Nat.reduceSub,List.replicate,List.cons_append,List.nil_append])
  (repeat(any_goals(first|((with_reducible refine Q1d ?_ ?_ ?_);rfl;rfl;intro K hK;((apply Q0x (h1);rfl;rfl;rfl;rfl;exact Try.func80);kernel_rfl;rfl;(focus((simp only[go_sem]);(try rfl);done));(first|rfl|simp[AV.inNL,AV.inN]));(simp only[go_sem];refine hK _ ?_;clear hK K))|((with_reducible refine Q0g ?_ ?_);rfl;intro K hK;simp only[go_sem];((repeat(refine ndI (by first|assumption|omega|rfl) ?_));refine hK _ ?_;clear hK K))|(with_reducible first|(refine Q0i ?_;refine hR _ ?_;clear hR R)|((first|refine Q0h ?_|refine Q0c ?_);intro Ψ hΨ hΨ')|(refine Q0b ?_;intro R hR)|(refine hΨ _ ?_;clear hΨ hΨ' Ψ)|refine Q0d ?_|refine Q0j ?_|refine Q0e ?_)|((with_reducible refine hΨ' _ _ ?_ ?_);(focus(simp;done));clear hΨ hΨ' Ψ)|((with_reducible apply Q1e);rfl;rfl;rfl;(try simp only[go_sem]))|((with_reducible apply Q1l);rfl;rfl;rfl;all_goals(intro hb;first|(cases hb;done)|((try simp only[Bool.not_true,Bool.not_false] at hb);(first|((with_reducible intro K hK);simp only[go_sem];((repeat(refine ndI (by first|assumption|omega|rfl) ?_));refine hK _ ?_;clear hK K))|((fail_if_success (with_reducible intro _));simp only[go_sem])))))|((with_reducible apply Q0f);rfl;rfl;all_goals(intro hc;first|(cases hc;done)|(try simp only at hc))))))
  all_goals(refine⟨by simp,⟨_,?_,AV.le_refl _⟩,Q0y (by simp[leH,hget])⟩;simp only[Try.results79,resL,ldA,Q1o,go_sem])
  all_goals rw[Bool.false_and]
def X1n(h:Hd):Bool:=(h.a != 0)&&(decide (h.d≤1073741824)&&(decide (h.f≤1100585369600)&&(!(decide (h.p=0)&&decide (h.s=0))&&(((h.d==0)==decide (h.s=0))&&((h.f==0) || !decide (h.s=0))))))
theorem Q7z(a:Int)(p s:Nat)(d f:Int)(hp:p<WW)(hs:s<WW):Fn Try.prog 58 [h11 a p s d f] [] (vb (X1n ⟨a,p,s,d,f⟩)) []:=by
 have h1:=X0w a p s d f hp hs
 have h2:=X3k s hs
 unfold X1n
 dsimp only
 generalize decide (p=0)=q1 at h1
 generalize decide (s=0)=q2 at h1 h2
 (refine Q1q Try.func58 rfl (by rfl) ?_;simp only[Try.ntmps58,List.length_cons,List.length_nil,Nat.reduceAdd,Nat.reduceSub,List.replicate,List.cons_append,List.nil_append])
 (repeat(any_goals(first|((with_reducible refine Q0g ?_ ?_);rfl;intro K hK;simp only[go_sem];((repeat(refine ndI (by first|assumption|omega|rfl) ?_));refine hK _ ?_;clear hK K))|(with_reducible first|(refine Q0i ?_;refine hR _ ?_;clear hR R)|((first|refine Q0h ?_|refine Q0c ?_);intro Ψ hΨ hΨ')|(refine Q0b ?_;intro R hR)|(refine hΨ _ ?_;clear hΨ hΨ' Ψ)|refine Q0d ?_|refine Q0j ?_|refine Q0e ?_)|((with_reducible refine hΨ' _ _ ?_ ?_);(focus(simp;done));clear hΨ hΨ' Ψ)|((with_reducible apply Q1e);rfl;rfl;rfl;(try simp only[go_sem]))|((with_reducible apply Q1l);rfl;rfl;rfl;all_goals(intro hb;first|(cases hb;done)|((try simp only[Bool.not_true,Bool.not_false] at hb);(first|((with_reducible intro K hK);(first|((apply Q0x (h1);rfl;rfl;rfl;rfl;exact Try.func79);kernel_rfl;rfl;(focus((simp only[go_sem]);(try rfl);done));(first|rfl|simp[AV.inNL,AV.inN]))|skip);simp only[go_sem];((repeat(refine ndI (by first|assumption|omega|rfl) ?_));refine hK _ ?_;clear hK K))|((fail_if_success (with_reducible intro _));simp only[go_sem])))))|((with_reducible apply Q0f);rfl;rfl;all_goals(intro hc;first|(cases hc;done)|(try simp only at hc)))|((with_reducible refine Q0t ?_ ?_);kernel_rfl;(with_reducible refine hR _ ?_);clear hR R)|((first|((with_reducible apply Q0r);rfl;rfl;rfl;rfl)|((with_reducible apply Q0n);rfl;rfl;rfl)|((first|((with_reducible apply Q1m);rfl;rfl)|((with_reducible apply Q1p);rfl;rfl;rfl;rfl;rfl));((apply Q1g (h2);rfl;rfl;rfl;rfl;exact Try.func80);kernel_rfl;rfl;(focus((simp only[go_sem]);(try rfl);done));(first|rfl|simp[AV.inNL,AV.inN])))|((first|((with_reducible apply Q0u);rfl;rfl)|((with_reducible apply Q0s);rfl;rfl;rfl;rfl;rfl));(simp only[rdE,rdOf,go_sem];rfl);(intro τ hA hQ hN;((try simp only[Q1h,Op.operands,Call.operands,go_sem,List.mem_cons,List.not_mem_nil,forall_eq_or_imp,forall_eq,List.append_toArray,Option.toArray] at hA);(try simp only[go_sem,List.mem_cons,List.not_mem_nil,forall_eq_or_imp,forall_eq] at hQ hN);(first|(revert hA;intro hA)|have hA:=trivial);(first|(revert hQ;intro hQ)|have hQ:=trivial);(first|(revert hN;intro hN)|have hN:=trivial);simp only[go_sem,hA,hQ,hN];(repeat(refine ndI (by first|assumption|omega|rfl) ?_));(first|apply Q1b|apply Q1a|apply Q0w)))));(simp only[St.eff,setO,Q0q,go_sem]))|((with_reducible apply Q0o);rfl;rfl;rfl;all_goals intro hb;all_goals(simp only[St.eff,setO,Q0q,go_sem]))|((with_reducible refine Q0p ?_ ?_ ?_ ?_);kernel_rfl;kernel_rfl;(first|kernel_rfl|simp[Q0m,Q1j,St.free,Q1i,AV.refsL,AV.refs]);intro R hR))))
 all_goals(refine⟨by simp,⟨_,?_,AV.le_refl _⟩,Q0y (by simp[leH,hget])⟩;simp only[Try.results58,resL,ldA,Q1o,go_sem])
 all_goals clear h1 h2
 all_goals(cases q1<;>cases q2<;>simp_all)
 all_goals omega
def tot(l:List Hd):Nat:=(l.map fun h=>h.p+h.s).sum
def wds(l:List Hd):List Nat:=l.flatMap fun h=>[h.p,h.s]
theorem wds_sum(l:List Hd):(wds l).sum=tot l:=by
 induction l with
 |nil=>rfl
 |cons h l ih=>simp only[wds,tot,List.flatMap_cons,List.map_cons,List.sum_cons,List.sum_append,List.sum_nil] at *;omega
theorem wds_len(l:List Hd):(wds l).length=l.length*2:=by
 induction l with
 |nil=>rfl
 |cons h l ih=>simp only[wds,List.flatMap_cons,List.length_append,List.length_cons,List.length_nil] at *;omega
theorem wds_lt{l:List Hd}(ok:∀h∈l,h.ok):∀x∈wds l,x<WW:=fun x hx=>by
 unfold wds at hx
 rw[List.mem_flatMap] at hx
 obtain⟨h,hh,hx⟩:=hx
 simp only[List.mem_cons,List.not_mem_nil,or_false] at hx
 rcases hx with rfl|rfl
 · exact(ok h hh).2.1
 · exact(ok h hh).2.2.1
theorem rcW_snoc2(l:List Nat)(x y:Nat):rcW (l++[x,y])=rcW l++[vi .u64 (l0 x),vi .u64 (l1 x),vi .u64 (l2 x),vi .u64 (l3 x),vi .u64 (l0 y),vi .u64 (l1 y),vi .u64 (l2 y),vi .u64 (l3 y)]:=by
 simp[rcW,wpv]
theorem wds_snoc{l:List Hd}{i:Nat}{y:Hd}(hy:l[i]? = some y):wds (l.take (i+1))=wds (l.take i)++[y.p,y.s]:=by
 unfold wds
 rw[List.take_add_one,hy]
 simp
abbrev stAl(ex:Bool)(l:List Hd)(r:Nat)(out:List Nat)(i:Nat):St:=⟨[.any,.row r 30 4 out.length,.ptr 2 0,.any,.ptr 4 0,.any,.any,.any,.any,hsl ex l,vi .i64 l.length,vi .i64 i,.any,.any,.any,.any,.any,.any,.any,.any,.any,.any,.any,.any,.any,.any,.any],[(2,[hsl ex l]),(4,[vi .u64 0,vi .u64 0,vi .u64 0,vi .u64 0]),(r,rcW out)]⟩
theorem stAl_rn(ex:Bool)(l:List Hd)(out:List Nat)(i:Nat):(stAl ex l 21 out i).to (stAl ex l 500 out i):=by
 have h:=St.to.rn (σ:=stAl ex l 21 out i) (fun r=>if r=21 then 500 else r) (fun r=>if r=500 then 21 else r) [2,4,21] (by simp[AV.inNL,AV.inN]) (by simp) (by simp[inH,AV.inNL,AV.inN,Q6f]) (by simp) (by simp)
 simpa [AV.renL,AV.ren,renH,Q4u] using h
theorem all_nil(ex:Bool)(l:List Hd)(hl:l.length≤400)(ok:∀h∈l,h.ok):Fn Try.prog 54 [lg ex l,nilS] [] (.tup [wN (tot l%WW),vb (decide (WW≤tot l))]) []:=by
 have hsum:=X1h false (wds l) (by rw[wds_len];omega) (wds_lt ok)
 rw[wds_sum] at hsum
 obtain⟨tn,htn⟩:∃n,tot l%WW=n:=⟨_,rfl⟩
 obtain⟨tq,htq⟩:∃q,decide (WW≤tot l)=q:=⟨_,rfl⟩
 rw[htn,htq] at hsum ⊢
 (refine Q1q Try.func54 rfl (by rfl) ?_;simp only[Try.ntmps54,List.length_cons,List.length_nil,Nat.reduceAdd,Nat.reduceSub,List.replicate,List.cons_append,List.nil_append])
 (repeat(any_goals(first|((with_reducible refine Q0g ?_ ?_);rfl;intro K hK;simp only[go_sem];((repeat(refine ndI (by first|assumption|omega|rfl) ?_));refine hK _ ?_;clear hK K))|(with_reducible first|(refine Q0i ?_;refine hR _ ?_;clear hR R)|((first|refine Q0h ?_|refine Q0c ?_);intro Ψ hΨ hΨ')|(refine Q0b ?_;intro R hR)|(refine hΨ _ ?_;clear hΨ hΨ' Ψ)|refine Q0d ?_|refine Q0j ?_|refine Q0e ?_)|((with_reducible refine hΨ' _ _ ?_ ?_);(focus(simp;done));clear hΨ hΨ' Ψ)|((with_reducible apply Q0f);rfl;rfl;all_goals(intro hc;first|(cases hc;done)|(try simp only at hc))))))
 refine Q5u l.length (fun i=>stAl ex l 500 (wds (l.take i)) i) ?_ ?_
 · refine St.to.trans (St.to.of_le (τ:=⟨[.any,.c (.v (.slice none 0 0)),.ptr 2 0,.any,.ptr 4 0,.any,.any,.any,.any,hsl ex l,vi .i64 l.length,vi .i64 0,.any,.any,.any,.any,.any,.any,.any,.any,.any,.any,.any,.any,.any,.any,.any],[(2,[hsl ex l]),(4,[vi .u64 0,vi .u64 0,vi .u64 0,vi .u64 0])]⟩) (St.le_of (by simp[leT]) (by simp[leH,hget]))) ?_
   refine St.to.trans (St.to.nilrow 1 500 30 4 rfl (by simp) (by simp[St.free,Q1i,AV.refsL,AV.refs]) (by decide)) (St.to.of_le (St.le_of (by simp[leT,wds]) (by simp[leH,hget,hput,rcW,wds])))
 intro i hi Ψ hΨ hΨ'
 dsimp only[stAl] at hΨ ⊢
 rcases Nat.lt_or_ge i l.length with hlt|hge
 · obtain⟨y,hy⟩:∃y,l[i]? = some y:=⟨l[i],List.getElem?_eq_getElem hlt⟩
   have k1:(decide ((i:Int)<(l.length:Int)))=true:=by simpa using hlt
   have k2:=X2g hy
   have k7:(i:Int)+1=((i+1:Nat):Int):=by omega
   have k5:=wds_len (l.take i)
   have k6:(l.take i).length≤400:=by simp;omega
   have hs:=wds_snoc hy
   rw[hs] at hΨ
   generalize wds (l.take i)=out at k5 hΨ ⊢
   have k4:=Q8k out
   have k9:∀r,AV.refsL r (rcW out)=false:=fun r=>Q0z r _
   (have W:=ndI k1 (ndI k2 (ndI k4 (ndI k7 (ndI k9 (ndI @wrI @Q0z)))));(repeat(any_goals(first|((with_reducible refine Q0g ?_ ?_);rfl;intro K hK;simp(disch:=omega) only[go_sem,W,Q5i,AV.refsL,AV.refs,List.length_append,List.length_cons,List.length_nil,Bool.or_false];((repeat(refine ndI (by first|assumption|omega|rfl) ?_));refine hK _ ?_;clear hK K))|(with_reducible first|(refine Q0i ?_;refine hR _ ?_;clear hR R)|((first|refine Q0h ?_|refine Q0c ?_);intro Ψ hΨ hΨ')|(refine Q0b ?_;intro R hR)|(refine hΨ _ ?_;clear hΨ hΨ' Ψ)|refine Q0d ?_|refine Q0j ?_|refine Q0e ?_)|((with_reducible refine hΨ' _ _ ?_ ?_);(focus(simp;done));clear hΨ hΨ' Ψ)|((with_reducible apply Q0f);rfl;rfl;all_goals(intro hc;first|(cases hc;done)|(try simp only at hc)))))))
   exact hΨ _ hlt (St.to.trans (St.to.of_le (τ:=stAl ex l 21 (out++[y.p,y.s]) (i+1)) (St.le_of (by simp[leT]) (by simp[leH,hget,rcW_snoc2]))) (stAl_rn ex l _ _))
 · have k1:(decide ((i:Int)<(l.length:Int)))=false:=by simpa using hge
   have e:l.take i=l:=List.take_of_length_le hge
   rw[e]
   have k4:=Q8k (wds l)
   have k5:unC (rcW (wds l))=some ((wds l).flatMap wpv):=unC_map _
   (have W:=ndI k1 (ndI k4 k5);(repeat(any_goals(first|((with_reducible refine Q1d ?_ ?_ ?_);rfl;rfl;intro K hK;((apply Q5o (hsum);rfl;rfl;rfl;rfl;exact Try.func19);kernel_rfl;rfl;(focus((simp(disch:=omega) only[AV.viewL,AV.view,Q3w,unC,Option.map_some,go_sem,W,Q1u Q5d]);(try rfl)));rfl);(simp(disch:=omega) only[go_sem,W,Q1u Q5d];refine hK _ ?_;clear hK K))|((with_reducible refine Q0g ?_ ?_);rfl;intro K hK;simp(disch:=omega) only[go_sem,W,Q1u Q5d];((repeat(refine ndI (by first|assumption|omega|rfl) ?_));refine hK _ ?_;clear hK K))|(with_reducible first|(refine Q0i ?_;refine hR _ ?_;clear hR R)|((first|refine Q0h ?_|refine Q0c ?_);intro Ψ hΨ hΨ')|(refine Q0b ?_;intro R hR)|(refine hΨ _ ?_;clear hΨ hΨ' Ψ)|refine Q0d ?_|refine Q0j ?_|refine Q0e ?_)|((with_reducible refine hΨ' _ _ ?_ ?_);(focus(simp;done));clear hΨ hΨ' Ψ)|((with_reducible apply Q0f);rfl;rfl;all_goals(intro hc;first|(cases hc;done)|(try simp only at hc)))))))
   all_goals(refine⟨by simp,⟨_,?_,AV.le_refl _⟩,Q0y (by simp[leH,hget])⟩;simp only[Try.results54,resL,ldA,Q1o,go_sem])
end Go.Proofs.Ytbmcdemnnbndeaa.lg
namespace Go.Proofs.Ytbmcdemnnbndeaa.lg
open Go.RowKit
open Nat (reduceBEq)
set_option maxRecDepth 20000
set_option maxHeartbeats 2000000
def X0r(l:List Hd):Nat→Int
 |0=>0
 |i+1=>match l[i]? with|some y=>y.a|none=>0
def okR(l:List Hd)(i:Nat):Bool:=match l[i]? with|some y=>X1n y&&decide (X0r l i<y.a)|none=>false
def okU(l:List Hd):Nat→Bool
 |0=>true
 |i+1=>okU l i&&okR l i
def okL(l:List Hd):Bool:=decide (l.length≤24)&&(okU l l.length&&decide (tot l<WW))
theorem okU_false{l:List Hd}{i n:Nat}(h:okR l i=false)(hi:i<n):okU l n=false:=by
 induction n with
 |zero=>omega
 |succ n ih=>
  unfold okU
  rcases Nat.lt_or_ge i n with h1|h1
  · rw[ih h1];rfl
  · obtain rfl:i=n:=by omega
    rw[h,Bool.and_false]
theorem check_fn(ex:Bool)(l:List Hd)(hl:l.length≤maxLen)(ok:∀h∈l,h.ok):Fn Try.prog 47 [lg ex l] [] (vi .i64 (if okL l then 0 else 170)) []:=by
 unfold maxLen at hl
 by_cases h24:l.length≤24
 · have e0:(decide ((l.length:Int)>24))=false:=by simp;omega
   have al:=all_nil ex l (by omega) ok
   have hq:(decide (WW≤tot l)) = !decide (tot l<WW):=by
    rw[Bool.eq_iff_iff];simp
   rw[hq] at al
   have hres:okL l=(okU l l.length&&decide (tot l<WW)):=by unfold okL;rw[decide_eq_true h24,Bool.true_and]
   rw[hres]
   obtain⟨tn,htn⟩:∃n,tot l%WW=n:=⟨_,rfl⟩
   obtain⟨tq,htq⟩:∃q,decide (tot l<WW)=q:=⟨_,rfl⟩
   obtain⟨tu,htu⟩:∃q,okU l l.length=q:=⟨_,rfl⟩
   rw[htn,htq] at al
   rw[htq,htu]
   (refine Q1q Try.func47 rfl (by rfl) ?_;simp only[Try.ntmps47,List.length_cons,List.length_nil,Nat.reduceAdd,Nat.reduceSub,List.replicate,List.cons_append,List.nil_append])
   (repeat(any_goals(first|((with_reducible refine Q0g ?_ ?_);rfl;intro K hK;simp only[go_sem,e0];((repeat(refine ndI (by first|assumption|omega|rfl) ?_));refine hK _ ?_;clear hK K))|(with_reducible first|(refine Q0i ?_;refine hR _ ?_;clear hR R)|((first|refine Q0h ?_|refine Q0c ?_);intro Ψ hΨ hΨ')|(refine Q0b ?_;intro R hR)|(refine hΨ _ ?_;clear hΨ hΨ' Ψ)|refine Q0d ?_|refine Q0j ?_|refine Q0e ?_)|((with_reducible refine hΨ' _ _ ?_ ?_);(focus(simp;done));clear hΨ hΨ' Ψ)|((with_reducible apply Q1e);rfl;rfl;rfl;(try simp only[go_sem,e0]))|((with_reducible apply Q1l);rfl;rfl;rfl;all_goals(intro hb;first|(cases hb;done)|((try simp only[Bool.not_true,Bool.not_false] at hb);(first|((with_reducible intro K hK);simp only[go_sem,e0];((repeat(refine ndI (by first|assumption|omega|rfl) ?_));refine hK _ ?_;clear hK K))|((fail_if_success (with_reducible intro _));simp only[go_sem,e0])))))|((with_reducible apply Q0f);rfl;rfl;all_goals(intro hc;first|(cases hc;done)|(try simp only at hc))))))
   refine Q2v (α:={i:Nat // i≤l.length∧okU l i=true}) (fun p=>⟨[.any,.ptr 1 0,.any,vi .u64 (X0r l p.1),.any,.any,.any,.any,.any,.any,.any,.any,.any,hsl ex l,vi .i64 l.length,vi .i64 p.1,.any,.any,.any,.any,.any,.any,.any,.any,.any,.any,.any,.any,.any,.any,.any,.any,.any,.any,.any,.any,.any],[(1,[hsl ex l])]⟩) (fun p=>l.length-p.1) ⟨0,Nat.zero_le _,rfl⟩ (St.le_of (by simp[leT,X0r]) (by simp[leH,hget])) ?_
   rintro ⟨i,hi,hu⟩ Ψ hΨ hΨ'
   dsimp only at hi hu hΨ ⊢
   rcases Nat.lt_or_ge i l.length with hlt|hge
   · obtain⟨y,hy⟩:∃y,l[i]? = some y:=⟨l[i],List.getElem?_eq_getElem hlt⟩
     have k1:(decide ((i:Int)<(l.length:Int)))=true:=by simpa using hlt
     have k2:=X2g hy
     have k7:(i:Int)+1=((i+1:Nat):Int):=by omega
     obtain⟨_,op,os,_,_⟩:=ok y (List.mem_of_getElem? hy)
     have rf:=Q7z y.a y.p y.s y.d y.f op os
     have hR:okR l i=(X1n y&&decide (X0r l i<y.a)):=by unfold okR;rw[hy]
     have hnx:X0r l (i+1)=y.a:=by simp only[X0r,hy]
     have hnu:okR l i=true→okU l (i+1)=true:=fun h=>by unfold okU;rw[hu,h];rfl
     have hno:okR l i=false→tu=false:=fun h=>by rw[←htu];exact okU_false h hlt
     rw[show(⟨y.a,y.p,y.s,y.d,y.f⟩:Hd)=y from rfl] at rf
     rw[hR] at hnu hno
     generalize X1n y=rq at rf hnu hno
     have hle:(decide (X0r l i<y.a)) = !decide (y.a≤X0r l i):=by
      rw[Bool.eq_iff_iff];simp
     rw[hle] at hnu hno
     obtain⟨lq,hlb⟩:∃lq,decide (y.a≤X0r l i)=lq:=⟨_,rfl⟩
     rw[hlb] at hnu hno
     clear hR hle
     cases rq with
     |false=>
      (have W:=ndI k1 (ndI k2 (ndI k7 @wrI));(repeat(any_goals(first|((with_reducible refine Q1d ?_ ?_ ?_);rfl;rfl;intro K hK;((apply Q0x (rf);rfl;rfl;rfl;rfl;exact Try.func58);kernel_rfl;rfl;(focus((simp(disch:=omega) only[go_sem,W,hlb]);(try rfl);done));(first|rfl|simp[AV.inNL,AV.inN]));(simp(disch:=omega) only[go_sem,W,hlb];refine hK _ ?_;clear hK K))|((with_reducible refine Q0g ?_ ?_);rfl;intro K hK;simp(disch:=omega) only[go_sem,W,hlb];((repeat(refine ndI (by first|assumption|omega|rfl) ?_));refine hK _ ?_;clear hK K))|(with_reducible first|(refine Q0i ?_;refine hR _ ?_;clear hR R)|((first|refine Q0h ?_|refine Q0c ?_);intro Ψ hΨ hΨ')|(refine Q0b ?_;intro R hR)|(refine hΨ _ ?_;clear hΨ hΨ' Ψ)|refine Q0d ?_|refine Q0j ?_|refine Q0e ?_)|((with_reducible refine hΨ' _ _ ?_ ?_);(focus(simp;done));clear hΨ hΨ' Ψ)|((with_reducible apply Q1e);rfl;rfl;rfl;(try simp(disch:=omega) only[go_sem,W,hlb]))|((with_reducible apply Q1l);rfl;rfl;rfl;all_goals(intro hb;first|(cases hb;done)|((try simp only[Bool.not_true,Bool.not_false] at hb);(first|((with_reducible intro K hK);simp(disch:=omega) only[go_sem,W,hlb];((repeat(refine ndI (by first|assumption|omega|rfl) ?_));refine hK _ ?_;clear hK K))|((fail_if_success (with_reducible intro _));simp(disch:=omega) only[go_sem,W,hlb])))))|((with_reducible apply Q0f);rfl;rfl;all_goals(intro hc;first|(cases hc;done)|(try simp only at hc)))))))
      all_goals(refine⟨by simp,⟨_,?_,AV.le_refl _⟩,Q0y (by simp[leH,hget])⟩;simp only[Try.results47,resL,ldA,Q1o,go_sem])
      all_goals rw[hno rfl]
      all_goals rfl
     |true=>
      cases lq with
      |true=>
       (have W:=ndI k1 (ndI k2 (ndI k7 @wrI));(repeat(any_goals(first|((with_reducible refine Q1d ?_ ?_ ?_);rfl;rfl;intro K hK;((apply Q0x (rf);rfl;rfl;rfl;rfl;exact Try.func58);kernel_rfl;rfl;(focus((simp(disch:=omega) only[go_sem,W,hlb]);(try rfl);done));(first|rfl|simp[AV.inNL,AV.inN]));(simp(disch:=omega) only[go_sem,W,hlb];refine hK _ ?_;clear hK K))|((with_reducible refine Q0g ?_ ?_);rfl;intro K hK;simp(disch:=omega) only[go_sem,W,hlb];((repeat(refine ndI (by first|assumption|omega|rfl) ?_));refine hK _ ?_;clear hK K))|(with_reducible first|(refine Q0i ?_;refine hR _ ?_;clear hR R)|((first|refine Q0h ?_|refine Q0c ?_);intro Ψ hΨ hΨ')|(refine Q0b ?_;intro R hR)|(refine hΨ _ ?_;clear hΨ hΨ' Ψ)|refine Q0d ?_|refine Q0j ?_|refine Q0e ?_)|((with_reducible refine hΨ' _ _ ?_ ?_);(focus(simp;done));clear hΨ hΨ' Ψ)|((with_reducible apply Q1e);rfl;rfl;rfl;(try simp(disch:=omega) only[go_sem,W,hlb]))|((with_reducible apply Q1l);rfl;rfl;rfl;all_goals(intro hb;first|(cases hb;done)|((try simp only[Bool.not_true,Bool.not_false] at hb);(first|((with_reducible intro K hK);simp(disch:=omega) only[go_sem,W,hlb];((repeat(refine ndI (by first|assumption|omega|rfl) ?_));refine hK _ ?_;clear hK K))|((fail_if_success (with_reducible intro _));simp(disch:=omega) only[go_sem,W,hlb])))))|((with_reducible apply Q0f);rfl;rfl;all_goals(intro hc;first|(cases hc;done)|(try simp only at hc)))))))
       all_goals(refine⟨by simp,⟨_,?_,AV.le_refl _⟩,Q0y (by simp[leH,hget])⟩;simp only[Try.results47,resL,ldA,Q1o,go_sem])
       all_goals rw[hno rfl]
       all_goals rfl
      |false=>
       (have W:=ndI k1 (ndI k2 (ndI k7 @wrI));(repeat(any_goals(first|((with_reducible refine Q1d ?_ ?_ ?_);rfl;rfl;intro K hK;((apply Q0x (rf);rfl;rfl;rfl;rfl;exact Try.func58);kernel_rfl;rfl;(focus((simp(disch:=omega) only[go_sem,W,hlb]);(try rfl);done));(first|rfl|simp[AV.inNL,AV.inN]));(simp(disch:=omega) only[go_sem,W,hlb];refine hK _ ?_;clear hK K))|((with_reducible refine Q0g ?_ ?_);rfl;intro K hK;simp(disch:=omega) only[go_sem,W,hlb];((repeat(refine ndI (by first|assumption|omega|rfl) ?_));refine hK _ ?_;clear hK K))|(with_reducible first|(refine Q0i ?_;refine hR _ ?_;clear hR R)|((first|refine Q0h ?_|refine Q0c ?_);intro Ψ hΨ hΨ')|(refine Q0b ?_;intro R hR)|(refine hΨ _ ?_;clear hΨ hΨ' Ψ)|refine Q0d ?_|refine Q0j ?_|refine Q0e ?_)|((with_reducible refine hΨ' _ _ ?_ ?_);(focus(simp;done));clear hΨ hΨ' Ψ)|((with_reducible apply Q1e);rfl;rfl;rfl;(try simp(disch:=omega) only[go_sem,W,hlb]))|((with_reducible apply Q1l);rfl;rfl;rfl;all_goals(intro hb;first|(cases hb;done)|((try simp only[Bool.not_true,Bool.not_false] at hb);(first|((with_reducible intro K hK);simp(disch:=omega) only[go_sem,W,hlb];((repeat(refine ndI (by first|assumption|omega|rfl) ?_));refine hK _ ?_;clear hK K))|((fail_if_success (with_reducible intro _));simp(disch:=omega) only[go_sem,W,hlb])))))|((with_reducible apply Q0f);rfl;rfl;all_goals(intro hc;first|(cases hc;done)|(try simp only at hc)))))))
       exact hΨ _ ⟨i+1,hlt,hnu rfl⟩ (by simp only;omega) (St.le_of (by simp[leT,hnx]) (by simp[leH,hget]))
   · have k1:(decide ((i:Int)<(l.length:Int)))=false:=by simpa using hge
     have htu':tu=true:=by rw[←htu,←hu];congr 1;omega
     (repeat(any_goals(first|((with_reducible refine Q1d ?_ ?_ ?_);rfl;rfl;intro K hK;((apply Q0x (al);rfl;rfl;rfl;rfl;exact Try.func54);kernel_rfl;rfl;(focus((simp only[go_sem,k1]);(try rfl);done));(first|rfl|simp[AV.inNL,AV.inN]));(simp only[go_sem,k1];refine hK _ ?_;clear hK K))|((with_reducible refine Q0g ?_ ?_);rfl;intro K hK;simp only[go_sem,k1];((repeat(refine ndI (by first|assumption|omega|rfl) ?_));refine hK _ ?_;clear hK K))|(with_reducible first|(refine Q0i ?_;refine hR _ ?_;clear hR R)|((first|refine Q0h ?_|refine Q0c ?_);intro Ψ hΨ hΨ')|(refine Q0b ?_;intro R hR)|(refine hΨ _ ?_;clear hΨ hΨ' Ψ)|refine Q0d ?_|refine Q0j ?_|refine Q0e ?_)|((with_reducible refine hΨ' _ _ ?_ ?_);(focus(simp;done));clear hΨ hΨ' Ψ)|((with_reducible apply Q1e);rfl;rfl;rfl;(try simp only[go_sem,k1]))|((with_reducible apply Q1l);rfl;rfl;rfl;all_goals(intro hb;first|(cases hb;done)|((try simp only[Bool.not_true,Bool.not_false] at hb);(first|((with_reducible intro K hK);simp only[go_sem,k1];((repeat(refine ndI (by first|assumption|omega|rfl) ?_));refine hK _ ?_;clear hK K))|((fail_if_success (with_reducible intro _));simp only[go_sem,k1])))))|((with_reducible apply Q0f);rfl;rfl;all_goals(intro hc;first|(cases hc;done)|(try simp only at hc))))))
     all_goals(refine⟨by simp,⟨_,?_,AV.le_refl _⟩,Q0y (by simp[leH,hget])⟩;simp only[Try.results47,resL,ldA,Q1o,go_sem])
     all_goals rw[htu']
     all_goals simp_all
 · have e0:(decide ((l.length:Int)>24))=true:=by simp;omega
   have hres:okL l=false:=by unfold okL;rw[decide_eq_false h24];rfl
   rw[hres]
   (refine Q1q Try.func47 rfl (by rfl) ?_;simp only[Try.ntmps47,List.length_cons,List.length_nil,Nat.reduceAdd,Nat.reduceSub,List.replicate,List.cons_append,List.nil_append])
   (repeat(any_goals(first|((with_reducible refine Q0g ?_ ?_);rfl;intro K hK;simp only[go_sem,e0];((repeat(refine ndI (by first|assumption|omega|rfl) ?_));refine hK _ ?_;clear hK K))|(with_reducible first|(refine Q0i ?_;refine hR _ ?_;clear hR R)|((first|refine Q0h ?_|refine Q0c ?_);intro Ψ hΨ hΨ')|(refine Q0b ?_;intro R hR)|(refine hΨ _ ?_;clear hΨ hΨ' Ψ)|refine Q0d ?_|refine Q0j ?_|refine Q0e ?_)|((with_reducible refine hΨ' _ _ ?_ ?_);(focus(simp;done));clear hΨ hΨ' Ψ)|((with_reducible apply Q1e);rfl;rfl;rfl;(try simp only[go_sem,e0]))|((with_reducible apply Q1l);rfl;rfl;rfl;all_goals(intro hb;first|(cases hb;done)|((try simp only[Bool.not_true,Bool.not_false] at hb);(first|((with_reducible intro K hK);simp only[go_sem,e0];((repeat(refine ndI (by first|assumption|omega|rfl) ?_));refine hK _ ?_;clear hK K))|((fail_if_success (with_reducible intro _));simp only[go_sem,e0])))))|((with_reducible apply Q0f);rfl;rfl;all_goals(intro hc;first|(cases hc;done)|(try simp only at hc))))))
   all_goals(refine⟨by simp,⟨_,?_,AV.le_refl _⟩,Q0y (by simp[leH,hget])⟩;simp only[Try.results47,resL,ldA,Q1o,go_sem])
   all_goals rfl
end Go.Proofs.Ytbmcdemnnbndeaa.lg
namespace Go.Proofs.Ytbmcdemnnbndeaa.nz
open Go.RowKit
open Nat (reduceBEq)
abbrev vi(k:IntKind)(n:Int):AV:=.c (.v (.int k n))
abbrev vb(b:Bool):AV:=.c (.v (.bool b))
abbrev w4(a b c d:Int):AV:=.agg [vi .u64 a,vi .u64 b,vi .u64 c,vi .u64 d]
set_option maxRecDepth 20000
theorem Q7z(a b c d e:Int):Fn Try.prog 75 [.agg [vi .u64 a,vi .u64 b,vi .u64 c,vi .u64 d,vi .u64 e]] [] (vb ((a != 0)&&(e==0))) []:=by
 (refine Q1q Try.func75 rfl (by rfl) ?_;simp only[Try.ntmps75,List.length_cons,List.length_nil,Nat.reduceAdd,Nat.reduceSub,List.replicate,List.cons_append,List.nil_append])
 (repeat(any_goals(first|((with_reducible refine Q0g ?_ ?_);rfl;intro K hK;simp only[go_sem];((repeat(refine ndI (by first|assumption|omega|rfl) ?_));refine hK _ ?_;clear hK K))|(with_reducible first|(refine Q0i ?_;refine hR _ ?_;clear hR R)|((first|refine Q0h ?_|refine Q0c ?_);intro Ψ hΨ hΨ')|(refine Q0b ?_;intro R hR)|(refine hΨ _ ?_;clear hΨ hΨ' Ψ)|refine Q0d ?_|refine Q0j ?_|refine Q0e ?_)|((with_reducible refine hΨ' _ _ ?_ ?_);(focus(simp;done));clear hΨ hΨ' Ψ)|((with_reducible apply Q1e);rfl;rfl;rfl;(try simp only[go_sem]))|((with_reducible apply Q1l);rfl;rfl;rfl;all_goals(intro hb;first|(cases hb;done)|((try simp only[Bool.not_true,Bool.not_false] at hb);(first|((with_reducible intro K hK);simp only[go_sem];((repeat(refine ndI (by first|assumption|omega|rfl) ?_));refine hK _ ?_;clear hK K))|((fail_if_success (with_reducible intro _));simp only[go_sem])))))|((with_reducible apply Q0f);rfl;rfl;all_goals(intro hc;first|(cases hc;done)|(try simp only at hc))))))
 all_goals(refine⟨by simp,⟨_,?_,AV.le_refl _⟩,Q0y (by simp[leH,hget])⟩;simp only[Try.results75,resL,ldA,Q1o,go_sem])
 all_goals simp[*]
theorem Q6t(a:Int):Fn Try.prog 89 [vi .u64 a] [] (vb false) []:=by
 (refine Q1q Try.func89 rfl (by rfl) ?_;simp only[Try.ntmps89,List.length_cons,List.length_nil,Nat.reduceAdd,Nat.reduceSub,List.replicate,List.cons_append,List.nil_append])
 (repeat(any_goals(first|((with_reducible refine Q0g ?_ ?_);rfl;intro K hK;simp only[go_sem];((repeat(refine ndI (by first|assumption|omega|rfl) ?_));refine hK _ ?_;clear hK K))|(with_reducible first|(refine Q0i ?_;refine hR _ ?_;clear hR R)|((first|refine Q0h ?_|refine Q0c ?_);intro Ψ hΨ hΨ')|(refine Q0b ?_;intro R hR)|(refine hΨ _ ?_;clear hΨ hΨ' Ψ)|refine Q0d ?_|refine Q0j ?_|refine Q0e ?_)|((with_reducible refine hΨ' _ _ ?_ ?_);(focus(simp;done));clear hΨ hΨ' Ψ)|((with_reducible apply Q0f);rfl;rfl;all_goals(intro hc;first|(cases hc;done)|(try simp only at hc))))))
 all_goals(refine⟨by simp,⟨_,?_,AV.le_refl _⟩,Q0y (by simp[leH,hget])⟩;simp only[Try.results89,resL,ldA,Q1o,go_sem])
 all_goals simp
def cmpI(a b:Int):Int:=if a<b then -1 else if b<a then 1 else 0
theorem Q7n(a b:Int):Fn Try.prog 91 [vi .u64 a,vi .u64 b] [] (vi .i64 (cmpI a b)) []:=by
 (refine Q1q Try.func91 rfl (by rfl) ?_;simp only[Try.ntmps91,List.length_cons,List.length_nil,Nat.reduceAdd,Nat.reduceSub,List.replicate,List.cons_append,List.nil_append])
 (repeat(any_goals(first|((with_reducible refine Q1d ?_ ?_ ?_);rfl;rfl;intro K hK;((apply Q0x (Q6t _);rfl;rfl;rfl;rfl;exact Try.func89);kernel_rfl;rfl;(focus((simp only[go_sem]);(try rfl);done));(first|rfl|simp[AV.inNL,AV.inN]));(simp only[go_sem];refine hK _ ?_;clear hK K))|((with_reducible refine Q0g ?_ ?_);rfl;intro K hK;simp only[go_sem];((repeat(refine ndI (by first|assumption|omega|rfl) ?_));refine hK _ ?_;clear hK K))|(with_reducible first|(refine Q0i ?_;refine hR _ ?_;clear hR R)|((first|refine Q0h ?_|refine Q0c ?_);intro Ψ hΨ hΨ')|(refine Q0b ?_;intro R hR)|(refine hΨ _ ?_;clear hΨ hΨ' Ψ)|refine Q0d ?_|refine Q0j ?_|refine Q0e ?_)|((with_reducible refine hΨ' _ _ ?_ ?_);(focus(simp;done));clear hΨ hΨ' Ψ)|((with_reducible apply Q0f);rfl;rfl;all_goals(intro hc;first|(cases hc;done)|(try simp only at hc))))))
 all_goals(refine⟨by simp,⟨_,?_,AV.le_refl _⟩,Q0y (by simp[leH,hget])⟩;simp only[Try.results91,resL,ldA,Q1o,go_sem])
 all_goals simp_all [cmpI]
 all_goals omega
end Go.Proofs.Ytbmcdemnnbndeaa.nz
namespace Go.Proofs.Ytbmcdemnnbndeaa.nz
open Go.RowKit
set_option maxRecDepth 20000
theorem wrI{x:Int}(h1:-9223372036854775808≤x)(h2:x≤9223372036854775807):IntKind.i64.wrap x=x:=by
 unfold IntKind.wrap;simp[IntKind.bits,IntKind.signed];omega
theorem wrU{x:Int}(h1:0≤x)(h2:x≤18446744073709551615):IntKind.u64.wrap x=x:=by
 unfold IntKind.wrap;simp[IntKind.bits,IntKind.signed];omega
end Go.Proofs.Ytbmcdemnnbndeaa.nz
namespace Go.Proofs.Ytbmcdemnnbndeaa.nz
open Go.RowKit
set_option maxRecDepth 20000
set_option maxHeartbeats 1000000
theorem X4z:IntKind.u64.bits=64:=rfl
end Go.Proofs.Ytbmcdemnnbndeaa.nz
namespace Go.Proofs.Ytbmcdemnnbndeaa.nz
open Go.RowKit
set_option maxRecDepth 20000
set_option maxHeartbeats 1000000
abbrev U(a:Int):Prop:=0≤a∧a≤18446744073709551615
end Go.Proofs.Ytbmcdemnnbndeaa.nz
namespace Go.Proofs.Ytbmcdemnnbndeaa.nz
open Go.RowKit
open Nat (reduceBEq)
set_option maxRecDepth 20000
set_option maxHeartbeats 1000000
theorem wcmp_fn(a b c d e f g h:Int):Fn Try.prog 32 [w4 a b c d,w4 e f g h] [] (vi .i64 (if d<h then -1 else if h<d then 1 else if c<g then -1 else if g<c then 1 else if b<f then -1 else if f<b then 1 else if a<e then -1 else if e<a then 1 else 0)) []:=by
 (refine Q1q Try.func32 rfl (by rfl) ?_;simp only[Try.ntmps32,List.length_cons,List.length_nil,Nat.reduceAdd,Nat.reduceSub,List.replicate,List.cons_append,List.nil_append])
 (repeat(any_goals(first|((with_reducible refine Q0g ?_ ?_);rfl;intro K hK;simp(disch:=omega) only[go_sem,wrI,Int.reduceSub,Int.reduceNeg,Int.reduceGE,decide_true,decide_false,ge_iff_le,gt_iff_lt];((repeat(refine ndI (by first|assumption|omega|rfl) ?_));refine hK _ ?_;clear hK K))|(with_reducible first|(refine Q0i ?_;refine hR _ ?_;clear hR R)|((first|refine Q0h ?_|refine Q0c ?_);intro Ψ hΨ hΨ')|(refine Q0b ?_;intro R hR)|(refine hΨ _ ?_;clear hΨ hΨ' Ψ)|refine Q0d ?_|refine Q0j ?_|refine Q0e ?_)|((with_reducible refine hΨ' _ _ ?_ ?_);(focus(simp;done));clear hΨ hΨ' Ψ)|((with_reducible apply Q0f);rfl;rfl;all_goals(intro hc;first|(cases hc;done)|(try simp only at hc)))|(with_reducible refine Q3u 5 ?_)|((with_reducible refine Q4z ?_);intro Ψ hΨ hΨ')|((with_reducible refine Q0t ?_ ?_);kernel_rfl;(with_reducible refine hR _ ?_);clear hR R)|(((with_reducible apply Q0u);rfl;rfl;(simp(disch:=omega) only[rdE,rdOf,go_sem,wrI,Int.reduceSub,Int.reduceNeg,Int.reduceGE,decide_true,decide_false,ge_iff_le,gt_iff_lt];rfl);(intro τ hA hQ hN;((try simp only[Q1h,Op.operands,Call.operands,go_sem,wrI,Int.reduceSub,Int.reduceNeg,Int.reduceGE,decide_true,decide_false,ge_iff_le,gt_iff_lt,go_sem,List.mem_cons,List.not_mem_nil,forall_eq_or_imp,forall_eq,List.append_toArray,Option.toArray] at hA);(try simp only[go_sem,wrI,Int.reduceSub,Int.reduceNeg,Int.reduceGE,decide_true,decide_false,ge_iff_le,gt_iff_lt,List.mem_cons,List.not_mem_nil,forall_eq_or_imp,forall_eq] at hQ hN);(first|(revert hA;intro hA)|have hA:=trivial);(first|(revert hQ;intro hQ)|have hQ:=trivial);(first|(revert hN;intro hN)|have hN:=trivial);simp(disch:=omega) only[go_sem,wrI,Int.reduceSub,Int.reduceNeg,Int.reduceGE,decide_true,decide_false,ge_iff_le,gt_iff_lt,go_sem,hA,hQ,hN];(repeat(refine ndI (by first|assumption|omega|rfl) ?_));(first|apply Q1b|apply Q1a|apply Q0w))));(simp(disch:=omega) only[St.eff,setO,Q0q,go_sem,wrI,Int.reduceSub,Int.reduceNeg,Int.reduceGE,decide_true,decide_false,ge_iff_le,gt_iff_lt]))|((with_reducible refine Q0p ?_ ?_ ?_ ?_);kernel_rfl;kernel_rfl;(first|kernel_rfl|simp[Q0m,Q1j,St.free,Q1i,AV.refsL,AV.refs]);intro R hR))))
 all_goals(refine⟨by simp,⟨_,?_,AV.le_refl _⟩,Q0y (by simp[leH,hget])⟩;simp only[Try.results32,resL,ldA,Q1o,go_sem])
 all_goals simp_all
 all_goals(repeat' split)<;>first|rfl|omega
end Go.Proofs.Ytbmcdemnnbndeaa.nz
