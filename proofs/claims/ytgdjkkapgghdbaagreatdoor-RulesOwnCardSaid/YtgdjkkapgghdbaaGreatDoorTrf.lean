/-
  What goes over the events of some kinds; the spots that they tell. Reckoned.
-/
import Derived.Test.YtgdjkkapgghdbaaGreatDoorSf
import Derived.Test.YtgdjkkapgghdbaaGreatDoorYd
import Derived.Test.YtgdjkkapgghdbaaGreatDoorAvO
import Derived.Test.YtgdjkkapgghdbaaGreatDoorAvF
namespace Go.Proofs.YtgdjkkapgghdbaaGreatDoor
set_option linter.unusedSimpArgs false
set_option linter.unusedVariables false
section
open Go.RowKit
set_option maxRecDepth 20000
set_option maxHeartbeats 2000000
def X4x:Go.Shelf.Ren:=⟨fun|6=>87|15=>76|14=>140|28=>130|29=>131|20=>162|21=>163|22=>164|23=>165|24=>166|25=>167|26=>168|27=>169|46=>181|47=>155|48=>156|49=>182|50=>183|57=>188|n=>n,fun|22=>25|24=>23|25=>116|3=>3|39=>55|0=>0|53=>160|55=>22|4=>4|46=>153|45=>152|50=>157|5=>5|9=>9|66=>184|70=>188|76=>203|77=>204|n=>n,fun|n=>n⟩
theorem sortL:Go.Proofs.SlLaysF.n6 Tryz.prog X4x where
 mixed:=by kernel_rfl
 f6:=⟨"slices.SortFunc[[]sheafer/api.Addr,sheafer/api.Addr]",by decide,Tryz.func87.trans (congrArg some (by kernel_rfl))⟩
 f14:=⟨"slices.pdqsortCmpFunc[sheafer/api.Addr]",by decide,Tryz.func140.trans (congrArg some (by kernel_rfl))⟩
 f15:=Tryz.func76.trans (congrArg some (by kernel_rfl))
 f20:=⟨"slices.insertionSortCmpFunc[sheafer/api.Addr]",by decide,Tryz.func162.trans (congrArg some (by kernel_rfl))⟩
 f21:=⟨"slices.heapSortCmpFunc[sheafer/api.Addr]",by decide,Tryz.func163.trans (congrArg some (by kernel_rfl))⟩
 f22:=⟨"slices.breakPatternsCmpFunc[sheafer/api.Addr]",by decide,Tryz.func164.trans (congrArg some (by kernel_rfl))⟩
 f23:=⟨"slices.choosePivotCmpFunc[sheafer/api.Addr]",by decide,Tryz.func165.trans (congrArg some (by kernel_rfl))⟩
 f24:=⟨"slices.reverseRangeCmpFunc[sheafer/api.Addr]",by decide,Tryz.func166.trans (congrArg some (by kernel_rfl))⟩
 f25:=⟨"slices.partialInsertionSortCmpFunc[sheafer/api.Addr]",by decide,Tryz.func167.trans (congrArg some (by kernel_rfl))⟩
 f26:=⟨"slices.partitionEqualCmpFunc[sheafer/api.Addr]",by decide,Tryz.func168.trans (congrArg some (by kernel_rfl))⟩
 f27:=⟨"slices.partitionCmpFunc[sheafer/api.Addr]",by decide,Tryz.func169.trans (congrArg some (by kernel_rfl))⟩
 f28:=Tryz.func130.trans (congrArg some (by kernel_rfl))
 f29:=Tryz.func131.trans (congrArg some (by kernel_rfl))
 f46:=⟨"slices.siftDownCmpFunc[sheafer/api.Addr]",by decide,Tryz.func181.trans (congrArg some (by kernel_rfl))⟩
 f47:=Tryz.func155.trans (congrArg some (by kernel_rfl))
 f48:=Tryz.func156.trans (congrArg some (by kernel_rfl))
 f49:=⟨"slices.medianAdjacentCmpFunc[sheafer/api.Addr]",by decide,Tryz.func182.trans (congrArg some (by kernel_rfl))⟩
 f50:=⟨"slices.medianCmpFunc[sheafer/api.Addr]",by decide,Tryz.func183.trans (congrArg some (by kernel_rfl))⟩
 f57:=⟨"slices.order2CmpFunc[sheafer/api.Addr]",by decide,Tryz.func188.trans (congrArg some (by kernel_rfl))⟩
 t0:=Tryz.underlying0
 a0:=Tryz.isAgg0
 z0:=Tryz.sizeOf0
 v0:=Tryz.zeroValue0
 t3:=Tryz.underlying3
 a3:=Tryz.isAgg3
 z3:=Tryz.sizeOf3
 v3:=Tryz.zeroValue3
 t4:=Tryz.underlying4
 a4:=Tryz.isAgg4
 z4:=Tryz.sizeOf4
 v4:=Tryz.zeroValue4
 t5:=Tryz.underlying5
 a5:=Tryz.isAgg5
 z5:=Tryz.sizeOf5
 v5:=Tryz.zeroValue5
 t9:=Tryz.underlying9
 a9:=Tryz.isAgg9
 z9:=Tryz.sizeOf9
 v9:=Tryz.zeroValue9
 t22:=Tryz.underlying25
 a22:=Tryz.isAgg25
 z22:=Tryz.sizeOf25
 v22:=Tryz.zeroValue25
 a24:=Tryz.isAgg23
 z24:=Tryz.sizeOf23
 t25:=Tryz.underlying116
 a25:=Tryz.isAgg116
 z25:=Tryz.sizeOf116
 v25:=Tryz.zeroValue116
 t39:=Tryz.underlying55
 a39:=Tryz.isAgg55
 z39:=Tryz.sizeOf55
 v39:=Tryz.zeroValue55
 t45:=Tryz.underlying152
 a45:=Tryz.isAgg152
 z45:=Tryz.sizeOf152
 v45:=Tryz.zeroValue152
 t46:=Tryz.underlying153
 a46:=Tryz.isAgg153
 z46:=Tryz.sizeOf153
 v46:=Tryz.zeroValue153
 t50:=Tryz.underlying157
 a50:=Tryz.isAgg157
 z50:=Tryz.sizeOf157
 v50:=Tryz.zeroValue157
 t53:=Tryz.underlying160
 a53:=Tryz.isAgg160
 z53:=Tryz.sizeOf160
 v53:=Tryz.zeroValue160
 t55:=Tryz.underlying22
 a55:=Tryz.isAgg22
 z55:=Tryz.sizeOf22
 v55:=Tryz.zeroValue22
 t66:=Tryz.underlying184
 a66:=Tryz.isAgg184
 z66:=Tryz.sizeOf184
 v66:=Tryz.zeroValue184
 t70:=Tryz.underlying188
 a70:=Tryz.isAgg188
 z70:=Tryz.sizeOf188
 v70:=Tryz.zeroValue188
 t76:=Tryz.underlying203
 a76:=Tryz.isAgg203
 z76:=Tryz.sizeOf203
 v76:=Tryz.zeroValue203
 t77:=Tryz.underlying204
 a77:=Tryz.isAgg204
 z77:=Tryz.sizeOf204
 v77:=Tryz.zeroValue204
abbrev A64:={a:Int // 0≤a∧a≤18446744073709551615}
instance:Inhabited A64:=⟨⟨0,by omega,by omega⟩⟩
def encA(x:A64):Value:=.int .u64 x.1
def cfA(x y:A64):Int:=if x.1<y.1 then -1 else if y.1<x.1 then 1 else 0
theorem ltA(x y:A64):ltOf cfA x y=decide (x.1<y.1):=by
 unfold ltOf cfA
 by_cases h1:x.1<y.1
 · simp[h1]
 · by_cases h2:y.1<x.1<;>simp[h1,h2]
theorem swoA:Sort.SWO (ltOf cfA) where
 irrefl x:=by rw[ltA];simp
 trans x y z h1 h2:=by rw[ltA] at *;simp at *;omega
 ntrans x y z h1 h2:=by rw[ltA] at *;simp at *;omega
theorem totA(x y:A64)(h1:ltOf cfA x y=false)(h2:ltOf cfA y x=false):x=y:=by
 rw[ltA] at *
 simp at *
 exact Subtype.ext (by omega)
theorem Z2d(x y:A64)(W:World):Calls Tryz.prog 88 #[.int .u64 x.1,.int .u64 y.1] W fun e w'=>e = .returned (.int .i64 (cfA x y))∧∃q,w'=W.drewN q:=by
 obtain⟨x,hx⟩:=x
 obtain⟨y,hy⟩:=y
 by_cases h1:x<y
 · have e:cfA ⟨x,hx⟩ ⟨y,hy⟩ = -1:=by unfold cfA;rw[if_pos h1]
   rw[e]
   go_enter Tryz.func88,Tryz.ntmps88
   go_wp2
   go_ret
   exact⟨rfl,0,rfl⟩
 · have e:cfA ⟨x,hx⟩ ⟨y,hy⟩=min (x-y) 1:=by
    unfold cfA
    rw[if_neg h1]
    dsimp only at h1 ⊢
    by_cases h2:y<x
    · rw[if_pos h2];omega
    · rw[if_neg h2];omega
   rw[e]
   have hw:IntKind.u64.wrap (x-y)=x-y:=wrU (by omega) (by omega)
   go_enter Tryz.func88,Tryz.ntmps88
   go_wp2
   go_ret
   exact⟨rfl,0,rfl⟩
theorem up64:∀{l:List Int},(∀a∈l,U a)→∃L:List A64,L.map (·.1)=l
 |[],_=>⟨[],rfl⟩
 |a::l,h=>by
  obtain⟨L,hL⟩:=up64 (l:=l) fun b hb=>h b (by simp[hb])
  exact⟨⟨a,h a (by simp)⟩::L,by simp[hL]⟩
theorem rcA_map(L:List A64):rcA (L.map (·.1))=L.map fun x=>AV.c (.v (encA x)):=by
 unfold rcA
 induction L with
 |nil=>rfl
 |cons x L ih=>
  rw[List.map_cons,List.flatMap_cons,List.map_append,ih]
  rfl
theorem sortA_fn(l:List Int)(hl:l.length≤1000000)(hu:∀a∈l,U a):∃s:List Int,s.Perm l∧s.Pairwise (·≤·) ∧
 Fn Tryz.prog 87 [.row 1000 23 1 l.length,.fn 88 []] [(1000,rcA l)] (.tup []) [(1000,rcA s)]:=by
 obtain⟨L,rfl⟩:=up64 hu
 have hle:∀x y:A64,(!ltOf cfA y x)=decide (x.1≤y.1):=fun x y=>by
  rw[ltA,←decide_not]
  exact decide_eq_decide.2 (by omega)
 refine⟨(L.mergeSort fun x y=>!ltOf cfA y x).map (·.1),(List.mergeSort_perm _ _).map _,?_,?_⟩
 · have h:=List.pairwise_mergeSort (le:=fun x y:A64=>!ltOf cfA y x) (fun x y z h1 h2=>by
    rw[hle] at *
    simp at *
    omega) (fun x y=>by
    rw[hle,hle]
    simp
    omega) L
   rw[List.pairwise_map]
   exact h.imp fun {x y} hxy=>by
    rw[hle] at hxy
    simpa using hxy
 · rw[rcA_map,rcA_map,List.length_map]
   refine Fn.sorting (enc:=encA) (fun _=>rfl) L _ (List.length_mergeSort _) (fun blk cap w hne hH hblk=>?_) fun p cap w=>?_
   · have eg:∀args w,(callFunc 88 args).run Tryz.prog w = .ok (.enter 88 args) w:=enters_of Tryz.func88 (by kernel_rfl) rfl
     have hc:CmpReads Tryz.prog 88 #[] encA cfA blk 0 L.toArray.size w:=fun m os dk hdk x y=>Z2d x y _
     have h:=Any.slices_SortFunc_total sortL encA (fun _=>rfl) cfA swoA 88 #[] blk 0 cap L.toArray w eg hc.lays hH hblk (by simp at hl ⊢;omega) totA
     exact h
   · exact AnyF.slices_SortFunc_none (P:=Tryz.prog) (ρ:=X4x) {sortL with} p cap _ w
end
section
open Go.RowKit
open Nat (reduceBEq)
set_option maxRecDepth 20000
set_option maxHeartbeats 2000000
theorem Z0k{s:List Int}{i:Nat}{b:Int}(hb:s[i]? = some b):(ddN s (i+1)=ddN s i∧0<i∧s[i-1]? = some b)∨(ddN s (i+1)=ddN s i++[b]∧(0<i→s[i-1]?≠some b)):=by
 have e:ddN s (i+1)=if 0<i∧s[i-1]? = some b then ddN s i else ddN s i++[b]:=by
  show(match s[i]? with|none=>_|some b=>_)=_
  rw[hb]
 by_cases h:0<i∧s[i-1]? = some b
 · exact .inl ⟨by rw[e,if_pos h],h⟩
 · exact .inr ⟨by rw[e,if_neg h],fun h1 h2=>h ⟨h1,h2⟩⟩
theorem X7y{s:List Int}{i j:Nat}{b:Int}(h:s[j]? = some b)(hj:j<i):b∈s.take i:=by
 refine List.mem_of_getElem? (i:=j) ?_
 rw[List.getElem?_take,if_pos hj,h]
theorem X8k(s:List Int):∀i,i≤s.length→∀x,x∈ddN s i↔x∈s.take i
 |0,_,x=>by simp[ddN]
 |i+1,h,x=>by
  have ih:=X8k s i (by omega) x
  have hb:s[i]? = some (s[i]'(by omega)):=List.getElem?_eq_getElem (by omega)
  have et:s.take (i+1)=s.take i++[s[i]'(by omega)]:=by rw[List.take_add_one,hb];rfl
  rw[et,List.mem_append,List.mem_singleton]
  rcases Z0k hb with⟨e,h0,h1⟩|⟨e,_⟩
  · rw[e,ih]
    refine⟨.inl,fun h=>h.elim id fun hx=>?_⟩
    rw[hx]
    exact X7y h1 (by omega)
  · rw[e,List.mem_append,List.mem_singleton,ih]
theorem ddN_lt(s:List Int)(hs:s.Pairwise (·≤·)):∀i,i≤s.length→(ddN s i).Pairwise (· < ·)
 |0,_=>by simp[ddN]
 |i+1,h=>by
  have ih:=ddN_lt s hs i (by omega)
  have hb:s[i]? = some (s[i]'(by omega)):=List.getElem?_eq_getElem (by omega)
  rcases Z0k hb with⟨e,_⟩|⟨e,h1⟩
  · rw[e];exact ih
  · rw[e,List.pairwise_append]
    refine⟨ih,List.pairwise_singleton _ _,fun a ha b hb'=>?_⟩
    rw[List.mem_singleton] at hb'
    subst hb'
    have ha':=(X8k s i (by omega) a).1 ha
    obtain⟨j,hj⟩:=List.mem_iff_getElem?.1 ha'
    rw[List.getElem?_take] at hj
    split at hj
    · rename_i hji
      have hp:=List.pairwise_iff_getElem.1 hs
      have haj:s[j]'(by omega)=a:=(List.getElem?_eq_some_iff.1 hj).2
      have h2:=hp j i (by omega) (by omega) hji
      rw[haj] at h2
      have h3:=h1 (by omega)
      rw[List.getElem?_eq_getElem (by omega)] at h3
      have h4:s[i-1]'(by omega)≠s[i]'(by omega):=fun e=>h3 (by rw[e])
      have h5:=hp (i-1) i (by omega) (by omega) (by omega)
      rcases Nat.lt_or_ge j (i-1) with h6|h6
      · have h7:=hp j (i-1) (by omega) (by omega) h6
        rw[haj] at h7
        omega
      · have:j=i-1:=by omega
        subst this
        rw[haj] at h4
        omega
    · cases hj
theorem X7l:∀{a b:List Int},a.Pairwise (· < ·)→b.Pairwise (· < ·)→(∀x,x∈a↔x∈b)→a=b
 |[],[],_,_,_=>rfl
 |[],y::b,_,_,h=>by have:=(h y).2 (by simp);simp at this
 |x::a,[],_,_,h=>by have:=(h x).1 (by simp);simp at this
 |x::a,y::b,ha,hb,h=>by
  rw[List.pairwise_cons] at ha hb
  have hx:=(h x).1 (by simp)
  have hy:=(h y).2 (by simp)
  rw[List.mem_cons] at hx hy
  have e:x=y:=by
   rcases hx with hx|hx
   · exact hx
   · rcases hy with hy|hy
     · exact hy.symm
     · have h1:=ha.1 y hy
       have h2:=hb.1 x hx
       omega
  subst e
  rw[X7l ha.2 hb.2 fun z=>by
   have hz:=h z
   rw[List.mem_cons,List.mem_cons] at hz
   constructor
   · intro hm
     rcases hz.1 (.inr hm) with e|hm'
     · have:=ha.1 z hm;omega
     · exact hm'
   · intro hm
     rcases hz.2 (.inr hm) with e|hm'
     · have:=hb.1 z hm;omega
     · exact hm']
theorem X1q(ex:Bool)(l:List Int)(hl:l.length≤1000000)(hu:∀a∈l,U a):∃r:List Int,r.Pairwise (· < ·)∧(∀x,x∈r↔x∈l)∧r.length≤l.length∧Fn Tryz.prog 55 [asl ex l] [] (asl false r) []:=by
 obtain⟨s,hp,hs,so⟩:=sortA_fn l hl hu
 have hlen:=hp.length_eq
 have cl:=X6v ex l hl
 have co:=(X4f s (by omega)).weaken (H2:=[(1000,rcA (ddN s s.length))]) (AV.le_refl _) (leHp (ds:=rcA (List.replicate (s.length-(ddN s s.length).length) 0)) (by rw[Q9w];simp[hget]))
 rw[hlen] at co
 have hdl:=ddN_le s l.length
 refine⟨ddN s l.length,ddN_lt s hs _ (by omega),fun x=>?_,hdl,?_⟩
 · rw[X8k s _ (by omega),←hlen,List.take_length]
   exact hp.mem_iff
 · have hrow:Fn Tryz.prog 55 [asl ex l] [] (.row 5 23 1 (ddN s l.length).length) [(5,rcA (ddN s l.length))]:=by
    generalize ddN s l.length=r at co hdl ⊢
    unfold rcA at cl so co ⊢
    (refine Q0z Tryz.func55 rfl (by rfl) ?_;simp only[Tryz.ntmps55,List.length_cons,List.length_nil,Nat.reduceAdd,Nat.reduceSub,List.replicate,List.cons_append,List.nil_append])
    (repeat(any_goals(first|((with_reducible refine Q0n ?_ ?_ ?_);rfl;rfl;intro K hK;(first|(apply Q1i (cl) (fun r=>5);rfl;rfl;rfl;rfl;exact Tryz.func36;kernel_rfl;rfl;rfl;(intro r hr q hq h;simp only[List.map_cons,List.map_nil,List.cons_append,List.nil_append,List.mem_cons,List.not_mem_nil,or_false] at hr hq;(try dsimp only at h);first|omega);(simp only[Q1f,Q2g,AV.ren,AV.renL,Q0s,List.mem_cons,List.not_mem_nil,forall_eq_or_imp,forall_eq,Q2b,List.contains_cons,List.contains_nil,AV.refsL,AV.refs,Q0l,AV.inN,AV.inNL,inH,Q1b,go_sem]))|(apply Q1i (so) (fun r=>5);rfl;rfl;rfl;rfl;exact Tryz.func87;kernel_rfl;rfl;rfl;(intro r hr q hq h;simp only[List.map_cons,List.map_nil,List.cons_append,List.nil_append,List.mem_cons,List.not_mem_nil,or_false] at hr hq;(try dsimp only at h);first|omega);(simp only[Q1f,Q2g,AV.ren,AV.renL,Q0s,List.mem_cons,List.not_mem_nil,forall_eq_or_imp,forall_eq,Q2b,List.contains_cons,List.contains_nil,AV.refsL,AV.refs,Q0l,AV.inN,AV.inNL,inH,Q1b,go_sem]))|(apply Q1i (co) (fun r=>5);rfl;rfl;rfl;rfl;exact Tryz.func89;kernel_rfl;rfl;rfl;(intro r hr q hq h;simp only[List.map_cons,List.map_nil,List.cons_append,List.nil_append,List.mem_cons,List.not_mem_nil,or_false] at hr hq;(try dsimp only at h);first|omega);(simp only[Q1f,Q2g,AV.ren,AV.renL,Q0s,List.mem_cons,List.not_mem_nil,forall_eq_or_imp,forall_eq,Q2b,List.contains_cons,List.contains_nil,AV.refsL,AV.refs,Q0l,AV.inN,AV.inNL,inH,Q1b,go_sem])));(simp only[Q0w,Q1y,renH,AV.ren,AV.renL,Q0s,go_sem];refine hK _ ?_;clear hK K))|((with_reducible refine Q0b ?_ ?_);rfl;intro K hK;simp only[go_sem];((repeat(refine ndI (by first|assumption) ?_));refine hK _ ?_;clear hK K))|(with_reducible first|(refine Q0c ?_;refine hR _ ?_;clear hR R)|((first|refine Q0d ?_);intro J hJ hJ')|(refine Q0a ?_;intro R hR)|(refine hJ _ ?_;clear hJ hJ' J)|refine Q0j ?_))))
    all_goals(refine⟨by simp,⟨_,?_,AV.le_refl _⟩,Q0h (by simp[leH,hget])⟩;simp only[Tryz.results55,resL,ldA,Q0q,go_sem])
   have h:=Fn.frzG (d:=5) (pcs:=(ddN s l.length).flatMap apv) hrow
   simp only[AV.frz,beq_self_eq_true,if_true] at h
   rw[if_pos (Q0p Q3v _).symm] at h
   exact h
end
section
open Go.RowKit
open Nat (reduceBEq)
attribute [-go_sem] IntKind.bits
set_option maxRecDepth 20000
set_option maxHeartbeats 2000000
theorem Z0s(a:Int):Fn Tryz.prog 119 [vi .u64 a] [] (w4 a 0 0 0) []:=by
 have h:=of_fn a
 (refine Q0z Tryz.func119 rfl (by rfl) ?_;simp only[Tryz.ntmps119,List.length_cons,List.length_nil,Nat.reduceAdd,Nat.reduceSub,List.replicate,List.cons_append,List.nil_append])
 (repeat(any_goals(first|((with_reducible refine Q0n ?_ ?_ ?_);rfl;rfl;intro K hK;((apply Q0k (h);rfl;rfl;rfl;rfl;exact Tryz.func151);kernel_rfl;rfl;(focus((simp only[go_sem]);(try rfl);done));(first|rfl));(simp only[go_sem];refine hK _ ?_;clear hK K))|((with_reducible refine Q0b ?_ ?_);rfl;intro K hK;simp only[go_sem];((repeat(refine ndI (by first|assumption) ?_));refine hK _ ?_;clear hK K))|(with_reducible first|(refine Q0c ?_;refine hR _ ?_;clear hR R)|((first|refine Q0d ?_);intro J hJ hJ')|(refine Q0a ?_;intro R hR)|(refine hJ _ ?_;clear hJ hJ' J)|refine Q0j ?_))))
 all_goals(refine⟨by simp,⟨_,?_,AV.le_refl _⟩,Q0h (by simp[leH,hget])⟩;simp only[Tryz.results119,resL,ldA,Q0q,go_sem])
theorem rword_fn(a:Int):Fn Tryz.prog 80 [vi .u64 a] [] (w4 a 0 0 0) []:=by
 (refine Q0z Tryz.func80 rfl (by rfl) ?_;simp only[Tryz.ntmps80,List.length_cons,List.length_nil,Nat.reduceAdd,Nat.reduceSub,List.replicate,List.cons_append,List.nil_append])
 (repeat(any_goals(first|((with_reducible refine Q0b ?_ ?_);rfl;intro K hK;simp only[go_sem];((repeat(refine ndI (by first|assumption) ?_));refine hK _ ?_;clear hK K))|(with_reducible first|(refine Q0c ?_;refine hR _ ?_;clear hR R)|((first|refine Q0d ?_);intro J hJ hJ')|(refine Q0a ?_;intro R hR)|(refine hJ _ ?_;clear hJ hJ' J)|refine Q0j ?_))))
 all_goals(refine⟨by simp,⟨_,?_,AV.le_refl _⟩,Q0h (by simp[leH,hget])⟩;simp only[Tryz.results80,resL,ldA,Q0q,go_sem])
theorem X9a(ex:Bool)(l:List Nat)(hl:8≤l.length)(hb:∀b∈l,b<256):Fn Tryz.prog 133 [bsl ex l] [] (vi .u64 (rdN l 8:Int)) []:=by
 (refine Q0z Tryz.func133 rfl (by rfl) ?_;simp only[Tryz.ntmps133,List.length_cons,List.length_nil,Nat.reduceAdd,Nat.reduceSub,List.replicate,List.cons_append,List.nil_append])
 (repeat(any_goals(first|((with_reducible refine Q0b ?_ ?_);rfl;intro K hK;simp only[go_sem];((repeat(refine ndI (by first|assumption) ?_));refine hK _ ?_;clear hK K))|(with_reducible first|(refine Q0c ?_;refine hR _ ?_;clear hR R)|((first|refine Q0d ?_|refine Q0f ?_);intro J hJ hJ')|(refine Q0a ?_;intro R hR)|(refine hJ _ ?_;clear hJ hJ' J)))))
 refine Q1s 8 (fun i=>⟨[bsl ex l,.any,.any,vi .u64 (rdN l i:Int),vi .i64 i,.any,.any,.any,.any,.any,.any,.any,.any,.any,.any,.any,.any,.any],[]⟩) (St.le_of (by simp[leT,rdN]) (by simp[leH])) ?_
 intro i hi J hJ hJ'
 (try dsimp only at hJ ⊢)
 rcases Nat.lt_or_ge i 8 with hlt|hge
 · obtain⟨y,hy⟩:∃y,l[i]? = some y:=⟨l[i]'(by omega),List.getElem?_eq_getElem (by omega)⟩
   have k1:(decide ((i:Int)<8))=true:=by simp;omega
   have k2:=X6y hy
   have k7:(i:Int)+1=((i+1:Nat):Int):=by omega
   have hil:i<l.length:=by omega
   have hx:rdN l i<72057594037927936:=Nat.lt_of_lt_of_le (rdN_lt hb i) (Nat.pow_le_pow_right (n:=256) (by omega) (show i≤7 by omega))
   obtain⟨g1,g2,g3⟩:=or_step hx (hb y (List.mem_of_getElem? hy))
   have g4:rdN l (i+1)=rdN l i*256+y:=by
    show rdN l i*256+(match l[i]? with|some b=>b|none=>0)=_
    rw[hy]
   rw[←g4] at g3
   generalize rdN l (i+1)=r1 at g3 hJ
   generalize rdN l i=r0 at g1 g3 ⊢
   generalize ((r0*256:Nat):Int)=r2 at g1 g3
   (have W:=ndI k1 (ndI k2 (ndI k7 (ndI g1 (ndI g2 (ndI g3 @wrI)))));(repeat(any_goals(first|((with_reducible refine Q0b ?_ ?_);rfl;intro K hK;simp(disch:=omega) only[go_sem,W];((repeat(refine ndI (by first|assumption|omega|rfl) ?_));refine hK _ ?_;clear hK K))|(with_reducible first|(refine Q0c ?_;refine hR _ ?_;clear hR R)|((first|refine Q0d ?_|refine Q0f ?_);intro J hJ hJ')|(refine Q0a ?_;intro R hR)|(refine hJ _ ?_;clear hJ hJ' J)|refine Q0g ?_)|((with_reducible refine hJ' _ _ ?_ ?_);(focus(simp;done));clear hJ hJ' J)|((with_reducible apply Q0e);rfl;rfl;all_goals(intro hc;first|(cases hc;done)|(try simp only at hc)))))))
   all_goals exact hJ _ hlt (St.le_of (by simp[leT]) (by simp[leH]))
 · have k1:(decide ((i:Int)<8))=false:=by simp;omega
   obtain rfl:i=8:=by omega
   (repeat(any_goals(first|((with_reducible refine Q0b ?_ ?_);rfl;intro K hK;simp only[go_sem,k1];((repeat(refine ndI (by first|assumption) ?_));refine hK _ ?_;clear hK K))|(with_reducible first|(refine Q0c ?_;refine hR _ ?_;clear hR R)|((first|refine Q0d ?_);intro J hJ hJ')|(refine Q0a ?_;intro R hR)|(refine hJ _ ?_;clear hJ hJ' J)|refine Q0j ?_|refine Q0o ?_)|((with_reducible refine hJ' _ _ ?_ ?_);(focus(simp;done));clear hJ hJ' J)|((with_reducible apply Q0e);rfl;rfl;all_goals(intro hc;first|(cases hc;done)|(try simp only at hc))))))
   all_goals(refine⟨by simp,⟨_,?_,AV.le_refl _⟩,Q0h (by simp[leH,hget])⟩;simp only[Tryz.results133,resL,ldA,Q0q,go_sem])
abbrev p8(b:Int):PV:=.v (.int .u8 b)
end
section
open Go.RowKit
section
variable {P:Program} {o:Oper} {σ : St} {K:St→Prop}
theorem X1f{d:Nat}{s x:Operand}{t e sz by_ n m:Nat}{ex:Bool}{ps qs:List PV}(ho:o.op = .call {callee:=.builtin .append,args:=#[s,x],argTypes:=#[t,t]})(hs0:Q0i s=true)(hx0:Q0i x=true)(hz:slcZ P t=some (e,sz,by_))(h0:0<sz)(hb0:0<by_)
 (h1:σ.ev s = .c (.sl true sz n ps)) (h2:σ.ev x = .c (.sl ex sz m qs)) (hm:0<m) (hql:qs.length=m*sz) (hby:(n+m)*by_≤140737488355328) (hd:o.dst=some d) (hd2:d<1000) :
 OpN P o σ.ev (hget σ.H) ⟨.row d e sz (n+m),[],[(d,(ps++qs).map .c)],[d]⟩:=fun τ hA _ hN=>by
 have hA':∀z,z=s∨z=x→τ.ev z = σ.ev z:=fun z hz=>hA z (by rw[ho];rcases hz with rfl|rfl<;>simp[Op.operands,Call.operands])
 refine Q5s (m:=m) (ds:=qs.map .c) ho hs0 hx0 hz h0 hb0 (by rw[hA' s (.inl rfl)];exact h1) (by rw[hA' x (.inr rfl),h2];simp[St.src]) hm (by rw[List.length_map];exact hql) hby hd (hN d (by simp)) hd2 (by simp) ?_
 rw[hd,List.map_append]
 rfl
theorem X1i{l0 rest:List Oper}{acc:List Ef}{d:Nat}{s x:Operand}{t e sz by_ n m:Nat}{ex:Bool}{ps qs:List PV}{X:List AV}(hg:o.guard=none)(ho:o.op = .call {callee:=.builtin .append,args:=#[s,x],argTypes:=#[t,t]})(hs0:Q0i s=true)(hx0:Q0i x=true)(hz:slcZ P t=some (e,sz,by_))(h0:0<sz)(hb0:0<by_)
 (h1:σ.ev s = .c (.sl true sz n ps)) (h2:σ.ev x = .c (.sl ex sz m qs)) (hm:0<m) (hql:qs.length=m*sz) (hby:(n+m)*by_≤140737488355328) (hd:o.dst=some d) (hd2:d<1000) (hX:(ps++qs).map .c=X)
 (h:evD P l0 rest (σ.eff o.dst (.row d e sz (n+m)) [(d,X)]) (⟨.row d e sz (n+m),[],[(d,X)],[d]⟩::acc) K):evD P l0 (o::rest) σ acc K:=by
 subst hX
 exact⟨_,.inl ⟨hg,X1f ho hs0 hx0 hz h0 hb0 h1 h2 hm hql hby hd hd2⟩,h⟩
end
end
section
open Go.RowKit
open Nat (reduceBEq)
set_option maxRecDepth 20000
set_option maxHeartbeats 2000000
attribute [local simp] Q2m Q0m Q1o
theorem Ef.sim_val{v:AV}{rd nw:List Nat}{wr:List (Nat×List AV)}(h:∀d,AV.refs d v=false):Ef.sim ⟨v,rd,wr,nw⟩ ⟨.any,rd,wr,nw⟩:=⟨rfl,rfl,rfl,fun d=>by unfold Ef.names;simp[h,AV.refs]⟩
theorem X9w(N:List Nat)(l:List Nat):AV.inNL N (rcB l)=true:=by unfold rcB;exact Q1b _ _
theorem X9d(ρ : Nat→Nat)(l:List Nat):AV.renL ρ (rcB l)=rcB l:=by unfold rcB;exact Q0s _ _
attribute [local simp] X9w Q1r X9d
theorem Z0a(r:Nat)(pcs:List PV)(l:List Nat):AV.frzL r pcs (rcB l)=rcB l:=by unfold rcB;exact Q7v _ _ _
theorem frzL_rcV(r:Nat)(pcs:List PV)(l:List UInt64):AV.frzL r pcs (rcV l)=rcV l:=Q3s (Q0m r l)
theorem bpv_take(l:List Nat)(k:Nat):(l.flatMap bpv).take k=(l.take k).flatMap bpv:=by
 rw[Q4e,Q4e,List.map_take]
theorem X4m(l:List Nat):(l.flatMap bpv).length=l.length:=by rw[Q0p Q3c,Nat.mul_one]
theorem Z1y(ex:Bool)(l D:List Nat)(X:List UInt64)(hD:D.length=32)(hX:X.length=4)(sm:Fn Tryz.prog 179 [bsl ex l] [] (.agg (rcB D)) [])
 (wr:Fn Tryz.prog 180 [.c (.sl false 1 32 (D.flatMap bpv))] [] (.tup [lnA X,vi .i64 0]) []):Fn Tryz.prog 159 [bsl ex l] [] (lnA X) []:=by
 have r1:=fun d=>Q1r d D
 have r2:=fun d=>Q0m d X
 have l32:(rcB D).length=32:=by rw[Q3d,hD]
 have t1:List.take 32 (D.flatMap bpv)=D.flatMap bpv:=List.take_of_length_le (by rw[X4m];omega)
 have t2:(D.flatMap bpv).length=32:=by rw[X4m,hD]
 have t3:List.drop 32 (rcB D)=[]:=List.drop_eq_nil_of_le (by omega)
 have u1:List.take 4 (rcV X)=rcV X:=List.take_of_length_le (by rw[Q1c];omega)
 have u2:(rcV X).length=4:=by rw[Q1c,hX]
 have u3:List.drop 4 (rcV X)=[]:=List.drop_eq_nil_of_le (by omega)
 (refine Q0z Tryz.func159 rfl (by rfl) ?_;simp only[Tryz.ntmps159,List.length_cons,List.length_nil,Nat.reduceAdd,Nat.reduceSub,List.replicate,List.cons_append,List.nil_append])
 (have W:=ndI r1 (ndI l32 t3);(repeat(any_goals(first|((with_reducible refine Q0n ?_ ?_ ?_);rfl;rfl;intro K hK;((apply Q0k (sm);rfl;rfl;rfl;rfl;exact Tryz.func179);kernel_rfl;rfl;(focus((simp(disch:=omega) only[go_sem,W,List.append_nil]);(try rfl);done));(first|simp[AV.inNL,AV.inN]));(simp(disch:=omega) only[go_sem,W,List.append_nil];refine hK _ ?_;clear hK K))|((with_reducible refine Q0b ?_ ?_);rfl;intro K hK;simp(disch:=omega) only[go_sem,W,List.append_nil];((repeat(refine ndI (by first|assumption|rfl) ?_));refine hK _ ?_;clear hK K))|(with_reducible first|(refine Q0c ?_;refine hR _ ?_;clear hR R)|((first|refine Q0d ?_);intro J hJ hJ')|(refine Q0a ?_;intro R hR)|(refine hJ _ ?_;clear hJ hJ' J))))))
 refine Z0c rfl (St.to.frz 3 (pcs:=D.flatMap bpv) (by simp[hget,rcB])) ?_
 simp only[St.frz,AV.frzL,AV.frz,frzH,t2,Z0a,if_true,eq_self,↓reduceIte,Nat.reduceEqDiff,Nat.reduceLT,List.drop_zero]
 (have W:=ndI r2 (ndI t1 (ndI t2 (ndI u1 (ndI u2 u3))));(repeat(any_goals(first|((with_reducible refine Q0n ?_ ?_ ?_);rfl;rfl;intro K hK;((apply Q0k (wr);rfl;rfl;rfl;rfl;exact Tryz.func180);kernel_rfl;rfl;(focus((simp(disch:=omega) only[go_sem,W,Q1r,Q0m,List.append_nil,Nat.mul_one,Nat.sub_zero,Int.toNat_zero]);(try rfl);done));(first|simp[AV.inNL,AV.inN]));(simp(disch:=omega) only[go_sem,W,Q1r,Q0m,List.append_nil,Nat.mul_one,Nat.sub_zero,Int.toNat_zero];refine hK _ ?_;clear hK K))|((with_reducible refine Q0b ?_ ?_);rfl;intro K hK;simp(disch:=omega) only[go_sem,W,Q1r,Q0m,List.append_nil,Nat.mul_one,Nat.sub_zero,Int.toNat_zero];((repeat(refine ndI (by first|assumption|rfl) ?_));refine hK _ ?_;clear hK K))|((with_reducible refine Q0b ?_ ?_);rfl;intro K hK;(try simp(disch:=omega) only[go_sem,W,Q1r,Q0m,List.append_nil,Nat.mul_one,Nat.sub_zero,Int.toNat_zero]);(repeat(refine ndI (by first|assumption|rfl) ?_));apply Q8r;rfl;rfl;rfl;rfl;(focus(simp only[go_sem];try rfl));rfl;(first|omega);rfl;rfl;(first|omega);(simp(disch:=omega) only[go_sem,W,Q1r,Q0m,List.append_nil,Nat.mul_one,Nat.sub_zero,Int.toNat_zero];refine hK _ ?_;clear hK K))|(with_reducible first|(refine Q0c ?_;refine hR _ ?_;clear hR R)|((first|refine Q0d ?_);intro J hJ hJ')|(refine Q0a ?_;intro R hR)|(refine hJ _ ?_;clear hJ hJ' J)|refine Q0j ?_)))))
 all_goals(refine⟨by simp,⟨_,?_,AV.le_refl _⟩,Q0h (by simp[leH,hget])⟩;simp only[Tryz.results159,resL,ldA,Q0q,go_sem,u1];rw[if_pos (by omega)];rfl)
theorem digest_fn(ex:Bool)(l:List Nat)(hl:l.length≤1000)(hb:∀b∈l,b<256)(hd:(digL l).length=32)(hdb:∀b∈digL l,b<256):Fn Tryz.prog 159 [bsl ex l] [] (lnA (wrR (digL l) 32)) []:=by
 have sm:=sum_fn ex l hl hb
 have wr:=wread_fn false (digL l) hd hdb
 have e:bsl false (digL l) = .c (.sl false 1 32 ((digL l).flatMap bpv)):=by rw[bsl,hd]
 rw[e] at wr
 have hX:=X7d (digL l) 32
 exact Z1y ex l (digL l) _ hd hX sm wr
theorem X7p(ex:Bool)(l D:List Nat)(X:Nat→List UInt64)(g:Nat→UInt64)(hD:D.length=32)(X0:X 0=zer 4)(lX:∀i,(X i).length=4)(Xs:∀i,X (i+1)=(X i).set (3-i) (g i))(sm:Fn Tryz.prog 147 [bsl ex l] [] (.agg (rcB D)) [])
 (rd:∀i,i<4→Fn Tryz.prog 133 [.c (.sl false 1 8 (((D.drop (8*i)).take 8).flatMap bpv))] [] (lvA (g i)) []):Fn Tryz.prog 112 [bsl ex l] [] (lnA (X 4)) []:=by
 have r1:=fun d=>Q1r d D
 have l32:(rcB D).length=32:=by rw[Q3d,hD]
 have t2:(D.flatMap bpv).length=32:=by rw[X4m,hD]
 have t3:List.drop 32 (rcB D)=[]:=List.drop_eq_nil_of_le (by omega)
 have z4:rcV (zer 4)=[vi .u64 0,vi .u64 0,vi .u64 0,vi .u64 0]:=rfl
 (refine Q0z Tryz.func112 rfl (by rfl) ?_;simp only[Tryz.ntmps112,List.length_cons,List.length_nil,Nat.reduceAdd,Nat.reduceSub,List.replicate,List.cons_append,List.nil_append])
 (have W:=ndI r1 (ndI l32 t3);(repeat(any_goals(first|((with_reducible refine Q0n ?_ ?_ ?_);rfl;rfl;intro K hK;((apply Q0k (sm);rfl;rfl;rfl;rfl;exact Tryz.func147);kernel_rfl;rfl;(focus((simp(disch:=omega) only[go_sem,W,List.append_nil]);(try rfl);done));(first|simp[AV.inNL,AV.inN]));(simp(disch:=omega) only[go_sem,W,List.append_nil];refine hK _ ?_;clear hK K))|((with_reducible refine Q0b ?_ ?_);rfl;intro K hK;simp(disch:=omega) only[go_sem,W,List.append_nil];((repeat(refine ndI (by first|assumption|rfl) ?_));refine hK _ ?_;clear hK K))|(with_reducible first|(refine Q0c ?_;refine hR _ ?_;clear hR R)|((first|refine Q0d ?_|refine Q0f ?_);intro J hJ hJ')|(refine Q0a ?_;intro R hR)|(refine hJ _ ?_;clear hJ hJ' J))))))
 refine Q3u 4 (fun i=>⟨[.any,.any,.ptr 2 0,.ep (D.flatMap bpv),.ptr 4 0,vi .i64 (i:Int),.any,.any,.any,.any,.any,.any,.any,.any,.any,.any,.any,.any,.any,.any,.any,.any,.any],[(2,rcV (zer 4)),(4,rcV (X i))]⟩) ?_ ?_
 · refine St.to.trans (St.to.of_le (τ:=⟨[.any,.any,.ptr 2 0,.ptr 3 0,.ptr 4 0,vi .i64 0,.any,.any,.any,.any,.any,.any,.any,.any,.any,.any,.any,.any,.any,.any,.any,.any,.any],[(2,rcV (zer 4)),(3,rcB D),(4,rcV (zer 4))]⟩) (St.le_of (by simp[leT]) (by rw[z4];simp[leH,hget]))) ?_
   refine St.to.trans (St.to.frz 3 (pcs:=D.flatMap bpv) (by simp[hget,rcB])) (St.to.of_le ?_)
   simp only[St.frz,AV.frzL,AV.frz,frzH,t2,frzL_rcV,Z0a,if_true,eq_self,↓reduceIte,Nat.reduceEqDiff,Nat.reduceLT,List.drop_zero]
   exact St.le_of (by simp[leT]) (by rw[X0];simp[leH,hget])
 intro i hi J hJ hJ'
 (try dsimp only at hJ ⊢)
 rcases Nat.lt_or_ge i 4 with hlt|hge
 · have k1:(decide ((i:Int)<4))=true:=by simp;omega
   have k7:(i:Int)+1=((i+1:Nat):Int):=by omega
   have j0:(3:Int)-(i:Int)=((3-i:Nat):Int):=by omega
   have j1:(8:Int)*(i:Int)=((8*i:Nat):Int):=by omega
   have j2:((8*i:Nat):Int)+8=((8*i+8:Nat):Int):=by omega
   have j3:8*i+8-8*i=8:=by omega
   have t4:List.take 8 (List.drop (8*i) (D.flatMap bpv))=((D.drop (8*i)).take 8).flatMap bpv:=by rw[X4n,bpv_take]
   have rd:=rd i hlt
   have xs:=Xs i
   obtain⟨v,hv⟩:∃v,g i=v:=⟨_,rfl⟩
   rw[hv] at rd xs
   have k4:=Q3w (X i) (3-i) v (by rw[lX];omega)
   rw[←xs] at k4
   have k6:(rcV (X i)).length=4:=by rw[Q1c,lX]
   clear xs hv
   (have W:=ndI k1 (ndI k4 (ndI k6 (ndI k7 (ndI j0 (ndI j1 (ndI j2 (ndI j3 (ndI t2 (ndI t4 @wrI)))))))));(repeat(any_goals(first|((with_reducible refine Q0n ?_ ?_ ?_);rfl;rfl;intro K hK;((apply Q0k (rd);rfl;rfl;rfl;rfl;exact Tryz.func133);kernel_rfl;rfl;(focus((simp(disch:=omega) only[go_sem,W,Q0m,Q1r,Nat.mul_one,Int.toNat_natCast,Nat.zero_add]);(try rfl);done));(first|rfl));(simp(disch:=omega) only[go_sem,W,Q0m,Q1r,Nat.mul_one,Int.toNat_natCast,Nat.zero_add];refine hK _ ?_;clear hK K))|((with_reducible refine Q0b ?_ ?_);rfl;intro K hK;simp(disch:=omega) only[go_sem,W,Q0m,Q1r,Nat.mul_one,Int.toNat_natCast,Nat.zero_add];((repeat(refine ndI (by first|assumption|omega|rfl) ?_));refine hK _ ?_;clear hK K))|((with_reducible refine Q0b ?_ ?_);rfl;intro K hK;(try simp(disch:=omega) only[go_sem,W,Q0m,Q1r,Nat.mul_one,Int.toNat_natCast,Nat.zero_add]);(repeat(refine ndI (by first|assumption|rfl) ?_));apply Q8r;rfl;rfl;rfl;rfl;(focus(simp only[go_sem];try rfl));rfl;(first|omega);rfl;rfl;(first|omega);(simp(disch:=omega) only[go_sem,W,Q0m,Q1r,Nat.mul_one,Int.toNat_natCast,Nat.zero_add];refine hK _ ?_;clear hK K))|(with_reducible first|(refine Q0c ?_;refine hR _ ?_;clear hR R)|((first|refine Q0d ?_|refine Q0f ?_);intro J hJ hJ')|(refine Q0a ?_;intro R hR)|(refine hJ _ ?_;clear hJ hJ' J)|refine Q0g ?_)|((with_reducible refine hJ' _ _ ?_ ?_);(focus(simp;done));clear hJ hJ' J)|((with_reducible apply Q0e);rfl;rfl;all_goals(intro hc;first|(cases hc;done)|(try simp only at hc)))))))
   all_goals exact hJ _ hlt (St.to.of_le (St.le_of (by simp[leT]) (by simp[leH,hget])))
 · have k1:(decide ((i:Int)<4))=false:=by simp;omega
   obtain rfl:i=4:=by omega
   have b1:List.take 4 (rcV (X 4))=rcV (X 4):=List.take_of_length_le (by rw[Q1c,lX];omega)
   have b2:(rcV (X 4)).length=4:=by rw[Q1c,lX]
   have b5:(rcV (zer 4)).length=4:=rfl
   have b4:List.drop 4 (rcV (zer 4))=[]:=rfl
   (have W:=ndI k1 (ndI b1 (ndI b2 (ndI b4 b5)));(repeat(any_goals(first|((with_reducible refine Q0b ?_ ?_);rfl;intro K hK;simp(disch:=omega) only[go_sem,W,List.append_nil];((repeat(refine ndI (by first|assumption|rfl) ?_));refine hK _ ?_;clear hK K))|(with_reducible first|(refine Q0c ?_;refine hR _ ?_;clear hR R)|((first|refine Q0d ?_);intro J hJ hJ')|(refine Q0a ?_;intro R hR)|(refine hJ _ ?_;clear hJ hJ' J)|refine Q0j ?_|refine Q0o ?_)|((with_reducible refine hJ' _ _ ?_ ?_);(focus(simp;done));clear hJ hJ' J)|((with_reducible apply Q0e);rfl;rfl;all_goals(intro hc;first|(cases hc;done)|(try simp only at hc)))))))
   all_goals(refine⟨by simp,⟨_,?_,AV.le_refl _⟩,Q0h (by simp[leH,hget])⟩;simp only[Tryz.results112,resL,ldA,Q0q,go_sem,b1];rw[if_pos (by omega)];rfl)
end
section
open Go.RowKit
set_option maxRecDepth 20000
set_option maxHeartbeats 2000000
attribute [local simp] Q2m Q0m Q1o X9w Q1r X9d
theorem of_or(a b:Nat):UInt64.ofNat a ||| UInt64.ofNat b=UInt64.ofNat (a ||| b):=by
 apply UInt64.toNat.inj
 rw[UInt64.toNat_or,UInt64.toNat_ofNat',UInt64.toNat_ofNat',UInt64.toNat_ofNat']
 exact(Nat.or_mod_two_pow (n:=64)).symm
def drG(b:List Nat)(i:Nat):UInt64:=UInt64.ofNat (rdN ((b.drop (8*i)).take 8) 8)
def drR(b:List Nat):Nat→List UInt64
 |0=>zer 4
 |i+1=>(drR b i).set (3-i) (drG b i)
theorem X0m(b:List Nat):∀k,(drR b k).length=4
 |0=>rfl
 |k+1=>by unfold drR;rw[List.length_set,X0m b k]
theorem Z0f(b:List Nat):∀g j,j+g≤3→(drR b g).getD j 0=0
 |0,j,h=>by
  have:j=0∨j=1∨j=2∨j=3:=by omega
  rcases this with rfl|rfl|rfl|rfl<;>rfl
 |g+1,j,h=>by
  unfold drR
  rw[List.getD_eq_getElem?_getD,List.getElem?_set_ne (by omega),←List.getD_eq_getElem?_getD]
  exact Z0f b g j (by omega)
theorem rdN_s{l:List Nat}{i:Nat}(h:i<l.length):rdN l (i+1)=rdN l i*256+l.getD i 0:=by
 show rdN l i*256+(match l[i]? with|some b=>b|none=>0)=_
 rw[List.getD_eq_getElem?_getD,List.getElem?_eq_getElem h];rfl
theorem step_or{x y:Nat}(m:Nat)(hy:y<256)(hm:m<8):(x*2 ^ (8*(8-m))) ||| (y*2 ^ (8*(7-m)))=(x*256+y)*2 ^ (8*(8-(m+1))):=by
 have e:8*(8-m)=8*(7-m)+8:=by omega
 have e2:8*(8-(m+1))=8*(7-m):=by omega
 rw[e,e2,Nat.pow_add,show x*(2 ^ (8*(7-m))*2 ^ 8)=(x*256)*2 ^ (8*(7-m)) by rw[Nat.mul_comm (2 ^ (8*(7-m))),←Nat.mul_assoc]]
 generalize 8*(7-m)=k
 rw[←Nat.shiftLeft_eq,←Nat.shiftLeft_eq,←Nat.shiftLeft_or_distrib,←Nat.shiftLeft_eq]
 have:=Nat.two_pow_add_eq_or_of_lt (i:=8) (b:=y) (by omega) x
 rw[show x*256=2 ^ 8*x by omega,this]
theorem lane_eq(b:List Nat)(hb:∀x∈b,x<256)(hl:b.length=32)(g:Nat)(hg:g<4)(ih:wrR b (8*g)=drR b g) :
 ∀m,m≤8→wrR b (8*g+m)=(drR b g).set (3-g) (UInt64.ofNat (rdN ((b.drop (8*g)).take 8) m*2 ^ (8*(8-m))))
 |0,_=>by
  have e:UInt64.ofNat (rdN ((b.drop (8*g)).take 8) 0*2 ^ (8*(8-0)))=0:=by
   show UInt64.ofNat (0*_)=0
   rw[Nat.zero_mul];rfl
  rw[e,Nat.add_zero,ih]
  have hz:=Z0f b g (3-g) (by omega)
  conv=>rhs;rw[←hz]
  exact(X8x _ _ (by rw[X0m];omega)).symm
 |m+1,h=>by
  have hlen:((b.drop (8*g)).take 8).length=8:=by rw[List.length_take,List.length_drop];omega
  have hi:=lane_eq b hb hl g hg ih m (by omega)
  show wrR b ((8*g+m)+1)=_
  unfold wrR
  rw[hi,show(31-(8*g+m))/8=3-g by omega,show(31-(8*g+m))%8=7-m by omega,X9x _ _ _ (by rw[X0m];omega),List.set_set,of_or]
  have e1:b.getD (8*g+m) 0=((b.drop (8*g)).take 8).getD m 0:=by
   rw[List.getD_eq_getElem?_getD,List.getD_eq_getElem?_getD,List.getElem?_take,if_pos (by omega),List.getElem?_drop]
  have hy:((b.drop (8*g)).take 8).getD m 0<256:=by rw[←e1];exact Q8m hb _
  rw[e1,step_or m hy (by omega),rdN_s (by omega)]
theorem word_eq(b:List Nat)(hb:∀x∈b,x<256)(hl:b.length=32):∀g,g≤4→wrR b (8*g)=drR b g
 |0,_=>rfl
 |g+1,h=>by
  have:=lane_eq b hb hl g (by omega) (word_eq b hb hl g (by omega)) 8 (by omega)
  rw[show 8*(g+1)=8*g+8 by omega,this,show 8*(8-8)=0 from rfl,Nat.pow_zero,Nat.mul_one]
  rfl
theorem X3y(l:List Nat):(digL l).length=32:=X3o _ 32
theorem idL_lt(l:List UInt64):∀k,∀b∈idL l k,b<256
 |0,b,h=>by
  unfold idL at h
  obtain⟨_,rfl⟩:=List.mem_replicate.1 h
  decide
 |k+1,b,h=>by
  unfold idL at h
  rcases List.mem_or_eq_of_mem_set h with h|rfl
  · exact idL_lt l k b h
  · exact Nat.mod_lt _ (by decide)
theorem X8h(l:List Nat):∀b∈digL l,b<256:=idL_lt _ 32
def digW(l:List Nat):List UInt64:=drR (digL l) 4
theorem Z0g(l:List Nat):(digW l).length=4:=X0m _ 4
theorem dig_fn(ex:Bool)(l:List Nat)(hl:l.length≤1000)(hb:∀b∈l,b<256):Fn Tryz.prog 159 [bsl ex l] [] (lnA (digW l)) []:=by
 have h:=digest_fn ex l hl hb (X3y l) (X8h l)
 rw[show wrR (digL l) 32=digW l from word_eq _ (X8h l) (X3y l) 4 (by decide)] at h
 exact h
theorem rdN_lt64{l:List Nat}(h:∀b∈l,b<256):rdN l 8<18446744073709551616:=rdN_lt h 8
theorem rdig_fn(ex:Bool)(l:List Nat)(hl:l.length≤1000)(hb:∀b∈l,b<256):Fn Tryz.prog 112 [bsl ex l] [] (lnA (digW l)) []:=by
 have sm:=rsum_fn ex l hl hb
 have hd:=X3y l
 have hdb:=X8h l
 unfold digW
 generalize digL l=D at *
 refine X7p ex l D (drR D) (drG D) hd rfl (X0m D) (fun _=>rfl) sm fun i hi=>?_
 have hb':∀b∈(D.drop (8*i)).take 8,b<256:=fun b h=>hdb b (List.mem_of_mem_drop (List.mem_of_mem_take h))
 have hlen:((D.drop (8*i)).take 8).length=8:=by rw[List.length_take,List.length_drop];omega
 have h:=X9a false ((D.drop (8*i)).take 8) (by omega) hb'
 have e:(vi .u64 (rdN ((D.drop (8*i)).take 8) 8:Int):AV)=lvA (drG D i):=by
  unfold drG lvA
  rw[UInt64.toNat_ofNat_of_lt' (rdN_lt64 hb')]
 rw[e,bsl,hlen] at h
 exact h
end
section
open Go.RowKit Go.MapKept
section
variable {P:Program} {o:Oper} {σ : St} {K:St→Prop}
theorem Q1p{f:FuncId}{x:Operand}(ho:o.op = .makeFunc (.func f) #[x] #[])(hx:Q0i x=true)(hK:K (σ.put o.dst (.fnb f [σ.ev x]))):OpA P o σ K:=
 Q1h _ hK fun E ι a w h=>by
  refine⟨.func (.func f) #[a.eval x] #[],by simp[execOp,ho,Instr.makeFunc],.fnb f [a.eval x] [σ.ev x] rfl fun j u y hu hy=>?_⟩
  cases j with
  |zero=>simp at hu hy;subst hu hy;exact h.ev x hx
  |succ j=>simp at hu
theorem opA_callG{f:FuncId}{fn:Func}{cargs:List AV}{H0 H1:List (Nat×List AV)}{res:AV}(hF:Fn P f cargs H0 res H1)(ρ : Nat→Nat)
 {fo:Operand} {ts:Array TypeId} {caps:List AV} (ho:o.op = .call {callee:=.value fo,args:=#[],argTypes:=ts}) (hfo:Q0i fo=true) (hf:σ.ev fo = .fnb f caps)
 (hfn:P.funcs[f]? = some fn) (hname:(fn.name == "runtime.NumGoroutine")=false) (hbody:fn.body.isNone=false)
 (hD0:H0.all (fun x=>decide (1000≤x.1))=true) (hargs:Q1f ρ cargs caps) (hH0:∀r∈H0.map (·.1),hget σ.H (ρ r)=(hget H0 r).map (AV.renL ρ)) (hinj:∀r∈H0.map (·.1)++H1.map (·.1),∀q∈H0.map (·.1)++H1.map (·.1),ρ r = ρ q→r=q)
 (hnew:Q2b σ ρ H0 H1) (hin:AV.inN (H1.map (·.1)) res=true) (hinH:inH (H1.map (·.1)) H1=true)
 (hK:K ((St.mk σ.T (Q0w (Q1y σ.H (renH ρ H0)) (renH ρ H1))).put o.dst (AV.ren ρ res))):OpA P o σ K:=by
 intro E ι a w hc K' Q hK'
 have hfv:=hc.ev fo hfo
 rw[hf] at hfv
 generalize hfe:a.eval fo=fv at hfv
 cases hfv with
 |fnb _ us _ hul hus=>
  have hSx:∀b,Sx E ι σ.H b→b<w.heap.size→Sx E ι σ.H b∧w.heap[b]? = w.heap[b]?:=fun b hb _=>⟨hb,rfl⟩
  have hD0':∀r∈H0.map (·.1),1000≤r:=fun r hr=>by
   obtain⟨x,hx,rfl⟩:=List.mem_map.1 hr
   have:=List.all_eq_true.1 hD0 x hx
   simpa using this
  obtain⟨hal,hag⟩:=Q3i hargs
  have hlen:us.length=cargs.length:=by rw[hal,hul]
  have hH0':∀r cs,hget H0 r=some cs→hget σ.H (ρ r)=some (AV.renL ρ cs):=fun r cs hr=>by rw[hH0 r (Q2x hr),hr];rfl
  obtain⟨E',hE'⟩:∃E':Env,E'={w:=w,S:=Sx E ι σ.H,ι:=fun r=>ι (ρ r),D:=H0.map (·.1),hD:=hD0',hG:=hc.glob hH0'}:=⟨_,rfl⟩
  have hconcH:ConcH E'.S E'.ι H0 E'.w:=by
   subst hE'
   exact hc.enter ρ hH0' fun r hr q hq=>hinj r (List.mem_append_left _ hr) q (List.mem_append_left _ hq)
  have hcall:=hF E' us (by rw[hE']) (fun r cs b hr hz hS=>by
   subst hE'
   exact hS.2 (ρ r) _ (hH0' r cs hr) hz) hconcH hlen (fun j v x hv hx=>by
   subst hE'
   have hlt:=(List.getElem?_eq_some_iff.1 hv).1
   have hy:caps[j]? = some (caps[j]'(by rw[←hul];exact hlt)):=List.getElem?_eq_getElem _
   rcases hag j x _ hx hy with rfl|e
   · exact .any _
   · exact(hus j v _ hv hy).unren x e)
  have hwE:E'.w=w:=by rw[hE']
  rw[hwE] at hcall
  have hrun:(execOp a.eval o).run P w = .ok (.enter f us.toArray) w:=by
   have hen:=Q5z hfn hname hbody us.toArray w
   simp only[execOp,ho,resolve,hfe,Deferred.ofValue,Sem.run_bind,Sem.run_pure,Result.andThen_ok,invoke,Array.map_empty,Array.append_empty,hen]
  unfold Oper.wp
  rw[hrun,Oper.upon_enter]
  refine hcall.mono fun e w'=>?_
  rintro ⟨v,ι',rfl,hres,hcH,hk⟩
  simp only
  obtain⟨ι2,hcn,hrv⟩:=hc.back ρ hD0' hH0' hinj hnew hin hinH hE' hres hcH hk
  exact hK' ι2 _ _ _ hK (hcn.put o.dst hrv)
theorem opF_callG{f:FuncId}{fn:Func}{cs cs':List AV}{res:AV}{r:Nat}(hF:Fn P f [.ptr 1000 0] [(1000,cs)] res [(1000,cs')])
 {fo:Operand} {ts:Array TypeId} (ho:o.op = .call {callee:=.value fo,args:=#[],argTypes:=ts}) (hfo:Q0i fo=true) (hf:σ.ev fo = .fnb f [.ptr r 0])
 (hfn:P.funcs[f]? = some fn) (hname:(fn.name == "runtime.NumGoroutine")=false) (hbody:fn.body.isNone=false)
 (hr:hget σ.H r=some cs) (hc0:AV.inNL [] cs=true) (hc1:AV.inNL [] cs'=true) (hre:AV.inN [] res=true):OpF P o σ.ev (hget σ.H) res [r] [(r,cs')]:=fun τ hA hQ=>by
 have e1:τ.ev fo = σ.ev fo:=hA fo (by rw[ho];simp[Op.operands,Call.operands])
 have e2:hget τ.H r=some cs:=(hQ r (by simp)).trans hr
 refine OpA.then ?_
 refine opA_callG hF (fun _=>r) ho hfo (e1.trans hf) hfn hname hbody rfl (by simp[Q1f,Q2g,AV.ren]) (by simp[hget,e2,Q4a _ _ hc0]) (by simp) (by simp[Q2b]) (inN_sub (fun r h=>by cases h) _ hre) (by simp[inH,Q5n (N:=[]) (fun r h=>by cases h) _ hc1]) ?_
 refine⟨_,St.to.of_le ?_,rfl⟩
 rw[Q9c _ _ hre]
 have key:∀q es,hget (hput τ.H r cs') q=some es→hget (hput (hdel τ.H r) r cs') q=some es:=fun q es hq=>by
  rw[Q2n] at hq ⊢
  split at hq
  · rename_i e;rw[if_pos e];exact hq
  · rename_i e;rw[if_neg e,X3q,if_neg e];exact hq
 simp only[renH,Q0w,Q1y,Q4a _ _ hc1]
 cases o.dst with
 |none=>exact⟨rfl,fun i=>AV.le_refl _,key⟩
 |some d=>exact⟨rfl,fun i=>AV.le_refl _,key⟩
def ALE(p:Env→Prop)(P:Program)(ops:Array Oper)(l:List Oper)(σ : St)(K:St→Prop):Prop:=
 ∀(E:Env) (ι : Nat→Nat×Nat×Nat) (a:Act) (w:World),p E→Conc E ι σ a w→∀Q:Exit→Act→World→Prop,(∀ι' σ' a' w',K σ'→Conc E ι' σ' a' w'→Q .normal a' w')→wpList P ops Q l a w
theorem ALE.nil{p:Env→Prop}{ops:Array Oper}(h:K σ):ALE p P ops [] σ K:=fun E ι a w _ hc Q hQ=>hQ ι σ a w h hc
theorem ALE.one{p:Env→Prop}{ops:Array Oper}{rest:List Oper}(hg:o.guard=none)(h:OpW p P o σ fun σ'=>ALE p P ops rest σ' K):ALE p P ops (o::rest) σ K:=fun E ι a w hp hc Q hQ=>by
 refine wpList_plain hg fun K1 hK1=>?_
 exact h E ι a w hp hc K1 _ fun ι' σ' a' w' hk hc'=>hK1 _ _ (hk E ι' a' w' hp hc' Q hQ)
theorem ALE.oneA{p:Env→Prop}{ops:Array Oper}{rest:List Oper}(hg:o.guard=none)(h:evO P o σ fun σ'=>ALE p P ops rest σ' K):ALE p P ops (o::rest) σ K:=ALE.one hg (Q3t h).toW
theorem AWE.regionL{p:Env→Prop}{id:Nat}{l:List Oper}{Φ : Exit→St→Prop}(h:ALE p P l.toArray l σ (Φ .normal)):AWE p P (.region id l.toArray false) σ Φ:=fun E ι a w hp hc=>by
 refine wp_region_list ?_
 exact h E ι a w hp hc _ fun ι' σ' a' w' hk hc'=>⟨ι',σ',hc',hk⟩
theorem Q8q{E0:Env}{t:TypeId}(ho:o.op = .makeMap t none)(hK:∀b,E0.w.heap.size≤b→K (σ.put o.dst (.amp b [] []))):OpW (fun E=>E=E0) P o σ K:=by
 intro E ι a w hE hc K' Q hK'
 subst hE
 have hS:Sx E ι σ.H w.heap.size:=by
  refine⟨.inr (.inl hc.keep.size),fun r cs hr hz e=>?_⟩
  rcases hc.heap.blk r cs hr with⟨h0,_⟩|⟨cur,hh,_⟩
  · exact hz h0
  · have:=(Array.getElem?_eq_some_iff.1 hh).1
    omega
 have hc1:=hc.alloc (.map #[] 0)
 have hnew:(w.alloc (.map #[] 0)).heap[w.heap.size]? = some (.map #[] 0):=World.alloc_heap_new w _
 have hr:(execOp a.eval o).run P w = .ok (.value (.map (some w.heap.size))) (w.alloc (.map #[] 0)):=by
  unfold execOp
  simp only[ho]
  rfl
 have h2:=hK' ι _ _ _ (hK w.heap.size hc.keep.size) (hc1.put o.dst (.amp w.heap.size #[] 0 [] [] [] hS hnew rfl rfl rfl fun j u x hu=>by simp at hu))
 unfold Oper.wp
 rw[hr]
 exact h2
def AV.amU(b:Nat)(ks:List Value)(cs:List AV)(x:AV):AV:=
 match x with
 |.amp b0 _ _=>if b0=b then .amp b ks cs else .any
 |x=>if AV.hasMp x then .any else x
end
section
variable {E:Env} {ι : Nat→Nat×Nat×Nat} {σ : St} {a:Act} {w:World} {b clk clk':Nat} {X X':Array MapEntry}
theorem RV.amU{S:Nat→Prop}{v:Value}{x:AV}{ks us:List Value}{cs:List AV}(h:RV S ι w v x)(hb:w.heap[b]? = some (.map X clk))(hk:X'.toList.map (·.key)=ks)(hu:X'.toList.map (·.val)=us)(hl:us.length=cs.length)(hr:∀(j:Nat) (u:Value) (x:AV),us[j]? = some u→cs[j]? = some x→RV S ι w u x)(hm:AV.hasMpA cs=false) :
 RV S ι (w.putObj b (.map X' clk')) v (x.amU b ks cs):=by
 have hlt:=(Array.getElem?_eq_some_iff.1 hb).1
 have hn:∀{v:Value} {x:AV},RV S ι w v x→AV.hasMp x=false→RV S ι (w.putObj b (.map X' clk')) v x:=fun h hm=>h.nmono (fun b' cur e z hS hh=>⟨hS,X9j hb _ hh fun _ _ h=>by cases h⟩) hm
 unfold AV.amU
 split
 · rename_i b0 ks0 cs0
   split
   · rename_i e
     subst e
     cases h with
     |amp _ Y c ks us' cs' hS hh hk' hu' hl' h'=>exact .amp _ X' clk' _ us cs hS (World.putObj_heap_same hlt) hk hu hl fun j u x hu hx=>hn (hr j u x hu hx) (Q3y hm j x hx)
   · exact .any _
 · split
   · exact .any _
   · rename_i hm
     exact hn h (by simpa using hm)
theorem Conc.amap{ks us:List Value}{cs:List AV}(h:Conc E ι σ a w)(hb:w.heap[b]? = some (.map X clk))(hE:E.w.heap.size≤b)(hH:Q7u σ.H=false)(hk:X'.toList.map (·.key)=ks)(hu:X'.toList.map (·.val)=us)(hl:us.length=cs.length)(hr:∀(j:Nat) (u:Value) (x:AV),us[j]? = some u→cs[j]? = some x→RV (Sx E ι σ.H) ι w u x)(hm:AV.hasMpA cs=false) :
 Conc E ι ⟨σ.T.map (AV.amU b ks cs),σ.H⟩ a (w.putObj b (.map X' clk')):=by
 have hlt:=(Array.getElem?_eq_some_iff.1 hb).1
 refine⟨?_,by rw[List.length_map];exact h.size,fun i=>?_,⟨fun r cs hr=>?_,h.heap.inj⟩,⟨h.keep.os,h.keep.tape,h.keep.output,by simpa using h.keep.size,fun b' hb' hbD=>?_,h.keep.mine⟩⟩
 · obtain⟨Ds,h1,h2,h3⟩:=h.defers
   refine⟨Ds,h1,h2,fun D hD=>?_⟩
   obtain⟨g1,g2,g3⟩:=h3 D hD
   exact⟨g1,g2,(X9j hb _ g3 fun _ _ h=>by cases h).trans g3⟩
 · have e:(σ.T.map (AV.amU b ks cs)).getD i .any=(σ.T.getD i .any).amU b ks cs:=by
    rw[List.getD_eq_getElem?_getD,List.getD_eq_getElem?_getD,List.getElem?_map]
    cases σ.T[i]? <;> rfl
   rw[e]
   exact(h.tmp i).amU hb hk hu hl hr hm
 · rcases h.heap.blk r cs hr with h0|⟨cur,hh,hs,hlen,hc,hone1⟩
   · exact .inl h0
   · have hm:=X2d hH r cs hr
     exact .inr ⟨cur,(X9j hb _ hh fun _ _ h=>by cases h).trans hh,hs,hlen,fun j u x hu hx=>⟨(hc j u x hu hx).1.nmono (fun b' cur e z hS hh=>⟨hS,X9j hb _ hh fun _ _ h=>by cases h⟩) (Q3y hm j x hx),(hc j u x hu hx).2⟩,hone1⟩
 · have hne:b'≠b:=by omega
   rw[World.putObj_heap_other hne]
   exact h.keep.block b' hb' hbD
end
def Q5o(k:Int):List Int→Nat→Option Nat
 |[],_=>none
 |q::l,i=>if k=q then some i else Q5o k l (i+1)
abbrev iks(l:List Int):List Value:=l.map fun n=>Value.int .i64 n
theorem Q6i(k:Int):∀(l:List MapEntry) (kl:List Int) (i:Nat),l.map (·.key)=iks kl→Instr.findNow (.int .i64) (.int .i64 k) l i=some ((Q5o k kl i).bind fun j=>(l[j-i]?).map fun e=>(j,e.val))
 |[],[],i,_=>rfl
 |[],p::m,i,h=>by cases h
 |e::l,[],i,h=>by cases h
 |e::l,p::m,i,h=>by
  simp only[iks,List.map_cons,List.cons.injEq] at h
  obtain⟨h1,h3⟩:=h
  have ih:=Q6i k l m (i+1) h3
  unfold Instr.findNow Q5o
  rw[h1]
  unfold Instr.sameNow
  by_cases hk:k=p
  · have:(k==p)=true:=by simpa using hk
    simp[this,hk]
  · have:(k==p)=false:=by simpa using hk
    simp[this,hk,ih]
    cases hf:Q5o k m (i+1) with
    |none=>rfl
    |some j=>
     have hge:∀(m:List Int) (i j:Nat),Q5o k m i=some j→i≤j:=by
      intro m
      induction m with
      |nil=>intro i j h;cases h
      |cons q m ih=>
       intro i j h
       unfold Q5o at h
       split at h
       · cases h;exact Nat.le_refl _
       · exact Nat.le_of_succ_le (ih (i+1) j h)
     have:=hge m (i+1) j hf
     obtain⟨d,rfl⟩:∃d,j=i+1+d:=⟨j-(i+1),by omega⟩
     simp only[Option.bind_some]
     rw[show i+1+d-(i+1)=d by omega,show i+1+d-i=d+1 by omega,List.getElem?_cons_succ]
theorem X0e(k:Int):IsKey (.int .i64) (.int .i64 k):=by simp[IsKey]
section
variable {P:Program} {o:Oper} {σ : St} {K:St→Prop}
theorem Q2f{E0:Env}{t kt et:TypeId}{x ix vx:Operand}{b:Nat}{k:Int}{kl:List Int}{cs:List AV}{y:AV}(ho:o.op = .insert t x ix vx)(hd:o.dst=none)(hx:Q0i x=true)(hi:Q0i ix=true)(hvx:Q0i vx=true)(hm:P.underlying t=some (.map kt et))(hkt:P.underlying kt=some (.int .i64))
 (h1:σ.ev x = .amp b (iks kl) cs) (h2:σ.ev ix = .c (.v (.int .i64 k))) (h3:σ.ev vx=y) (hf:Q5o k kl 0=none) (hb:E0.w.heap.size≤b) (hH:Q7u σ.H=false) (hm1:AV.hasMpA (cs++[y])=false)
 (hK:K ⟨σ.T.map (AV.amU b (iks (kl++[k])) (cs++[y])),σ.H⟩):OpW (fun E=>E=E0) P o σ K:=by
 intro E ι a w hE hc K' Q hK'
 subst hE
 have hiv:=hc.ev ix hi
 rw[h2] at hiv
 obtain⟨ei,_⟩:=hiv.v_inv
 have hvv:=hc.ev vx hvx
 rw[h3] at hvv
 have hxv:=hc.ev x hx
 rw[h1] at hxv
 generalize he:a.eval x=vm at hxv
 cases hxv with
 |amp _ X clk _ us _ hS hh hk hu hl hr=>
  have hfn:=Q6i k X.toList kl 0 hk
  rw[hf] at hfn
  have hrun:(execOp a.eval o).run P w = .ok .skip (w.putObj b (.map (X.push {key:=.int .i64 k,val:=a.eval vx,born:=clk}) (clk+1))):=by
   unfold execOp
   simp[ho,he,ei,Instr.mapUpdate,run_underlying hm,MapKept.run_getObj_map hh,MapKept.run_checkKey hkt (X0e k),MapKept.run_findKey hkt hfn,MapKept.run_setObj_map _ hh,Result.andThen,World.putObj]
  have h4:=hK' ι _ _ _ hK (hc.amap (X':=X.push {key:=.int .i64 k,val:=a.eval vx,born:=clk}) (clk':=clk+1) (us:=us++[a.eval vx]) (cs:=cs++[y]) hh hb hH (by rw[Array.toList_push,List.map_append,hk];simp[iks]) (by rw[Array.toList_push,List.map_append,hu];rfl) (by simp[hl]) (fun j u x hu hx=>by
   rcases Nat.lt_or_ge j us.length with hj|hj
   · rw[List.getElem?_append_left hj] at hu
     rw[List.getElem?_append_left (by omega)] at hx
     exact hr j u x hu hx
   · rw[List.getElem?_append_right hj] at hu
     rw[List.getElem?_append_right (by omega)] at hx
     rw[hl] at hu
     cases hz:j-cs.length with
     |zero=>rw[hz] at hu hx;simp at hu hx;subst hu hx;exact hvv
     |succ m=>rw[hz] at hu;simp at hu) hm1)
  unfold Oper.wp
  rw[hrun]
  simpa [Oper.upon,hd,Act.put] using h4
theorem X7u{t kt et:TypeId}{x ix:Operand}{b j:Nat}{k:Int}{kl:List Int}{cs:List AV}{y:AV}(ho:o.op = .lookup t x ix true)(hx:Q0i x=true)(hi:Q0i ix=true)(hm:P.underlying t=some (.map kt et))(hkt:P.underlying kt=some (.int .i64))
 (h1:σ.ev x = .amp b (iks kl) cs) (h2:σ.ev ix = .c (.v (.int .i64 k))) (hf:Q5o k kl 0=some j) (hy:cs[j]? = some y) (hK:K (σ.put o.dst (.tup [y,.c (.v (.bool true))]))):OpA P o σ K:=by
 refine Q1h _ hK fun E ι a w h=>?_
 have hxv:=h.ev x hx
 rw[h1] at hxv
 have hiv:=h.ev ix hi
 rw[h2] at hiv
 obtain⟨ei,_⟩:=hiv.v_inv
 generalize he:a.eval x=v at hxv
 cases hxv with
 |amp _ X clk _ us _ hS hh hk hu hl hr=>
  have hfn:=Q6i k X.toList kl 0 hk
  rw[hf] at hfn
  have hj:j<us.length:=by rw[hl];exact(List.getElem?_eq_some_iff.1 hy).1
  have hjX:j<X.size:=by
   have:=congrArg List.length hu
   simp at this
   omega
  have hval:X[j].val=us[j]:=by
   have:(X.toList.map (·.val))[j]? = us[j]?:=by rw[hu]
   rw[List.getElem?_map,List.getElem?_eq_getElem hj] at this
   simpa [hjX] using this
  refine⟨.tuple #[us[j],.bool true],?_,.tup [us[j],.bool true] _ rfl fun i u z hu hz=>?_⟩
  · unfold execOp
    simp only[Option.bind_some,Nat.sub_zero] at hfn
    rw[show X.toList[j]? = some X[j] by simp[hjX],Option.map_some,hval] at hfn
    simp only[ho,he,ei]
    simp[Instr.lookup,run_underlying hm,MapKept.run_getObj_map hh,MapKept.run_checkKey hkt (X0e k),MapKept.run_findKey hkt hfn,Result.andThen]
  · rcases i with _|_|i
    · simp at hu hz;subst hu hz;exact hr j _ _ (List.getElem?_eq_getElem hj) hy
    · simp at hu hz;subst hu hz;exact Q1z _ rfl
    · simp at hu
theorem X7t{t kt et:TypeId}{x ix:Operand}{b:Nat}{k:Int}{kl:List Int}{cs:List AV}{z:Value}(ho:o.op = .lookup t x ix true)(hx:Q0i x=true)(hi:Q0i ix=true)(hm:P.underlying t=some (.map kt et))(hkt:P.underlying kt=some (.int .i64))(hz:(P.info? et).bind (·.zero)=some z)(hz1:z.oneCell'=true)
 (h1:σ.ev x = .amp b (iks kl) cs) (h2:σ.ev ix = .c (.v (.int .i64 k))) (hf:Q5o k kl 0=none) (hK:K (σ.put o.dst (.tup [.c (.v z),.c (.v (.bool false))]))):OpA P o σ K:=by
 refine Q1h _ hK fun E ι a w h=>?_
 have hxv:=h.ev x hx
 rw[h1] at hxv
 have hiv:=h.ev ix hi
 rw[h2] at hiv
 obtain⟨ei,_⟩:=hiv.v_inv
 generalize he:a.eval x=v at hxv
 cases hxv with
 |amp _ X clk _ us _ hS hh hk hu hl hr=>
  have hfn:=Q6i k X.toList kl 0 hk
  rw[hf] at hfn
  refine⟨.tuple #[z,.bool false],?_,.tup [z,.bool false] _ rfl fun i u y hu hy=>?_⟩
  · unfold execOp
    simp only[ho,he,ei]
    simp[Instr.lookup,run_underlying hm,MapKept.run_getObj_map hh,MapKept.run_checkKey hkt (X0e k),MapKept.run_findKey hkt hfn,Result.andThen,run_zeroV hz]
  · rcases i with _|_|i
    · simp at hu hy;subst hu hy;exact Q1z _ hz1
    · simp at hu hy;subst hu hy;exact Q1z _ rfl
    · simp at hu
end
end
section
open Go.RowKit
open Nat (reduceBEq)
attribute [-go_sem] IntKind.bits
set_option maxRecDepth 20000
set_option maxHeartbeats 2000000
theorem X4k{l:List Nat}{i:Nat}{y:Nat}(h:l[i]? = some y):((l.flatMap bpv).drop i).take 1=[.v (.int .u8 (y:Int))]:=by
 have:=X6y h
 rwa [Nat.mul_one] at this
theorem beq_fn(e1 e2:Bool)(a b:List Nat)(hl:a.length≤1000000):Fn Tryz.prog 141 [bsl e1 a,bsl e2 b] [] (vb (decide (a=b))) []:=by
 obtain⟨r,hr⟩:∃r,decide (a=b)=r:=⟨_,rfl⟩
 rw[hr]
 by_cases hab:a.length=b.length
 · have k0:((a.length:Int) != (b.length:Int))=false:=by simp;omega
   (refine Q0z Tryz.func141 rfl (by rfl) ?_;simp only[Tryz.ntmps141,List.length_cons,List.length_nil,Nat.reduceAdd,Nat.reduceSub,List.replicate,List.cons_append,List.nil_append])
   (repeat(any_goals(first|((with_reducible refine Q0b ?_ ?_);rfl;intro K hK;simp only[go_sem,k0];((repeat(refine ndI (by first|assumption) ?_));refine hK _ ?_;clear hK K))|(with_reducible first|(refine Q0c ?_;refine hR _ ?_;clear hR R)|((first|refine Q0d ?_|refine Q0f ?_);intro J hJ hJ')|(refine Q0a ?_;intro R hR)|(refine hJ _ ?_;clear hJ hJ' J)|refine Q0g ?_)|((with_reducible apply Q0e);rfl;rfl;all_goals(intro hc;first|(cases hc;done)|(try simp only at hc))))))
   refine Q1t (α:={i:Nat // i≤a.length∧a.take i=b.take i}) (fun p=>⟨[bsl e1 a,bsl e2 b,.any,.any,vb false,.any,.any,.any,.any,.any,.any,.any,vi .i64 a.length,vi .i64 (p.1:Int),.any,.any,.any,.any,.any,.any,.any,.any,.any,.any,.any,.any],[]⟩) (fun p=>a.length-p.1) ⟨0,Nat.zero_le _,rfl⟩ (St.le_of (by simp[leT]) (by simp[leH])) ?_
   rintro ⟨i,hi,htk⟩ J hJ hJ'
   (try dsimp only at hJ ⊢)
   rcases Nat.lt_or_ge i a.length with hlt|hge
   · obtain⟨x,hx⟩:∃x,a[i]? = some x:=⟨_,List.getElem?_eq_getElem hlt⟩
     obtain⟨y,hy⟩:∃y,b[i]? = some y:=⟨_,List.getElem?_eq_getElem (by omega)⟩
     have k1:(decide ((i:Int)<(a.length:Int)))=true:=by simp;omega
     have k2:=X4k hx
     have k3:=X4k hy
     have k7:(i:Int)+1=((i+1:Nat):Int):=by omega
     have hib:i<b.length:=by omega
     by_cases hxy:x=y
     · have k4:((x:Int) != (y:Int))=false:=by simp[hxy]
       have hJ1:=fun σ'=>hJ σ' ⟨i+1,hlt,by rw[List.take_add_one,List.take_add_one,htk,hx,hy,hxy]⟩ (by dsimp only;omega)
       dsimp only at hJ1
       (have W:=ndI k1 (ndI k2 (ndI k3 (ndI k4 (ndI k7 @wrI))));(repeat(any_goals(first|((with_reducible refine Q0b ?_ ?_);rfl;intro K hK;simp(disch:=omega) only[go_sem,W,Nat.mul_one];((repeat(refine ndI (by first|assumption|rfl) ?_));refine hK _ ?_;clear hK K))|(with_reducible first|(refine Q0c ?_;refine hR _ ?_;clear hR R)|((first|refine Q0d ?_|refine Q0f ?_);intro J hJ hJ')|(refine Q0a ?_;intro R hR)|(refine hJ _ ?_;clear hJ hJ' J)|refine Q0g ?_)|((with_reducible refine hJ' _ _ ?_ ?_);(focus(simp;done));clear hJ hJ' J)|((with_reducible apply Q0e);rfl;rfl;all_goals(intro hc;first|(cases hc;done)|(try simp only at hc)))|((with_reducible refine Q0v ?_ ?_);kernel_rfl;(with_reducible refine hR _ ?_);clear hR R)|(((with_reducible apply Q0t);rfl;rfl;(simp(disch:=omega) only[rdE,rdOf,go_sem,W,Nat.mul_one];rfl);(intro τ hA hQ hN;((try simp only[Q1e,Op.operands,Call.operands,go_sem,W,Nat.mul_one,go_sem,List.mem_cons,List.not_mem_nil,forall_eq_or_imp,forall_eq,List.append_toArray,Option.toArray] at hA);(try simp only[go_sem,W,Nat.mul_one,List.mem_cons,List.not_mem_nil,forall_eq_or_imp,forall_eq] at hQ hN);(first|(revert hA;intro hA));(first|(revert hQ;intro hQ));(first|(revert hN;intro hN));simp(disch:=omega) only[go_sem,W,Nat.mul_one,go_sem,hA,hQ,hN];(repeat(refine ndI (by first|assumption|omega|rfl) ?_));(first|apply Q1a))));(simp(disch:=omega) only[St.eff,setO,Q0w,go_sem,W,Nat.mul_one]))|((with_reducible refine Q0r ?_ ?_ ?_ ?_);kernel_rfl;kernel_rfl;(first|kernel_rfl);intro R hR)))))
       all_goals exact hJ1 _ (St.le_of (by simp[leT]) (by simp[leH]))
     · have k4:((x:Int) != (y:Int))=true:=by simp;omega
       have hrf:r=false:=by
        rw[←hr,decide_eq_false]
        rintro rfl
        rw[hx] at hy
        exact hxy (Option.some.inj hy)
       (have W:=ndI k1 (ndI k2 (ndI k3 (ndI k4 (ndI k7 @wrI))));(repeat(any_goals(first|((with_reducible refine Q0b ?_ ?_);rfl;intro K hK;simp(disch:=omega) only[go_sem,W,Nat.mul_one];((repeat(refine ndI (by first|assumption|rfl) ?_));refine hK _ ?_;clear hK K))|(with_reducible first|(refine Q0c ?_;refine hR _ ?_;clear hR R)|((first|refine Q0d ?_|refine Q0f ?_);intro J hJ hJ')|(refine Q0a ?_;intro R hR)|(refine hJ _ ?_;clear hJ hJ' J)|refine Q0g ?_|refine Q0j ?_)|((with_reducible refine hJ' _ _ ?_ ?_);(focus(simp;done));clear hJ hJ' J)|((with_reducible apply Q0e);rfl;rfl;all_goals(intro hc;first|(cases hc;done)|(try simp only at hc)))|((with_reducible refine Q0v ?_ ?_);kernel_rfl;(with_reducible refine hR _ ?_);clear hR R)|(((with_reducible apply Q0t);rfl;rfl;(simp(disch:=omega) only[rdE,rdOf,go_sem,W,Nat.mul_one];rfl);(intro τ hA hQ hN;((try simp only[Q1e,Op.operands,Call.operands,go_sem,W,Nat.mul_one,go_sem,List.mem_cons,List.not_mem_nil,forall_eq_or_imp,forall_eq,List.append_toArray,Option.toArray] at hA);(try simp only[go_sem,W,Nat.mul_one,List.mem_cons,List.not_mem_nil,forall_eq_or_imp,forall_eq] at hQ hN);(first|(revert hA;intro hA));(first|(revert hQ;intro hQ));(first|(revert hN;intro hN));simp(disch:=omega) only[go_sem,W,Nat.mul_one,go_sem,hA,hQ,hN];(repeat(refine ndI (by first|assumption|omega|rfl) ?_));(first|apply Q1a))));(simp(disch:=omega) only[St.eff,setO,Q0w,go_sem,W,Nat.mul_one]))|((with_reducible refine Q0r ?_ ?_ ?_ ?_);kernel_rfl;kernel_rfl;(first|kernel_rfl);intro R hR)))))
       all_goals rw[hrf]
       all_goals(refine⟨by simp,⟨_,?_,AV.le_refl _⟩,Q0h (by simp[leH,hget])⟩;simp only[Tryz.results141,resL,ldA,Q0q,go_sem])
   · have k1:(decide ((i:Int)<(a.length:Int)))=false:=by simp;omega
     have hrt:r=true:=by
      rw[←hr,decide_eq_true]
      rw[List.take_of_length_le hge,List.take_of_length_le (by omega)] at htk
      exact htk
     (repeat(any_goals(first|((with_reducible refine Q0b ?_ ?_);rfl;intro K hK;simp only[go_sem,k1];((repeat(refine ndI (by first|assumption) ?_));refine hK _ ?_;clear hK K))|(with_reducible first|(refine Q0c ?_;refine hR _ ?_;clear hR R)|((first|refine Q0d ?_);intro J hJ hJ')|(refine Q0a ?_;intro R hR)|(refine hJ _ ?_;clear hJ hJ' J)|refine Q0j ?_|refine Q0o ?_)|((with_reducible refine hJ' _ _ ?_ ?_);(focus(simp;done));clear hJ hJ' J)|((with_reducible apply Q0e);rfl;rfl;all_goals(intro hc;first|(cases hc;done)|(try simp only at hc))))))
     all_goals rw[hrt]
     all_goals(refine⟨by simp,⟨_,?_,AV.le_refl _⟩,Q0h (by simp[leH,hget])⟩;simp only[Tryz.results141,resL,ldA,Q0q,go_sem])
 · have k0:((a.length:Int) != (b.length:Int))=true:=by simp;omega
   obtain rfl:r=false:=by
    rw[←hr,decide_eq_false]
    rintro rfl
    exact hab rfl
   (refine Q0z Tryz.func141 rfl (by rfl) ?_;simp only[Tryz.ntmps141,List.length_cons,List.length_nil,Nat.reduceAdd,Nat.reduceSub,List.replicate,List.cons_append,List.nil_append])
   (repeat(any_goals(first|((with_reducible refine Q0b ?_ ?_);rfl;intro K hK;simp only[go_sem,k0];((repeat(refine ndI (by first|assumption) ?_));refine hK _ ?_;clear hK K))|(with_reducible first|(refine Q0c ?_;refine hR _ ?_;clear hR R)|((first|refine Q0d ?_);intro J hJ hJ')|(refine Q0a ?_;intro R hR)|(refine hJ _ ?_;clear hJ hJ' J)|refine Q0j ?_)|((with_reducible refine hJ' _ _ ?_ ?_);(focus(simp;done));clear hJ hJ' J)|((with_reducible apply Q0e);rfl;rfl;all_goals(intro hc;first|(cases hc;done)|(try simp only at hc))))))
   all_goals(refine⟨by simp,⟨_,?_,AV.le_refl _⟩,Q0h (by simp[leH,hget])⟩;simp only[Tryz.results141,resL,ldA,Q0q,go_sem])
def idxB(x:Nat):List Nat→Nat→Int
 |[],_=>-1
 |y::l,i=>if x=y then(i:Int) else idxB x l (i+1)
theorem idxB_ge(x:Nat):∀(l:List Nat) (i:Nat),decide (idxB x l i≥0)=decide (x∈l)
 |[],i=>by simp[idxB]
 |y::l,i=>by
  unfold idxB
  by_cases h:x=y
  · subst h;simp
  · rw[if_neg h,idxB_ge x l (i+1)]
    simp[h]
theorem index_fn(ex:Bool)(l:List Nat)(x:Nat)(hl:l.length≤1000000):Fn Tryz.prog 144 [bsl ex l,vi .u8 (x:Int)] [] (vi .i64 (idxB x l 0)) []:=by
 obtain⟨r,hr⟩:∃r,idxB x l 0=r:=⟨_,rfl⟩
 rw[hr]
 (refine Q0z Tryz.func144 rfl (by rfl) ?_;simp only[Tryz.ntmps144,List.length_cons,List.length_nil,Nat.reduceAdd,Nat.reduceSub,List.replicate,List.cons_append,List.nil_append])
 (repeat(any_goals(first|((with_reducible refine Q0b ?_ ?_);rfl;intro K hK;simp only[go_sem];((repeat(refine ndI (by first|assumption) ?_));refine hK _ ?_;clear hK K))|(with_reducible first|(refine Q0c ?_;refine hR _ ?_;clear hR R)|((first|refine Q0d ?_|refine Q0f ?_);intro J hJ hJ')|(refine Q0a ?_;intro R hR)|(refine hJ _ ?_;clear hJ hJ' J)))))
 refine Q1t (α:={i:Nat // i≤l.length∧idxB x (l.drop i) i=r}) (fun p=>⟨[bsl ex l,vi .u8 (x:Int),.any,.any,.any,.any,.any,vi .i64 l.length,vi .i64 (p.1:Int),.any,.any,.any,.any,.any,.any,.any,.any,.any,.any],[]⟩) (fun p=>l.length-p.1) ⟨0,Nat.zero_le _,hr⟩ (St.le_of (by simp[leT]) (by simp[leH])) ?_
 rintro ⟨i,hi,hd⟩ J hJ hJ'
 (try dsimp only at hJ ⊢)
 rcases Nat.lt_or_ge i l.length with hlt|hge
 · obtain⟨y,hy⟩:∃y,l[i]? = some y:=⟨_,List.getElem?_eq_getElem hlt⟩
   have k1:(decide ((i:Int)<(l.length:Int)))=true:=by simp;omega
   have k2:=X4k hy
   have k7:(i:Int)+1=((i+1:Nat):Int):=by omega
   have hdr:l.drop i=y::l.drop (i+1):=by
    rw[List.drop_eq_getElem_cons hlt]
    rw[List.getElem?_eq_getElem hlt] at hy
    rw[Option.some.inj hy]
   rw[hdr] at hd
   unfold idxB at hd
   by_cases hxy:x=y
   · have k4:((x:Int)==(y:Int))=true:=by simp[hxy]
     rw[if_pos hxy] at hd
     (have W:=ndI k1 (ndI k2 (ndI k4 (ndI k7 @wrI)));(repeat(any_goals(first|((with_reducible refine Q0b ?_ ?_);rfl;intro K hK;simp(disch:=omega) only[go_sem,W,Nat.mul_one];((repeat(refine ndI (by first|assumption|omega|rfl) ?_));refine hK _ ?_;clear hK K))|(with_reducible first|(refine Q0c ?_;refine hR _ ?_;clear hR R)|((first|refine Q0d ?_|refine Q0f ?_);intro J hJ hJ')|(refine Q0a ?_;intro R hR)|(refine hJ _ ?_;clear hJ hJ' J)|refine Q0g ?_|refine Q0j ?_)|((with_reducible refine hJ' _ _ ?_ ?_);(focus(simp;done));clear hJ hJ' J)|((with_reducible apply Q0e);rfl;rfl;all_goals(intro hc;first|(cases hc;done)|(try simp only at hc)))))))
     all_goals rw[←hd]
     all_goals(refine⟨by simp,⟨_,?_,AV.le_refl _⟩,Q0h (by simp[leH,hget])⟩;simp only[Tryz.results144,resL,ldA,Q0q,go_sem])
   · have k4:((x:Int)==(y:Int))=false:=by simp;omega
     rw[if_neg hxy] at hd
     have hJ1:=fun σ'=>hJ σ' ⟨i+1,hlt,hd⟩ (by dsimp only;omega)
     dsimp only at hJ1
     (have W:=ndI k1 (ndI k2 (ndI k4 (ndI k7 @wrI)));(repeat(any_goals(first|((with_reducible refine Q0b ?_ ?_);rfl;intro K hK;simp(disch:=omega) only[go_sem,W,Nat.mul_one];((repeat(refine ndI (by first|assumption|omega|rfl) ?_));refine hK _ ?_;clear hK K))|(with_reducible first|(refine Q0c ?_;refine hR _ ?_;clear hR R)|((first|refine Q0d ?_|refine Q0f ?_);intro J hJ hJ')|(refine Q0a ?_;intro R hR)|(refine hJ _ ?_;clear hJ hJ' J)|refine Q0g ?_)|((with_reducible refine hJ' _ _ ?_ ?_);(focus(simp;done));clear hJ hJ' J)|((with_reducible apply Q0e);rfl;rfl;all_goals(intro hc;first|(cases hc;done)|(try simp only at hc)))))))
     all_goals exact hJ1 _ (St.le_of (by simp[leT]) (by simp[leH]))
 · have k1:(decide ((i:Int)<(l.length:Int)))=false:=by simp;omega
   rw[List.drop_eq_nil_of_le hge] at hd
   have hd:r = -1:=hd.symm
   (repeat(any_goals(first|((with_reducible refine Q0b ?_ ?_);rfl;intro K hK;simp only[go_sem,k1];((repeat(refine ndI (by first|assumption) ?_));refine hK _ ?_;clear hK K))|(with_reducible first|(refine Q0c ?_;refine hR _ ?_;clear hR R)|((first|refine Q0d ?_);intro J hJ hJ')|(refine Q0a ?_;intro R hR)|(refine hJ _ ?_;clear hJ hJ' J)|refine Q0j ?_|refine Q0o ?_)|((with_reducible refine hJ' _ _ ?_ ?_);(focus(simp;done));clear hJ hJ' J)|((with_reducible apply Q0e);rfl;rfl;all_goals(intro hc;first|(cases hc;done)|(try simp only at hc))))))
   all_goals rw[hd]
   all_goals(refine⟨by simp,⟨_,?_,AV.le_refl _⟩,Q0h (by simp[leH,hget])⟩;simp only[Tryz.results144,resL,ldA,Q0q,go_sem])
theorem X8l(ex:Bool)(l:List Nat)(x:Nat)(hl:l.length≤1000000):Fn Tryz.prog 101 [bsl ex l,vi .u8 (x:Int)] [] (vb (decide (x∈l))) []:=by
 have h:=index_fn ex l x hl
 have e:=idxB_ge x l 0
 generalize idxB x l 0=r at h e
 rw[←e]
 (refine Q0z Tryz.func101 rfl (by rfl) ?_;simp only[Tryz.ntmps101,List.length_cons,List.length_nil,Nat.reduceAdd,Nat.reduceSub,List.replicate,List.cons_append,List.nil_append])
 (repeat(any_goals(first|((with_reducible refine Q0n ?_ ?_ ?_);rfl;rfl;intro K hK;((apply Q0k (h);rfl;rfl;rfl;rfl;exact Tryz.func144);kernel_rfl;rfl;(focus((simp only[go_sem]);(try rfl);done));(first|rfl));(simp only[go_sem];refine hK _ ?_;clear hK K))|((with_reducible refine Q0b ?_ ?_);rfl;intro K hK;simp only[go_sem];((repeat(refine ndI (by first|assumption) ?_));refine hK _ ?_;clear hK K))|(with_reducible first|(refine Q0c ?_;refine hR _ ?_;clear hR R)|((first|refine Q0d ?_);intro J hJ hJ')|(refine Q0a ?_;intro R hR)|(refine hJ _ ?_;clear hJ hJ' J)|refine Q0j ?_))))
 all_goals(refine⟨by simp,⟨_,?_,AV.le_refl _⟩,Q0h (by simp[leH,hget])⟩;simp only[Tryz.results101,resL,ldA,Q0q,go_sem])
def Q6q(x:Nat):Bool:=decide (x∈[241,244,250,245])
theorem calls_fn(x:Nat):Fn Tryz.prog 160 [vi .u8 (x:Int)] [] (vb (Q6q x)) []:=by
 have h:Fn Tryz.prog 101 [.c (.sl true 1 4 [.v (.int .u8 241),.v (.int .u8 244),.v (.int .u8 250),.v (.int .u8 245)]),vi .u8 (x:Int)] [] (vb (Q6q x)) []:=X8l true [241,244,250,245] x (by decide)
 generalize Q6q x=b at h ⊢
 (refine Q0z Tryz.func160 rfl (by rfl) ?_;simp only[Tryz.ntmps160,List.length_cons,List.length_nil,Nat.reduceAdd,Nat.reduceSub,List.replicate,List.cons_append,List.nil_append])
 (repeat(any_goals(first|((with_reducible refine Q3p ?_ ?_);rfl;intro K hK;apply Q2l;rfl;rfl;(focus(simp only[go_sem];try rfl));(focus(simp only[go_sem];try rfl));rfl;(first|omega);(first|omega);(first|omega);(simp only[go_sem];rfl);rfl;(focus((simp only[unC,Option.map_some]);(try rfl)));(simp only[go_sem];refine hK _ ?_;clear hK K))|((with_reducible refine Q0n ?_ ?_ ?_);rfl;rfl;intro K hK;((apply Q0k (h);rfl;rfl;rfl;rfl;exact Tryz.func101);kernel_rfl;rfl;(focus((simp only[go_sem]);(try rfl);done));(first|rfl));(simp only[go_sem];refine hK _ ?_;clear hK K))|((with_reducible refine Q0b ?_ ?_);rfl;intro K hK;simp only[go_sem];((repeat(refine ndI (by first|assumption) ?_));refine hK _ ?_;clear hK K))|(with_reducible first|(refine Q0c ?_;refine hR _ ?_;clear hR R)|((first|refine Q0d ?_);intro J hJ hJ')|(refine Q0a ?_;intro R hR)|(refine hJ _ ?_;clear hJ hJ' J)|refine Q0j ?_))))
 all_goals(refine⟨by simp,⟨_,?_,AV.le_refl _⟩,Q0h (by simp[leH,hget])⟩;simp only[Tryz.results160,resL,ldA,Q0q,go_sem])
def Q8e(x:Nat):Bool:=x==50||x==49||x==66||x==67||x==71||x==72||x==254
theorem told_fn(x:Nat):Fn Tryz.prog 161 [vi .u8 (x:Int)] [] (vb (Q8e x)) []:=by
 obtain⟨b1,h1⟩:∃b,((x:Int)==50)=b:=⟨_,rfl⟩
 obtain⟨b2,h2⟩:∃b,((x:Int)==49)=b:=⟨_,rfl⟩
 obtain⟨b3,h3⟩:∃b,((x:Int)==66)=b:=⟨_,rfl⟩
 obtain⟨b4,h4⟩:∃b,((x:Int)==67)=b:=⟨_,rfl⟩
 obtain⟨b5,h5⟩:∃b,((x:Int)==71)=b:=⟨_,rfl⟩
 obtain⟨b6,h6⟩:∃b,((x:Int)==72)=b:=⟨_,rfl⟩
 obtain⟨b7,h7⟩:∃b,((x:Int)==254)=b:=⟨_,rfl⟩
 have e:Q8e x=(b1||b2||b3||b4||b5||b6||b7):=by
  have key:∀n:Nat,((x:Int)==(n:Int))=(x==n):=fun n=>by
   rw[Bool.eq_iff_iff];simp;omega
  rw[←h1,←h2,←h3,←h4,←h5,←h6,←h7]
  unfold Q8e
  rw[show((50:Int))=((50:Nat):Int) from rfl,show((49:Int))=((49:Nat):Int) from rfl,show((66:Int))=((66:Nat):Int) from rfl,show((67:Int))=((67:Nat):Int) from rfl,show((71:Int))=((71:Nat):Int) from rfl,show((72:Int))=((72:Nat):Int) from rfl,show((254:Int))=((254:Nat):Int) from rfl]
  rw[key,key,key,key,key,key,key]
 rw[e]
 clear e
 (refine Q0z Tryz.func161 rfl (by rfl) ?_;simp only[Tryz.ntmps161,List.length_cons,List.length_nil,Nat.reduceAdd,Nat.reduceSub,List.replicate,List.cons_append,List.nil_append])
 (have W:=ndI h1 (ndI h2 (ndI h3 (ndI h4 (ndI h5 (ndI h6 h7)))));(repeat(any_goals(first|((with_reducible refine Q0b ?_ ?_);rfl;intro K hK;simp only[go_sem,W];((repeat(refine ndI (by first|assumption) ?_));refine hK _ ?_;clear hK K))|(with_reducible first|(refine Q0c ?_;refine hR _ ?_;clear hR R)|((first|refine Q0d ?_|refine Q0f ?_);intro J hJ hJ')|(refine Q0a ?_;intro R hR)|(refine hJ _ ?_;clear hJ hJ' J)|refine Q0g ?_|refine Q0j ?_)|((with_reducible refine hJ' _ _ ?_ ?_);(focus(simp;done));clear hJ hJ' J)|((with_reducible apply Q0e);rfl;rfl;all_goals(intro hc;first|(try simp only at hc)))))))
 all_goals(subst_vars;(refine⟨by simp,⟨_,?_,AV.le_refl _⟩,Q0h (by simp[leH,hget])⟩;simp only[Tryz.results161,resL,ldA,Q0q,go_sem]))
 all_goals simp_all
end
section
open Go.RowKit
open Nat (reduceBEq)
attribute [-go_sem] IntKind.bits
set_option maxRecDepth 20000
set_option maxHeartbeats 2000000
structure Ev where
 kind:Int
 dep:Int
 self:Int
 to:Int
 op:Nat
 key:Nat
 val:Nat
 data:List Nat
deriving DecidableEq
abbrev c14(k d s t o a0 a1 a2 a3 v0 v1 v2 v3:Int)(x:AV):List AV:=[vi .i64 k,vi .i64 d,vi .u64 s,vi .u64 t,vi .u8 o,vi .u64 a0,vi .u64 a1,vi .u64 a2,vi .u64 a3,vi .u64 v0,vi .u64 v1,vi .u64 v2,vi .u64 v3,x]
abbrev evA(e:Ev):AV:=.agg (c14 e.kind e.dep e.self e.to (e.op:Int) (l0 e.key) (l1 e.key) (l2 e.key) (l3 e.key) (l0 e.val) (l1 e.val) (l2 e.val) (l3 e.val) (bsl false e.data))
abbrev nilA:AV:=.c (.v (.slice none 0 0))
theorem same_fnE(k d s t o a0 a1 a2 a3 v0 v1 v2 v3 k' d' s' t' o' a0' a1' a2' a3' v0' v1' v2' v3':Int)(ex:Bool)(x y:List Nat)(b1 b2 b3 b4 b5 b6 b7 b8:Bool)(h1:(k==k')=b1)(h2:(d==d')=b2)(h3:(s==s')=b3)(h4:(t==t')=b4)(h5:(o==o')=b5)
 (h6:(a0==a0'&&(a1==a1'&&(a2==a2'&&a3==a3')))=b6) (h7:(v0==v0'&&(v1==v1'&&(v2==v2'&&v3==v3')))=b7) (be:Fn Tryz.prog 141 [bsl ex x,bsl ex y] [] (vb b8) []) :
 Fn Tryz.prog 91 [.agg (c14 k d s t o a0 a1 a2 a3 v0 v1 v2 v3 (bsl ex x)),.agg (c14 k' d' s' t' o' a0' a1' a2' a3' v0' v1' v2' v3' (bsl ex y))] [] (vb (b1&&b2&&b3&&b4&&b5&&b6&&b7&&b8)) []:=by
 (refine Q0z Tryz.func91 rfl (by rfl) ?_;simp only[Tryz.ntmps91,List.length_cons,List.length_nil,Nat.reduceAdd,Nat.reduceSub,List.replicate,List.cons_append,List.nil_append])
 (have W:=ndI h1 (ndI h2 (ndI h3 (ndI h4 (ndI h5 (ndI h6 h7)))));(repeat(any_goals(first|((with_reducible refine Q0b ?_ ?_);rfl;intro K hK;simp only[go_sem,W];((repeat(refine ndI (by first|assumption) ?_));refine hK _ ?_;clear hK K))|(with_reducible first|(refine Q0c ?_;refine hR _ ?_;clear hR R)|((first|refine Q0d ?_);intro J hJ hJ')|(refine Q0a ?_;intro R hR)|(refine hJ _ ?_;clear hJ hJ' J)|refine Q0j ?_)|((with_reducible apply Q0y);rfl;rfl;rfl;all_goals(intro hb;first|(cases hb;done)|((try simp only[Bool.not_true,Bool.not_false] at hb);(first|((with_reducible intro K hK);(first|((apply Q0k (be);rfl;rfl;rfl;rfl;exact Tryz.func141);kernel_rfl;rfl;(focus((simp only[go_sem,W]);(try rfl);done));(first|rfl))|skip);simp only[go_sem,W];((repeat(refine ndI (by first|assumption) ?_));refine hK _ ?_;clear hK K))|((fail_if_success (with_reducible intro _));simp only[go_sem,W])))))))))
 all_goals(subst_vars;(refine⟨by simp,⟨_,?_,AV.le_refl _⟩,Q0h (by simp[leH,hget])⟩;simp only[Tryz.results91,resL,ldA,Q0q,go_sem]))
 all_goals simp_all
section
variable (k d s t o a0 a1 a2 a3 v0 v1 v2 v3:Int)
theorem hash_yes(x:List Nat)(g0 g1 g2 g3:Int)(b:Bool)(hx:x.length=64)(dg:Fn Tryz.prog 159 [bsl false x] [] (w4 g0 g1 g2 g3) [])(hb:(v0==g0&&(v1==g1&&(v2==g2&&v3==g3)))=b) :
 Fn Tryz.prog 135 [.ptr 1000 0] [(1000,c14 k d s t o a0 a1 a2 a3 v0 v1 v2 v3 (bsl false x))] (vb b) [(1000,c14 k d s t o a0 a1 a2 a3 0 0 0 0 nilA)]:=by
 have e1:((x.length:Int)==64)=true:=by rw[hx];rfl
 (refine Q0z Tryz.func135 rfl (by rfl) ?_;simp only[Tryz.ntmps135,List.length_cons,List.length_nil,Nat.reduceAdd,Nat.reduceSub,List.replicate,List.cons_append,List.nil_append])
 (repeat(any_goals(first|((with_reducible refine Q0b ?_ ?_);rfl;intro K hK;simp only[go_sem,e1,hb];((repeat(refine ndI (by first|assumption) ?_));refine hK _ ?_;clear hK K))|(with_reducible first|(refine Q0c ?_;refine hR _ ?_;clear hR R)|((first|refine Q0d ?_);intro J hJ hJ')|(refine Q0a ?_;intro R hR)|(refine hJ _ ?_;clear hJ hJ' J)|refine Q0j ?_)|((with_reducible refine Q0v ?_ ?_);kernel_rfl;(with_reducible refine hR _ ?_);clear hR R)|((first|((first|((with_reducible apply Q2y);rfl;rfl;rfl;rfl;rfl));((apply Q0u (dg);rfl;rfl;rfl;rfl;exact Tryz.func159);kernel_rfl;rfl;(focus((simp only[go_sem,e1,hb]);(try rfl);done));(first|rfl)))|((first|((with_reducible apply Q0t);rfl;rfl)|((with_reducible apply Q2v);rfl;rfl;rfl;rfl;rfl));(simp only[rdE,rdOf,go_sem,e1,hb];rfl);(intro τ hA hQ hN;((try simp only[Q1e,Op.operands,Call.operands,go_sem,e1,hb,go_sem,List.mem_cons,List.not_mem_nil,forall_eq_or_imp,forall_eq,List.append_toArray,Option.toArray] at hA);(try simp only[go_sem,e1,hb,List.mem_cons,List.not_mem_nil,forall_eq_or_imp,forall_eq] at hQ hN);(first|(revert hA;intro hA));(first|(revert hQ;intro hQ));(first|(revert hN;intro hN));simp only[go_sem,e1,hb,go_sem,hA,hQ,hN];(repeat(refine ndI (by first|assumption) ?_));(first|apply Q1a)))));(simp only[St.eff,setO,Q0w,go_sem,e1,hb]))|((with_reducible refine Q0r ?_ ?_ ?_ ?_);kernel_rfl;kernel_rfl;(first|kernel_rfl);intro R hR))))
 all_goals(refine⟨by simp,⟨_,?_,AV.le_refl _⟩,Q0h (by simp[leH,hget])⟩;simp only[Tryz.results135,resL,ldA,Q0q,go_sem])
theorem hash_no(x:List Nat)(hx:x.length≠64) :
 Fn Tryz.prog 135 [.ptr 1000 0] [(1000,c14 k d s t o a0 a1 a2 a3 v0 v1 v2 v3 (bsl false x))] (vb false) [(1000,c14 k d s t o a0 a1 a2 a3 0 0 0 0 nilA)]:=by
 have e1:((x.length:Int)==64)=false:=by simp;omega
 (refine Q0z Tryz.func135 rfl (by rfl) ?_;simp only[Tryz.ntmps135,List.length_cons,List.length_nil,Nat.reduceAdd,Nat.reduceSub,List.replicate,List.cons_append,List.nil_append])
 (repeat(any_goals(first|((with_reducible refine Q0b ?_ ?_);rfl;intro K hK;simp only[go_sem,e1];((repeat(refine ndI (by first|assumption) ?_));refine hK _ ?_;clear hK K))|(with_reducible first|(refine Q0c ?_;refine hR _ ?_;clear hR R)|((first|refine Q0d ?_);intro J hJ hJ')|(refine Q0a ?_;intro R hR)|(refine hJ _ ?_;clear hJ hJ' J)|refine Q0j ?_)|((with_reducible refine Q0v ?_ ?_);kernel_rfl;(with_reducible refine hR _ ?_);clear hR R)|((first|((with_reducible apply Q3e);rfl;rfl;rfl;rfl)|((first|((with_reducible apply Q0t);rfl;rfl));(simp only[rdE,rdOf,go_sem,e1];rfl);(intro τ hA hQ hN;((try simp only[Q1e,Op.operands,Call.operands,go_sem,e1,go_sem,List.mem_cons,List.not_mem_nil,forall_eq_or_imp,forall_eq,List.append_toArray,Option.toArray] at hA);(try simp only[go_sem,e1,List.mem_cons,List.not_mem_nil,forall_eq_or_imp,forall_eq] at hQ hN);(first|(revert hA;intro hA));(first|(revert hQ;intro hQ));(first|(revert hN;intro hN));simp only[go_sem,e1,go_sem,hA,hQ,hN];(repeat(refine ndI (by first|assumption) ?_));(first|apply Q1a)))));(simp only[St.eff,setO,Q0w,go_sem,e1]))|((with_reducible refine Q0r ?_ ?_ ?_ ?_);kernel_rfl;kernel_rfl;(first|kernel_rfl);intro R hR))))
 all_goals(refine⟨by simp,⟨_,?_,AV.le_refl _⟩,Q0h (by simp[leH,hget])⟩;simp only[Tryz.results135,resL,ldA,Q0q,go_sem])
theorem slot_fn(x:AV)(hx:AV.inN [] x=true):Fn Tryz.prog 136 [.ptr 1000 0] [(1000,c14 k d s t o a0 a1 a2 a3 v0 v1 v2 v3 x)] (vb true) [(1000,c14 k d s t o 0 0 0 0 v0 v1 v2 v3 x)]:=by
 (refine Q0z Tryz.func136 rfl (by rfl) ?_;simp only[Tryz.ntmps136,List.length_cons,List.length_nil,Nat.reduceAdd,Nat.reduceSub,List.replicate,List.cons_append,List.nil_append])
 (repeat(any_goals(first|((with_reducible refine Q0b ?_ ?_);rfl;intro K hK;simp only[go_sem];((repeat(refine ndI (by first|assumption) ?_));refine hK _ ?_;clear hK K))|(with_reducible first|(refine Q0c ?_;refine hR _ ?_;clear hR R)|((first|refine Q0d ?_);intro J hJ hJ')|(refine Q0a ?_;intro R hR)|(refine hJ _ ?_;clear hJ hJ' J)|refine Q0j ?_))))
 all_goals(refine⟨by simp,⟨_,?_,AV.le_refl _⟩,Q0h (by simp[leH,hget])⟩;simp only[Tryz.results136,resL,ldA,Q0q,go_sem])
theorem acall_fn(o:Nat)(x:List Nat)(b1 b2:Bool)(h1:Q6q o=b1)(h2:decide ((x.length:Int)≤1)=b2) :
 Fn Tryz.prog 137 [.ptr 1000 0] [(1000,c14 k d s t (o:Int) a0 a1 a2 a3 v0 v1 v2 v3 (bsl false x))] (vb (b1&&b2)) [(1000,c14 k d s 0 0 a0 a1 a2 a3 0 0 0 0 nilA)]:=by
 have c:=calls_fn o
 rw[h1] at c
 (refine Q0z Tryz.func137 rfl (by rfl) ?_;simp only[Tryz.ntmps137,List.length_cons,List.length_nil,Nat.reduceAdd,Nat.reduceSub,List.replicate,List.cons_append,List.nil_append])
 (repeat(any_goals(first|((with_reducible refine Q0n ?_ ?_ ?_);rfl;rfl;intro K hK;((apply Q0k (c);rfl;rfl;rfl;rfl;exact Tryz.func160);kernel_rfl;rfl;(focus((simp only[go_sem,h2]);(try rfl);done));(first|rfl));(simp only[go_sem,h2];refine hK _ ?_;clear hK K))|((with_reducible refine Q0b ?_ ?_);rfl;intro K hK;simp only[go_sem,h2];((repeat(refine ndI (by first|assumption) ?_));refine hK _ ?_;clear hK K))|(with_reducible first|(refine Q0c ?_;refine hR _ ?_;clear hR R)|((first|refine Q0d ?_);intro J hJ hJ')|(refine Q0a ?_;intro R hR)|(refine hJ _ ?_;clear hJ hJ' J)|refine Q0j ?_)|((with_reducible apply Q0y);rfl;rfl;rfl;all_goals(intro hb;first|(cases hb;done)|((try simp only[Bool.not_true,Bool.not_false] at hb);(first|((with_reducible intro K hK);simp only[go_sem,h2];((repeat(refine ndI (by first|assumption) ?_));refine hK _ ?_;clear hK K))|((fail_if_success (with_reducible intro _));simp only[go_sem,h2]))))))))
 all_goals(subst_vars;(refine⟨by simp,⟨_,?_,AV.le_refl _⟩,Q0h (by simp[leH,hget])⟩;simp only[Tryz.results137,resL,ldA,Q0q,go_sem]))
 all_goals simp_all
theorem aop_fn(o:Nat)(x:AV):Fn Tryz.prog 138 [.ptr 1000 0] [(1000,c14 k d s t (o:Int) a0 a1 a2 a3 v0 v1 v2 v3 x)] (vb (Q8e o)) [(1000,c14 k d s t 0 a0 a1 a2 a3 v0 v1 v2 v3 x)]:=by
 have c:=told_fn o
 generalize Q8e o=b at c ⊢
 (refine Q0z Tryz.func138 rfl (by rfl) ?_;simp only[Tryz.ntmps138,List.length_cons,List.length_nil,Nat.reduceAdd,Nat.reduceSub,List.replicate,List.cons_append,List.nil_append])
 (repeat(any_goals(first|((with_reducible refine Q0n ?_ ?_ ?_);rfl;rfl;intro K hK;((apply Q0k (c);rfl;rfl;rfl;rfl;exact Tryz.func161);kernel_rfl;rfl;(focus((simp only[go_sem]);(try rfl);done));(first|rfl));(simp only[go_sem];refine hK _ ?_;clear hK K))|((with_reducible refine Q0b ?_ ?_);rfl;intro K hK;simp only[go_sem];((repeat(refine ndI (by first|assumption) ?_));refine hK _ ?_;clear hK K))|(with_reducible first|(refine Q0c ?_;refine hR _ ?_;clear hR R)|((first|refine Q0d ?_);intro J hJ hJ')|(refine Q0a ?_;intro R hR)|(refine hJ _ ?_;clear hJ hJ' J)|refine Q0j ?_))))
 all_goals(refine⟨by simp,⟨_,?_,AV.le_refl _⟩,Q0h (by simp[leH,hget])⟩;simp only[Tryz.results138,resL,ldA,Q0q,go_sem])
theorem gas_fn(x:AV):Fn Tryz.prog 139 [.ptr 1000 0] [(1000,c14 k d s t o a0 a1 a2 a3 v0 v1 v2 v3 x)] (vb true) [(1000,c14 k d s t 0 a0 a1 a2 a3 v0 v1 v2 v3 x)]:=by
 (refine Q0z Tryz.func139 rfl (by rfl) ?_;simp only[Tryz.ntmps139,List.length_cons,List.length_nil,Nat.reduceAdd,Nat.reduceSub,List.replicate,List.cons_append,List.nil_append])
 (repeat(any_goals(first|((with_reducible refine Q0b ?_ ?_);rfl;intro K hK;simp only[go_sem];((repeat(refine ndI (by first|assumption) ?_));refine hK _ ?_;clear hK K))|(with_reducible first|(refine Q0c ?_;refine hR _ ?_;clear hR R)|((first|refine Q0d ?_);intro J hJ hJ')|(refine Q0a ?_;intro R hR)|(refine hJ _ ?_;clear hJ hJ' J)|refine Q0j ?_))))
 all_goals(refine⟨by simp,⟨_,?_,AV.le_refl _⟩,Q0h (by simp[leH,hget])⟩;simp only[Tryz.results139,resL,ldA,Q0q,go_sem])
end
end
section
open Go.RowKit
open Nat (reduceBEq)
attribute [-go_sem] IntKind.bits
set_option maxRecDepth 20000
set_option maxHeartbeats 2000000
def fsL:List FuncId:=[135,136,136,137,138,139]
abbrev fsA:List AV:=[.fnb 135 [.ptr 22 0],.fnb 136 [.ptr 22 0],.fnb 136 [.ptr 22 0],.fnb 137 [.ptr 22 0],.fnb 138 [.ptr 22 0],.fnb 139 [.ptr 22 0]]
theorem fsA_at{j:Nat}{f:FuncId}(h:fsL[j]? = some f):fsA[j]? = some (.fnb f [.ptr 22 0]):=by
 have e:fsA=fsL.map fun f=>AV.fnb f [.ptr 22 0]:=rfl
 rw[e,List.getElem?_map,h];rfl
theorem right_out(k d s t o a0 a1 a2 a3 v0 v1 v2 v3:Int)(x:AV)(b1 b2 b3:Bool)(h1:decide (d<0)=b1)(h2:decide (d≥6)=b2)(h3:(s==0)=b3)(h:(b1||b2||b3)=true)(hxr:∀r,AV.refs r x=false) :
 Fn Tryz.prog 85 [.agg (c14 k d s t o a0 a1 a2 a3 v0 v1 v2 v3 x)] [] (vb false) []:=by
 (refine Q0z Tryz.func85 rfl (by rfl) ?_;simp only[Tryz.ntmps85,List.length_cons,List.length_nil,Nat.reduceAdd,Nat.reduceSub,List.replicate,List.cons_append,List.nil_append])
 cases b1<;>cases b2<;>cases b3
 all_goals(try(cases h;done))
 all_goals clear h
 all_goals(have W:=ndI h1 (ndI h2 h3);(repeat(any_goals(first|((with_reducible refine Q0b ?_ ?_);rfl;intro K hK;simp only[go_sem,W,hxr];((repeat(refine ndI (by first|assumption) ?_));refine hK _ ?_;clear hK K))|(with_reducible first|(refine Q0c ?_;refine hR _ ?_;clear hR R)|((first|refine Q0d ?_);intro J hJ hJ')|(refine Q0a ?_;intro R hR)|(refine hJ _ ?_;clear hJ hJ' J)|refine Q0j ?_)|((with_reducible refine hJ' _ _ ?_ ?_);(focus(simp;done));clear hJ hJ' J)|((with_reducible apply Q0y);rfl;rfl;rfl;all_goals(intro hb;first|(cases hb;done)|((try simp only[Bool.not_true,Bool.not_false] at hb);(first|((with_reducible intro K hK);simp only[go_sem,W,hxr];((repeat(refine ndI (by first|assumption) ?_));refine hK _ ?_;clear hK K))|((fail_if_success (with_reducible intro _));simp only[go_sem,W,hxr])))))|((with_reducible apply Q0e);rfl;rfl;all_goals(intro hc;first|(cases hc;done)|(try simp only at hc)))))))
 all_goals(refine⟨by simp,⟨_,?_,AV.le_refl _⟩,Q0h (by simp[leH,hget])⟩;simp only[Tryz.results85,resL,ldA,Q0q,go_sem])
theorem Q3m(k d s t o a0 a1 a2 a3 v0 v1 v2 v3:Int)(x:AV)(C':List AV)(b c:Bool)(h1:decide (d<0)=false)(h2:decide (d≥6)=false)(h3:(s==0)=false){j:Nat}{f:FuncId}{fn:Func}(hj:Q5o k [1,2,3,4,5,6] 0=some j)(hy:fsL[j]? = some f)
 (hfn:Tryz.prog.funcs[f]? = some fn) (hname:(fn.name == "runtime.NumGoroutine")=false) (hbody:fn.body.isNone=false) (hx:AV.inN [] x=true) (hxr:∀r,AV.refs r x=false) (hxm:AV.hasMp x=false) (hc':AV.inNL [] C'=true) (hl:C'.length=14) (hr':∀r,AV.refsL r C'=false)
 (hF:Fn Tryz.prog f [.ptr 1000 0] [(1000,c14 k d s t o a0 a1 a2 a3 v0 v1 v2 v3 x)] (vb b) [(1000,C')]) (sm:Fn Tryz.prog 91 [.agg C',.agg (c14 k d s 0 0 0 0 0 0 0 0 0 0 nilA)] [] (vb c) []) :
 Fn Tryz.prog 85 [.agg (c14 k d s t o a0 a1 a2 a3 v0 v1 v2 v3 x)] [] (vb (b&&c)) []:=by
 have fa:=fsA_at hy
 refine Fn.known fun E0=>?_
 (refine Q5e Tryz.func85 rfl (by rfl) ?_;simp only[Tryz.ntmps85,List.length_cons,List.length_nil,Nat.reduceAdd,Nat.reduceSub,List.replicate,List.cons_append,List.nil_append])
 refine AWE.seqI ?_
 intro J hJ hJ'
 refine AWE.of ?_
 (repeat(any_goals(first|((with_reducible refine Q0b ?_ ?_);rfl;intro K hK;simp only[go_sem,hxr];((repeat(refine ndI (by first|assumption) ?_));refine hK _ ?_;clear hK K))|(with_reducible first|(refine Q0c ?_;refine hR _ ?_;clear hR R)|(refine Q0a ?_;intro R hR)|(refine hJ _ ?_;clear hJ hJ' J)))))
 refine AWE.seqI ?_
 intro J hJ hJ'
 refine AWE.of ?_
 (have W:=ndI h1 (ndI h2 h3);(repeat(any_goals(first|((with_reducible refine Q0b ?_ ?_);rfl;intro K hK;simp only[go_sem,W];((repeat(refine ndI (by first|assumption) ?_));refine hK _ ?_;clear hK K))|(with_reducible first|(refine Q0c ?_;refine hR _ ?_;clear hR R)|((first|refine Q0d ?_);intro J hJ hJ')|(refine Q0a ?_;intro R hR)|(refine hJ _ ?_;clear hJ hJ' J)|refine Q0g ?_)|((with_reducible apply Q0y);rfl;rfl;rfl;all_goals(intro hb;first|(cases hb;done)|((try simp only[Bool.not_true,Bool.not_false] at hb);(first|((with_reducible intro K hK);simp only[go_sem,W];((repeat(refine ndI (by first|assumption) ?_));refine hK _ ?_;clear hK K))))))|((with_reducible apply Q0e);rfl;rfl;all_goals(intro hc;first|(cases hc;done)|(try simp only at hc)))))))
 refine AWE.seqI ?_
 intro J hJ hJ'
 refine AWE.of ?_
 (repeat(any_goals(first|((with_reducible refine Q0b ?_ ?_);rfl;intro K hK;simp only[go_sem,hxr];((repeat(refine ndI (by first|assumption) ?_));refine hK _ ?_;clear hK K))|(with_reducible first|(refine Q0c ?_;refine hR _ ?_;clear hR R)|(refine Q0a ?_;intro R hR)|(refine hJ _ ?_;clear hJ hJ' J)))))
 refine AWE.seqI ?_
 intro J hJ hJ'
 refine AWE.to (St.to.of_le (τ:=⟨[.any,.ptr 1 0,vb false,.ptr 22 0,.any,.any,.any,.any,.any,.any,.any,.any,.any,.any,.any,.any,.any,.any,.any,.any,.any,.any,.any,.any,.any,.any,.any,.any,.any,.any,.any,.any,.any,.any,.any,.any,.any,.any,.any,.any,.any,.any,.any,.any,.any,.any,.any,.any,.any,.any,.any,.any,.any,.any,.any,.any,.any,.any,.any,.any,.any,.any,.any],[(1,c14 k d s t o a0 a1 a2 a3 v0 v1 v2 v3 x),(22,c14 k d s t o a0 a1 a2 a3 v0 v1 v2 v3 x)]⟩) (St.le_of (by simp[leT]) (by simp[leH,hget]))) ?_
 dsimp only
 refine AWE.regionL ?_
 refine ALE.one rfl (Q8q rfl fun mb hmb=>?_)
 simp only[go_sem]
 have hH:Q7u [(1,c14 k d s t o a0 a1 a2 a3 v0 v1 v2 v3 x),(22,c14 k d s t o a0 a1 a2 a3 v0 v1 v2 v3 x)]=false:=by simp[Q7u,AV.hasMpA,AV.hasMp,PV.hasMp,hxm]
 refine ALE.oneA rfl ?_
 simp only[go_sem]
 (repeat(refine ndI rfl ?_))
 refine ALE.one rfl (OpA.toW (Q1p rfl rfl ?_))
 simp only[go_sem]
 refine ALE.one rfl (Q2f (kl:=[]) rfl rfl rfl rfl rfl Tryz.underlying167 Tryz.underlying3 rfl rfl rfl rfl hmb hH rfl ?_)
 simp only[AV.amU,AV.hasMp,AV.hasMpA,PV.hasMp,List.map_cons,List.map_nil,List.cons_append,List.nil_append,eq_self,if_true,Bool.false_eq_true,if_false,Bool.or_false]
 refine ALE.oneA rfl ?_
 simp only[go_sem]
 (repeat(refine ndI rfl ?_))
 refine ALE.one rfl (OpA.toW (Q1p rfl rfl ?_))
 simp only[go_sem]
 refine ALE.one rfl (Q2f (kl:=[1]) rfl rfl rfl rfl rfl Tryz.underlying167 Tryz.underlying3 rfl rfl rfl rfl hmb hH rfl ?_)
 simp only[AV.amU,AV.hasMp,AV.hasMpA,PV.hasMp,List.map_cons,List.map_nil,List.cons_append,List.nil_append,eq_self,if_true,Bool.false_eq_true,if_false,Bool.or_false]
 refine ALE.oneA rfl ?_
 simp only[go_sem]
 (repeat(refine ndI rfl ?_))
 refine ALE.one rfl (OpA.toW (Q1p rfl rfl ?_))
 simp only[go_sem]
 refine ALE.one rfl (Q2f (kl:=[1,2]) rfl rfl rfl rfl rfl Tryz.underlying167 Tryz.underlying3 rfl rfl rfl rfl hmb hH rfl ?_)
 simp only[AV.amU,AV.hasMp,AV.hasMpA,PV.hasMp,List.map_cons,List.map_nil,List.cons_append,List.nil_append,eq_self,if_true,Bool.false_eq_true,if_false,Bool.or_false]
 refine ALE.oneA rfl ?_
 simp only[go_sem]
 (repeat(refine ndI rfl ?_))
 refine ALE.one rfl (OpA.toW (Q1p rfl rfl ?_))
 simp only[go_sem]
 refine ALE.one rfl (Q2f (kl:=[1,2,3]) rfl rfl rfl rfl rfl Tryz.underlying167 Tryz.underlying3 rfl rfl rfl rfl hmb hH rfl ?_)
 simp only[AV.amU,AV.hasMp,AV.hasMpA,PV.hasMp,List.map_cons,List.map_nil,List.cons_append,List.nil_append,eq_self,if_true,Bool.false_eq_true,if_false,Bool.or_false]
 refine ALE.oneA rfl ?_
 simp only[go_sem]
 (repeat(refine ndI rfl ?_))
 refine ALE.one rfl (OpA.toW (Q1p rfl rfl ?_))
 simp only[go_sem]
 refine ALE.one rfl (Q2f (kl:=[1,2,3,4]) rfl rfl rfl rfl rfl Tryz.underlying167 Tryz.underlying3 rfl rfl rfl rfl hmb hH rfl ?_)
 simp only[AV.amU,AV.hasMp,AV.hasMpA,PV.hasMp,List.map_cons,List.map_nil,List.cons_append,List.nil_append,eq_self,if_true,Bool.false_eq_true,if_false,Bool.or_false]
 refine ALE.oneA rfl ?_
 simp only[go_sem]
 (repeat(refine ndI rfl ?_))
 refine ALE.one rfl (OpA.toW (Q1p rfl rfl ?_))
 simp only[go_sem]
 refine ALE.one rfl (Q2f (kl:=[1,2,3,4,5]) rfl rfl rfl rfl rfl Tryz.underlying167 Tryz.underlying3 rfl rfl rfl rfl hmb hH rfl ?_)
 simp only[AV.amU,AV.hasMp,AV.hasMpA,PV.hasMp,List.map_cons,List.map_nil,List.cons_append,List.nil_append,eq_self,if_true,Bool.false_eq_true,if_false,Bool.or_false]
 refine ALE.oneA rfl ?_
 simp only[go_sem]
 (repeat(refine ndI rfl ?_))
 refine ALE.oneA rfl ?_
 simp only[go_sem]
 (repeat(refine ndI rfl ?_))
 refine ALE.nil ?_
 refine hJ _ ?_
 clear hJ hJ' J
 refine AWE.seqI ?_
 intro J hJ hJ'
 refine AWE.of ?_
 (repeat(any_goals(first|((with_reducible refine Q0b ?_ ?_);rfl;intro K hK;simp only[go_sem,hxr];((repeat(refine ndI (by first|assumption) ?_));refine hK _ ?_;clear hK K))|(with_reducible first|(refine Q0a ?_;intro R hR)))))
 refine Q3p rfl fun K hK=>?_
 refine X7u (kl:=[1,2,3,4,5,6]) (k:=k) rfl rfl rfl Tryz.underlying167 Tryz.underlying3 rfl rfl hj fa ?_
 simp only[go_sem]
 refine hK _ ?_
 clear hK K
 (repeat(any_goals(first|((with_reducible refine Q0b ?_ ?_);rfl;intro K hK;simp only[go_sem];((repeat(refine ndI (by first|assumption) ?_));refine hK _ ?_;clear hK K))|(with_reducible first|(refine Q0c ?_;refine hR _ ?_;clear hR R)|(refine hJ _ ?_;clear hJ hJ' J)))))
 refine AWE.to (St.to.of_le (τ:=⟨[.any,.ptr 1 0,vb false,.ptr 22 0,.any,.fnb f [.ptr 22 0],vb true,.any,.any,.any,.any,.any,.any,.any,.any,.any,.any,.any,.any,.any,.any,.any,.any,.any,.any,.any,.any,.any,.any,.any,.any,.any,.any,.any,.any,.any,.any,.any,.any,.any,.any,.any,.any,.any,.any,.any,.any,.any,.any,.any,.any,.any,.any,.any,.any,.any,.any,.any,.any,.any,.any,.any,.any],[(1,c14 k d s t o a0 a1 a2 a3 v0 v1 v2 v3 x),(22,c14 k d s t o a0 a1 a2 a3 v0 v1 v2 v3 x)]⟩) (St.le_of (by simp[leT]) (by simp[leH,hget]))) ?_
 dsimp only
 refine AWE.seqI ?_
 intro J hJ hJ'
 refine AWE.of ?_
 (repeat(any_goals(fail)))
 ((with_reducible refine Q0r ?_ ?_ ?_ ?_))
 · kernel_rfl
 · kernel_rfl
 · simp[Q1m,Q4o,St.free,Q1w,AV.refsL,AV.refs,hxr]
 intro R hR
 (first|((first|((first|((with_reducible apply Q0t);rfl;rfl));(simp only[rdE,rdOf,go_sem];rfl);(intro τ hA hQ hN;((try simp only[Q1e,Op.operands,Call.operands,go_sem,List.mem_cons,List.not_mem_nil,forall_eq_or_imp,forall_eq,List.append_toArray,Option.toArray] at hA);(try simp only[go_sem,List.mem_cons,List.not_mem_nil,forall_eq_or_imp,forall_eq] at hQ hN);(first|(revert hA;intro hA));(first|(revert hQ;intro hQ));(first|(revert hN;intro hN));simp only[go_sem,hA,hQ,hN];(repeat(refine ndI (by first|assumption) ?_));(first|apply Q1a)))));(simp only[St.eff,setO,Q0w,go_sem])))
 (first|((first|((first|((with_reducible apply Q0t);rfl;rfl));(simp only[rdE,rdOf,go_sem];rfl);(intro τ hA hQ hN;((try simp only[Q1e,Op.operands,Call.operands,go_sem,List.mem_cons,List.not_mem_nil,forall_eq_or_imp,forall_eq,List.append_toArray,Option.toArray] at hA);(try simp only[go_sem,List.mem_cons,List.not_mem_nil,forall_eq_or_imp,forall_eq] at hQ hN);(first|(revert hA;intro hA));(first|(revert hQ;intro hQ));(first|(revert hN;intro hN));simp only[go_sem,hA,hQ,hN];(repeat(refine ndI (by first|assumption) ?_));(first|apply Q1a)))));(simp only[St.eff,setO,Q0w,go_sem])))
 (first|((first|((first|((with_reducible apply Q2v);rfl;rfl;rfl;rfl;rfl));(simp only[rdE,rdOf,go_sem];rfl);(intro τ hA hQ hN;((try simp only[Q1e,Op.operands,Call.operands,go_sem,List.mem_cons,List.not_mem_nil,forall_eq_or_imp,forall_eq,List.append_toArray,Option.toArray] at hA);(try simp only[go_sem,List.mem_cons,List.not_mem_nil,forall_eq_or_imp,forall_eq] at hQ hN);(first|(revert hA;intro hA));(first|(revert hQ;intro hQ));(first|(revert hN;intro hN));simp only[go_sem,hA,hQ,hN];(repeat(refine ndI (by first|assumption) ?_));(first|apply Q1a)))));(simp only[St.eff,setO,Q0w,go_sem])))
 have hgx:AV.inNL [] (c14 k d s t o a0 a1 a2 a3 v0 v1 v2 v3 x)=true:=by simp[AV.inNL,AV.inN,hx]
 ((with_reducible apply Q2y);rfl;rfl;rfl;rfl;rfl)
 · apply opF_callG hF
   · rfl
   · rfl
   · rfl
   · exact hfn
   · exact hname
   · exact hbody
   · rfl
   · exact hgx
   · exact hc'
   · rfl
 simp only[St.eff,setO,Q0w,go_sem]
 have tk:List.take 14 C'=C':=List.take_of_length_le (by omega)
 have sm2:=sm
 clear hF sm
 cases b
 · iterate 16 ((first|((first|((with_reducible apply Q3e);rfl;rfl;rfl;rfl)|((first|((with_reducible apply Q0t);rfl;rfl));(simp only[rdE,rdOf,go_sem,hl,tk,hr'];rfl);(intro τ hA hQ hN;((try simp only[Q1e,Op.operands,Call.operands,go_sem,hl,tk,hr',go_sem,List.mem_cons,List.not_mem_nil,forall_eq_or_imp,forall_eq,List.append_toArray,Option.toArray] at hA);(try simp only[go_sem,hl,tk,hr',List.mem_cons,List.not_mem_nil,forall_eq_or_imp,forall_eq] at hQ hN);(first|(revert hA;intro hA));(first|(revert hQ;intro hQ));(first|(revert hN;intro hN));simp only[go_sem,hl,tk,hr',go_sem,hA,hQ,hN];(repeat(refine ndI (by first|assumption) ?_));(first|apply Q1a)))));(simp only[St.eff,setO,Q0w,go_sem,hl,tk,hr']))))
   (with_reducible refine Q0v ?_ ?_)
   · apply Q2e
     · (repeat(first|exact Sims.nil|((apply Sims.cons);(focus(first|((apply Ef.sim_row);assumption)|exact Ef.sim_refl _)))))
     · kernel_rfl
   refine hR _ ?_
   refine hJ _ ?_
   refine AWE.of (Q0j ?_)
   (refine⟨by simp,⟨_,?_,AV.le_refl _⟩,Q0h (by simp[leH,hget])⟩;simp only[Tryz.results85,resL,ldA,Q0q,go_sem])
   rfl
 · iterate 13 ((first|((first|((first|((with_reducible apply Q0t);rfl;rfl)|((with_reducible apply Q2v);rfl;rfl;rfl;rfl;rfl));(simp only[rdE,rdOf,go_sem,hl,tk,hr'];rfl);(intro τ hA hQ hN;((try simp only[Q1e,Op.operands,Call.operands,go_sem,hl,tk,hr',go_sem,List.mem_cons,List.not_mem_nil,forall_eq_or_imp,forall_eq,List.append_toArray,Option.toArray] at hA);(try simp only[go_sem,hl,tk,hr',List.mem_cons,List.not_mem_nil,forall_eq_or_imp,forall_eq] at hQ hN);(first|(revert hA;intro hA));(first|(revert hQ;intro hQ));(first|(revert hN;intro hN));simp only[go_sem,hl,tk,hr',go_sem,hA,hQ,hN];(repeat(refine ndI (by first|assumption) ?_));(first|apply Q1a)))));(simp only[St.eff,setO,Q0w,go_sem,hl,tk,hr']))))
   ((with_reducible apply Q2y);rfl;rfl;rfl;rfl;rfl)
   · apply Q0u sm2
     · rfl
     · rfl
     · rfl
     · rfl
     · exact Tryz.func91
     · kernel_rfl
     · rfl
     · simp only[go_sem]
     · simp[AV.inNL,AV.inN,hc']
   simp only[St.eff,setO,Q0w,go_sem]
   iterate 2 ((first|((first|((first|((with_reducible apply Q0t);rfl;rfl));(simp only[rdE,rdOf,go_sem,hl,tk,hr'];rfl);(intro τ hA hQ hN;((try simp only[Q1e,Op.operands,Call.operands,go_sem,hl,tk,hr',go_sem,List.mem_cons,List.not_mem_nil,forall_eq_or_imp,forall_eq,List.append_toArray,Option.toArray] at hA);(try simp only[go_sem,hl,tk,hr',List.mem_cons,List.not_mem_nil,forall_eq_or_imp,forall_eq] at hQ hN);(first|(revert hA;intro hA));(first|(revert hQ;intro hQ));(first|(revert hN;intro hN));simp only[go_sem,hl,tk,hr',go_sem,hA,hQ,hN];(repeat(refine ndI (by first|assumption) ?_));(first|apply Q1a)))));(simp only[St.eff,setO,Q0w,go_sem,hl,tk,hr']))))
   (with_reducible refine Q0v ?_ ?_)
   · apply Q2e
     · (repeat(first|exact Sims.nil|((apply Sims.cons);(focus(first|((apply Ef.sim_row);assumption)|((apply Ef.sim_val);exact fun d=>hr' d)|exact Ef.sim_refl _)))))
     · kernel_rfl
   refine hR _ ?_
   refine hJ _ ?_
   refine AWE.of (Q0j ?_)
   (refine⟨by simp,⟨_,?_,AV.le_refl _⟩,Q0h (by simp[leH,hget])⟩;simp only[Tryz.results85,resL,ldA,Q0q,go_sem])
theorem Z1m(k d s t o a0 a1 a2 a3 v0 v1 v2 v3:Int)(x:AV)(h1:decide (d<0)=false)(h2:decide (d≥6)=false)(h3:(s==0)=false)(hj:Q5o k [1,2,3,4,5,6] 0=none)(hx:AV.inN [] x=true)(hxr:∀r,AV.refs r x=false)(hxm:AV.hasMp x=false) :
 Fn Tryz.prog 85 [.agg (c14 k d s t o a0 a1 a2 a3 v0 v1 v2 v3 x)] [] (vb false) []:=by
 refine Fn.known fun E0=>?_
 (refine Q5e Tryz.func85 rfl (by rfl) ?_;simp only[Tryz.ntmps85,List.length_cons,List.length_nil,Nat.reduceAdd,Nat.reduceSub,List.replicate,List.cons_append,List.nil_append])
 refine AWE.seqI ?_
 intro J hJ hJ'
 refine AWE.of ?_
 (repeat(any_goals(first|((with_reducible refine Q0b ?_ ?_);rfl;intro K hK;simp only[go_sem,hxr];((repeat(refine ndI (by first|assumption) ?_));refine hK _ ?_;clear hK K))|(with_reducible first|(refine Q0c ?_;refine hR _ ?_;clear hR R)|(refine Q0a ?_;intro R hR)|(refine hJ _ ?_;clear hJ hJ' J)))))
 refine AWE.seqI ?_
 intro J hJ hJ'
 refine AWE.of ?_
 (have W:=ndI h1 (ndI h2 h3);(repeat(any_goals(first|((with_reducible refine Q0b ?_ ?_);rfl;intro K hK;simp only[go_sem,W];((repeat(refine ndI (by first|assumption) ?_));refine hK _ ?_;clear hK K))|(with_reducible first|(refine Q0c ?_;refine hR _ ?_;clear hR R)|((first|refine Q0d ?_);intro J hJ hJ')|(refine Q0a ?_;intro R hR)|(refine hJ _ ?_;clear hJ hJ' J)|refine Q0g ?_)|((with_reducible apply Q0y);rfl;rfl;rfl;all_goals(intro hb;first|(cases hb;done)|((try simp only[Bool.not_true,Bool.not_false] at hb);(first|((with_reducible intro K hK);simp only[go_sem,W];((repeat(refine ndI (by first|assumption) ?_));refine hK _ ?_;clear hK K))))))|((with_reducible apply Q0e);rfl;rfl;all_goals(intro hc;first|(cases hc;done)|(try simp only at hc)))))))
 refine AWE.seqI ?_
 intro J hJ hJ'
 refine AWE.of ?_
 (repeat(any_goals(first|((with_reducible refine Q0b ?_ ?_);rfl;intro K hK;simp only[go_sem,hxr];((repeat(refine ndI (by first|assumption) ?_));refine hK _ ?_;clear hK K))|(with_reducible first|(refine Q0c ?_;refine hR _ ?_;clear hR R)|(refine Q0a ?_;intro R hR)|(refine hJ _ ?_;clear hJ hJ' J)))))
 refine AWE.seqI ?_
 intro J hJ hJ'
 refine AWE.to (St.to.of_le (τ:=⟨[.any,.ptr 1 0,vb false,.ptr 22 0,.any,.any,.any,.any,.any,.any,.any,.any,.any,.any,.any,.any,.any,.any,.any,.any,.any,.any,.any,.any,.any,.any,.any,.any,.any,.any,.any,.any,.any,.any,.any,.any,.any,.any,.any,.any,.any,.any,.any,.any,.any,.any,.any,.any,.any,.any,.any,.any,.any,.any,.any,.any,.any,.any,.any,.any,.any,.any,.any],[(1,c14 k d s t o a0 a1 a2 a3 v0 v1 v2 v3 x),(22,c14 k d s t o a0 a1 a2 a3 v0 v1 v2 v3 x)]⟩) (St.le_of (by simp[leT]) (by simp[leH,hget]))) ?_
 dsimp only
 refine AWE.regionL ?_
 refine ALE.one rfl (Q8q rfl fun mb hmb=>?_)
 simp only[go_sem]
 have hH:Q7u [(1,c14 k d s t o a0 a1 a2 a3 v0 v1 v2 v3 x),(22,c14 k d s t o a0 a1 a2 a3 v0 v1 v2 v3 x)]=false:=by simp[Q7u,AV.hasMpA,AV.hasMp,PV.hasMp,hxm]
 refine ALE.oneA rfl ?_
 simp only[go_sem]
 (repeat(refine ndI rfl ?_))
 refine ALE.one rfl (OpA.toW (Q1p rfl rfl ?_))
 simp only[go_sem]
 refine ALE.one rfl (Q2f (kl:=[]) rfl rfl rfl rfl rfl Tryz.underlying167 Tryz.underlying3 rfl rfl rfl rfl hmb hH rfl ?_)
 simp only[AV.amU,AV.hasMp,AV.hasMpA,PV.hasMp,List.map_cons,List.map_nil,List.cons_append,List.nil_append,eq_self,if_true,Bool.false_eq_true,if_false,Bool.or_false]
 refine ALE.oneA rfl ?_
 simp only[go_sem]
 (repeat(refine ndI rfl ?_))
 refine ALE.one rfl (OpA.toW (Q1p rfl rfl ?_))
 simp only[go_sem]
 refine ALE.one rfl (Q2f (kl:=[1]) rfl rfl rfl rfl rfl Tryz.underlying167 Tryz.underlying3 rfl rfl rfl rfl hmb hH rfl ?_)
 simp only[AV.amU,AV.hasMp,AV.hasMpA,PV.hasMp,List.map_cons,List.map_nil,List.cons_append,List.nil_append,eq_self,if_true,Bool.false_eq_true,if_false,Bool.or_false]
 refine ALE.oneA rfl ?_
 simp only[go_sem]
 (repeat(refine ndI rfl ?_))
 refine ALE.one rfl (OpA.toW (Q1p rfl rfl ?_))
 simp only[go_sem]
 refine ALE.one rfl (Q2f (kl:=[1,2]) rfl rfl rfl rfl rfl Tryz.underlying167 Tryz.underlying3 rfl rfl rfl rfl hmb hH rfl ?_)
 simp only[AV.amU,AV.hasMp,AV.hasMpA,PV.hasMp,List.map_cons,List.map_nil,List.cons_append,List.nil_append,eq_self,if_true,Bool.false_eq_true,if_false,Bool.or_false]
 refine ALE.oneA rfl ?_
 simp only[go_sem]
 (repeat(refine ndI rfl ?_))
 refine ALE.one rfl (OpA.toW (Q1p rfl rfl ?_))
 simp only[go_sem]
 refine ALE.one rfl (Q2f (kl:=[1,2,3]) rfl rfl rfl rfl rfl Tryz.underlying167 Tryz.underlying3 rfl rfl rfl rfl hmb hH rfl ?_)
 simp only[AV.amU,AV.hasMp,AV.hasMpA,PV.hasMp,List.map_cons,List.map_nil,List.cons_append,List.nil_append,eq_self,if_true,Bool.false_eq_true,if_false,Bool.or_false]
 refine ALE.oneA rfl ?_
 simp only[go_sem]
 (repeat(refine ndI rfl ?_))
 refine ALE.one rfl (OpA.toW (Q1p rfl rfl ?_))
 simp only[go_sem]
 refine ALE.one rfl (Q2f (kl:=[1,2,3,4]) rfl rfl rfl rfl rfl Tryz.underlying167 Tryz.underlying3 rfl rfl rfl rfl hmb hH rfl ?_)
 simp only[AV.amU,AV.hasMp,AV.hasMpA,PV.hasMp,List.map_cons,List.map_nil,List.cons_append,List.nil_append,eq_self,if_true,Bool.false_eq_true,if_false,Bool.or_false]
 refine ALE.oneA rfl ?_
 simp only[go_sem]
 (repeat(refine ndI rfl ?_))
 refine ALE.one rfl (OpA.toW (Q1p rfl rfl ?_))
 simp only[go_sem]
 refine ALE.one rfl (Q2f (kl:=[1,2,3,4,5]) rfl rfl rfl rfl rfl Tryz.underlying167 Tryz.underlying3 rfl rfl rfl rfl hmb hH rfl ?_)
 simp only[AV.amU,AV.hasMp,AV.hasMpA,PV.hasMp,List.map_cons,List.map_nil,List.cons_append,List.nil_append,eq_self,if_true,Bool.false_eq_true,if_false,Bool.or_false]
 refine ALE.oneA rfl ?_
 simp only[go_sem]
 (repeat(refine ndI rfl ?_))
 refine ALE.oneA rfl ?_
 simp only[go_sem]
 (repeat(refine ndI rfl ?_))
 refine ALE.nil ?_
 refine hJ _ ?_
 clear hJ hJ' J
 refine AWE.seqI ?_
 intro J hJ hJ'
 refine AWE.of ?_
 (repeat(any_goals(first|((with_reducible refine Q0b ?_ ?_);rfl;intro K hK;simp only[go_sem,hxr];((repeat(refine ndI (by first|assumption) ?_));refine hK _ ?_;clear hK K))|(with_reducible first|(refine Q0a ?_;intro R hR)))))
 refine Q3p rfl fun K hK=>?_
 refine X7t (kl:=[1,2,3,4,5,6]) (k:=k) (z:=.nilFunc) rfl rfl rfl Tryz.underlying167 Tryz.underlying3 (by kernel_rfl) rfl rfl rfl hj ?_
 simp only[go_sem]
 refine hK _ ?_
 clear hK K
 (repeat(any_goals(first|((with_reducible refine Q0b ?_ ?_);rfl;intro K hK;simp only[go_sem];((repeat(refine ndI (by first|assumption) ?_));refine hK _ ?_;clear hK K))|(with_reducible first|(refine Q0c ?_;refine hR _ ?_;clear hR R)|(refine hJ _ ?_;clear hJ hJ' J)))))
 refine AWE.to (St.to.of_le (τ:=⟨[.any,.ptr 1 0,vb false,.ptr 22 0,.any,.any,vb false,.any,.any,.any,.any,.any,.any,.any,.any,.any,.any,.any,.any,.any,.any,.any,.any,.any,.any,.any,.any,.any,.any,.any,.any,.any,.any,.any,.any,.any,.any,.any,.any,.any,.any,.any,.any,.any,.any,.any,.any,.any,.any,.any,.any,.any,.any,.any,.any,.any,.any,.any,.any,.any,.any,.any,.any],[]⟩) (St.le_of (by simp[leT]) (by simp[leH]))) ?_
 dsimp only
 refine AWE.seqI ?_
 intro J hJ hJ'
 refine AWE.of ?_
 (repeat(any_goals(fail)))
 ((with_reducible refine Q0r ?_ ?_ ?_ ?_))
 · kernel_rfl
 · kernel_rfl
 · kernel_rfl
 intro R hR
 iterate 20 ((first|((first|((with_reducible apply Q3e);rfl;rfl;rfl;rfl)|((first|((with_reducible apply Q0t);rfl;rfl));(simp only[rdE,rdOf,go_sem];rfl);(intro τ hA hQ hN;((try simp only[Q1e,Op.operands,Call.operands,go_sem,List.mem_cons,List.not_mem_nil,forall_eq_or_imp,forall_eq,List.append_toArray,Option.toArray] at hA);(try simp only[go_sem,List.mem_cons,List.not_mem_nil,forall_eq_or_imp,forall_eq] at hQ hN);(first|(revert hA;intro hA));(first|(revert hQ;intro hQ));(first|(revert hN;intro hN));simp only[go_sem,hA,hQ,hN];(repeat(refine ndI (by first|assumption) ?_));(first|apply Q1a)))));(simp only[St.eff,setO,Q0w,go_sem]))))
 (with_reducible refine Q0v ?_ ?_)
 · kernel_rfl
 refine hR _ ?_
 refine hJ _ ?_
 refine AWE.of (Q0j ?_)
 (refine⟨by simp,⟨_,?_,AV.le_refl _⟩,Q0h (by simp[leH,hget])⟩;simp only[Tryz.results85,resL,ldA,Q0q,go_sem])
end
section
open Go.RowKit
attribute [-go_sem] IntKind.bits
set_option maxRecDepth 20000
set_option maxHeartbeats 2000000
def Q7r(W:List UInt64):Nat:=(W.getD 0 0).toNat+18446744073709551616*((W.getD 1 0).toNat+18446744073709551616*((W.getD 2 0).toNat+18446744073709551616*(W.getD 3 0).toNat))
theorem lanesN_lt(W:List UInt64):Q7r W<WW:=by
 have h0:=(W.getD 0 0).toNat_lt
 have h1:=(W.getD 1 0).toNat_lt
 have h2:=(W.getD 2 0).toNat_lt
 have h3:=(W.getD 3 0).toNat_lt
 unfold Q7r
 show _<115792089237316195423570985008687907853269984665640564039457584007913129639936
 omega
theorem X5z{W:List UInt64}(h:W.length=4):wN (Q7r W)=lnA W:=by
 obtain⟨a,b,c,d,rfl⟩:∃a b c d,W=[a,b,c,d]:=by
  match W,h with
  |[a,b,c,d],_=>exact⟨a,b,c,d,rfl⟩
 obtain⟨e0,e1,e2,e3⟩:=Q4t (n:=Q7r [a,b,c,d]) (s0:=a.toNat) (s1:=b.toNat) (s2:=c.toNat) (s3:=d.toNat) rfl a.toNat_lt b.toNat_lt c.toNat_lt d.toNat_lt
 show w4 (l0 (Q7r [a,b,c,d])) (l1 (Q7r [a,b,c,d])) (l2 (Q7r [a,b,c,d])) (l3 (Q7r [a,b,c,d]))=_
 rw[e0,e1,e2,e3]
 rfl
def dgN(l:List Nat):Nat:=Q7r (digW l)
theorem dgN_lt(l:List Nat):dgN l<WW:=lanesN_lt _
theorem adig_fn(ex:Bool)(l:List Nat)(hl:l.length≤1000)(hb:∀b∈l,b<256):Fn Tryz.prog 159 [bsl ex l] [] (wN (dgN l)) []:=by
 have h:=dig_fn ex l hl hb
 rw[←X5z (Z0g l)] at h
 exact h
theorem rdigN_fn(ex:Bool)(l:List Nat)(hl:l.length≤1000)(hb:∀b∈l,b<256):Fn Tryz.prog 112 [bsl ex l] [] (wN (dgN l)) []:=by
 have h:=rdig_fn ex l hl hb
 rw[←X5z (Z0g l)] at h
 exact h
def Ev.ok(e:Ev):Prop:=e.key<WW∧e.val<WW∧e.data.length≤1000∧(∀b∈e.data,b<256)∧U e.self∧U e.to
def X4o(e:Ev):Bool:=decide (e.to=0∧e.key=0∧e.val=0∧e.data=[])
def Q2q(e:Ev):Bool:=
 !(decide (e.dep<0)||decide (e.dep≥6)||(e.self==0)) &&
 (if e.kind=1 then decide (e.data.length=64∧e.val=dgN e.data)&&decide (e.to=0∧e.op=0∧e.key=0)
  else if e.kind=2∨e.kind=3 then decide (e.to=0∧e.op=0∧e.val=0∧e.data=[])
  else if e.kind=4 then(Q6q e.op&&decide (e.data.length≤1))&&decide (e.key=0)
  else if e.kind=5 then Q8e e.op&&X4o e
  else if e.kind=6 then X4o e
  else false)
theorem le_c14{k d s t o a0 a1 a2 a3 v0 v1 v2 v3:Int}{x y:AV}(h:x.le y):(AV.agg (c14 k d s t o a0 a1 a2 a3 v0 v1 v2 v3 x)).le (.agg (c14 k d s t o a0 a1 a2 a3 v0 v1 v2 v3 y)):=
 AV.le_agg ⟨AV.le_refl _,AV.le_refl _,AV.le_refl _,AV.le_refl _,AV.le_refl _,AV.le_refl _,AV.le_refl _,AV.le_refl _,AV.le_refl _,AV.le_refl _,AV.le_refl _,AV.le_refl _,AV.le_refl _,h,trivial⟩
theorem Q9g(k d s t o a0 a1 a2 a3 v0 v1 v2 v3:Int)(x:List Nat)(hx:x.length≤1000)(b4 b5 b6 b7:Bool)(h4:(t==0)=b4)(h5:(o==0)=b5)(h6:(a0==0&&(a1==0&&(a2==0&&a3==0)))=b6)(h7:(v0==0&&(v1==0&&(v2==0&&v3==0)))=b7) :
 Fn Tryz.prog 91 [.agg (c14 k d s t o a0 a1 a2 a3 v0 v1 v2 v3 (bsl false x)),.agg (c14 k d s 0 0 0 0 0 0 0 0 0 0 nilA)] [] (vb (b4&&b5&&b6&&b7&&decide (x=[]))) []:=by
 have h:=same_fnE k d s t o a0 a1 a2 a3 v0 v1 v2 v3 k d s 0 0 0 0 0 0 0 0 0 0 false x [] true true true b4 b5 b6 b7 (decide (x=[])) (by simp) (by simp) (by simp) h4 h5 h6 h7 (beq_fn false false x [] (by omega))
 simp only[Bool.true_and] at h
 exact h.args ⟨AV.le_refl _,le_c14 (AV.le_nil false 1),trivial⟩
theorem X9t(k d s t o a0 a1 a2 a3 v0 v1 v2 v3:Int)(b4 b5 b6 b7:Bool)(h4:(t==0)=b4)(h5:(o==0)=b5)(h6:(a0==0&&(a1==0&&(a2==0&&a3==0)))=b6)(h7:(v0==0&&(v1==0&&(v2==0&&v3==0)))=b7) :
 Fn Tryz.prog 91 [.agg (c14 k d s t o a0 a1 a2 a3 v0 v1 v2 v3 nilA),.agg (c14 k d s 0 0 0 0 0 0 0 0 0 0 nilA)] [] (vb (b4&&b5&&b6&&b7)) []:=by
 have h:=Q9g k d s t o a0 a1 a2 a3 v0 v1 v2 v3 [] (by simp) b4 b5 b6 b7 h4 h5 h6 h7
 rw[decide_eq_true rfl,Bool.and_true] at h
 exact h.args ⟨le_c14 (AV.le_nil false 1),AV.le_refl _,trivial⟩
theorem z4{x:Nat}(hx:x<WW):(l0 x==0&&(l1 x==0&&(l2 x==0&&l3 x==0)))=decide (x=0):=wN_eq (y:=0) hx (by decide)
theorem nz(x:Nat):((x:Int)==0)=decide (x=0):=by rw[Bool.eq_iff_iff];simp
theorem bz(x:Int):(x==0)=decide (x=0):=by rw[Bool.eq_iff_iff];simp
theorem c14_no(k d s t o a0 a1 a2 a3 v0 v1 v2 v3:Int){x:AV}(h:AV.inN [] x=true):AV.inNL [] (c14 k d s t o a0 a1 a2 a3 v0 v1 v2 v3 x)=true:=by simp[AV.inNL,AV.inN,h]
theorem Z0o(k d s t o a0 a1 a2 a3 v0 v1 v2 v3:Int){x:AV}(h:∀r,AV.refs r x=false)(r:Nat):AV.refsL r (c14 k d s t o a0 a1 a2 a3 v0 v1 v2 v3 x)=false:=by simp[AV.refsL,AV.refs,h]
theorem bsl_hm(ex:Bool)(l:List Nat):AV.hasMp (bsl ex l)=false:=by
 show PV.hasMpL (l.flatMap bpv)=false
 exact X8c bpv (fun _=>rfl) l
theorem right_fn(e:Ev)(he:e.ok):Fn Tryz.prog 85 [evA e] [] (vb (Q2q e)) []:=by
 obtain⟨hk,hv,hl,hb,hs,ht⟩:=he
 by_cases hg:(decide (e.dep<0)||decide (e.dep≥6)||(e.self==0))=true
 · have h:=right_out e.kind e.dep e.self e.to (e.op:Int) (l0 e.key) (l1 e.key) (l2 e.key) (l3 e.key) (l0 e.val) (l1 e.val) (l2 e.val) (l3 e.val) (bsl false e.data) _ _ _ rfl rfl rfl hg (fun _=>rfl)
   rw[show Q2q e=false by unfold Q2q;rw[hg];rfl]
   exact h
 · have hg':(decide (e.dep<0)||decide (e.dep≥6)||(e.self==0))=false:=by simpa using hg
   have hg2:=hg'
   rw[Bool.or_eq_false_iff,Bool.or_eq_false_iff] at hg2
   obtain⟨⟨g1,g2⟩,g3⟩:=hg2
   have er:∀r,Q2q e=r↔(if e.kind=1 then decide (e.data.length=64∧e.val=dgN e.data)&&decide (e.to=0∧e.op=0∧e.key=0)
  else if e.kind=2∨e.kind=3 then decide (e.to=0∧e.op=0∧e.val=0∧e.data=[])
  else if e.kind=4 then(Q6q e.op&&decide (e.data.length≤1))&&decide (e.key=0)
  else if e.kind=5 then Q8e e.op&&X4o e
  else if e.kind=6 then X4o e
  else false)=r:=fun r=>by unfold Q2q;rw[hg'];simp
   have N:=fun (k d s t o a0 a1 a2 a3 v0 v1 v2 v3:Int)=>c14_no k d s t o a0 a1 a2 a3 v0 v1 v2 v3 (x:=nilA) rfl
   have M:=fun (k d s t o a0 a1 a2 a3 v0 v1 v2 v3:Int)=>c14_no k d s t o a0 a1 a2 a3 v0 v1 v2 v3 (x:=bsl false e.data) rfl
   have RN:=fun (k d s t o a0 a1 a2 a3 v0 v1 v2 v3:Int)=>Z0o k d s t o a0 a1 a2 a3 v0 v1 v2 v3 (x:=nilA) fun _=>rfl
   have RM:=fun (k d s t o a0 a1 a2 a3 v0 v1 v2 v3:Int)=>Z0o k d s t o a0 a1 a2 a3 v0 v1 v2 v3 (x:=bsl false e.data) fun _=>rfl
   have HM:=bsl_hm false e.data
   by_cases k1:e.kind=1
   · have sm:=X9t e.kind e.dep e.self e.to (e.op:Int) (l0 e.key) (l1 e.key) (l2 e.key) (l3 e.key) 0 0 0 0 _ _ _ _ (bz _) (nz _) (z4 hk) rfl
     have hj:Q5o e.kind [1,2,3,4,5,6] 0=some 0:=by rw[k1];rfl
     have hr:Q2q e=(decide (e.data.length=64∧e.val=dgN e.data)&&(decide (e.to=0)&&decide (e.op=0)&&decide (e.key=0)&&true)):=by
      rw[er,if_pos k1];congr 1;simp[Bool.and_assoc]
     rw[hr]
     by_cases h64:e.data.length=64
     · have hF:=hash_yes e.kind e.dep e.self e.to (e.op:Int) (l0 e.key) (l1 e.key) (l2 e.key) (l3 e.key) (l0 e.val) (l1 e.val) (l2 e.val) (l3 e.val) e.data _ _ _ _ _ h64 (adig_fn false e.data hl hb) rfl
       rw[wN_eq hv (dgN_lt _)] at hF
       rw[show decide (e.data.length=64∧e.val=dgN e.data)=decide (e.val=dgN e.data) by simp[h64]]
       exact Q3m _ _ _ _ _ _ _ _ _ _ _ _ _ _ _ _ _ g1 g2 g3 hj rfl Tryz.func135 (by kernel_rfl) rfl rfl (fun _=>rfl) HM (N _ _ _ _ _ _ _ _ _ _ _ _ _) rfl (RN _ _ _ _ _ _ _ _ _ _ _ _ _) hF sm
     · have hF:=hash_no e.kind e.dep e.self e.to (e.op:Int) (l0 e.key) (l1 e.key) (l2 e.key) (l3 e.key) (l0 e.val) (l1 e.val) (l2 e.val) (l3 e.val) e.data h64
       rw[show decide (e.data.length=64∧e.val=dgN e.data)=false by simp[h64]]
       exact Q3m _ _ _ _ _ _ _ _ _ _ _ _ _ _ _ _ _ g1 g2 g3 hj rfl Tryz.func135 (by kernel_rfl) rfl rfl (fun _=>rfl) HM (N _ _ _ _ _ _ _ _ _ _ _ _ _) rfl (RN _ _ _ _ _ _ _ _ _ _ _ _ _) hF sm
   by_cases k2:e.kind=2∨e.kind=3
   · have sm:=Q9g e.kind e.dep e.self e.to (e.op:Int) 0 0 0 0 (l0 e.val) (l1 e.val) (l2 e.val) (l3 e.val) e.data hl _ _ _ _ (bz _) (nz _) rfl (z4 hv)
     have hr:Q2q e=(true&&(decide (e.to=0)&&decide (e.op=0)&&true&&decide (e.val=0)&&decide (e.data=[]))):=by
      rw[er,if_neg k1,if_pos k2];simp[Bool.and_assoc]
     rw[hr]
     have hF:=slot_fn e.kind e.dep e.self e.to (e.op:Int) (l0 e.key) (l1 e.key) (l2 e.key) (l3 e.key) (l0 e.val) (l1 e.val) (l2 e.val) (l3 e.val) (bsl false e.data) rfl
     rcases k2 with k2|k2
     · have hj:Q5o e.kind [1,2,3,4,5,6] 0=some 1:=by rw[k2];rfl
       exact Q3m _ _ _ _ _ _ _ _ _ _ _ _ _ _ _ _ _ g1 g2 g3 hj rfl Tryz.func136 (by kernel_rfl) rfl rfl (fun _=>rfl) HM (M _ _ _ _ _ _ _ _ _ _ _ _ _) rfl (RM _ _ _ _ _ _ _ _ _ _ _ _ _) hF sm
     · have hj:Q5o e.kind [1,2,3,4,5,6] 0=some 2:=by rw[k2];rfl
       exact Q3m _ _ _ _ _ _ _ _ _ _ _ _ _ _ _ _ _ g1 g2 g3 hj rfl Tryz.func136 (by kernel_rfl) rfl rfl (fun _=>rfl) HM (M _ _ _ _ _ _ _ _ _ _ _ _ _) rfl (RM _ _ _ _ _ _ _ _ _ _ _ _ _) hF sm
   by_cases k4:e.kind=4
   · have sm:=X9t e.kind e.dep e.self 0 0 (l0 e.key) (l1 e.key) (l2 e.key) (l3 e.key) 0 0 0 0 _ _ _ _ rfl rfl (z4 hk) rfl
     have hj:Q5o e.kind [1,2,3,4,5,6] 0=some 3:=by rw[k4];rfl
     have hr:Q2q e=((Q6q e.op&&decide ((e.data.length:Int)≤1))&&(true&&true&&decide (e.key=0)&&true)):=by
      rw[er,if_neg k1,if_neg k2,if_pos k4]
      rw[show decide ((e.data.length:Int)≤1)=decide (e.data.length≤1) by rw[decide_eq_decide];omega]
      simp
     rw[hr]
     have hF:=acall_fn e.kind e.dep e.self e.to (l0 e.key) (l1 e.key) (l2 e.key) (l3 e.key) (l0 e.val) (l1 e.val) (l2 e.val) (l3 e.val) e.op e.data _ _ rfl rfl
     exact Q3m _ _ _ _ _ _ _ _ _ _ _ _ _ _ _ _ _ g1 g2 g3 hj rfl Tryz.func137 (by kernel_rfl) rfl rfl (fun _=>rfl) HM (N _ _ _ _ _ _ _ _ _ _ _ _ _) rfl (RN _ _ _ _ _ _ _ _ _ _ _ _ _) hF sm
   by_cases k5:e.kind=5
   · have sm:=Q9g e.kind e.dep e.self e.to 0 (l0 e.key) (l1 e.key) (l2 e.key) (l3 e.key) (l0 e.val) (l1 e.val) (l2 e.val) (l3 e.val) e.data hl _ _ _ _ (bz _) rfl (z4 hk) (z4 hv)
     have hj:Q5o e.kind [1,2,3,4,5,6] 0=some 4:=by rw[k5];rfl
     have hr:Q2q e=(Q8e e.op&&(decide (e.to=0)&&true&&decide (e.key=0)&&decide (e.val=0)&&decide (e.data=[]))):=by
      rw[er,if_neg k1,if_neg k2,if_neg k4,if_pos k5];unfold X4o;simp[Bool.and_assoc]
     rw[hr]
     have hF:=aop_fn e.kind e.dep e.self e.to (l0 e.key) (l1 e.key) (l2 e.key) (l3 e.key) (l0 e.val) (l1 e.val) (l2 e.val) (l3 e.val) e.op (bsl false e.data)
     exact Q3m _ _ _ _ _ _ _ _ _ _ _ _ _ _ _ _ _ g1 g2 g3 hj rfl Tryz.func138 (by kernel_rfl) rfl rfl (fun _=>rfl) HM (M _ _ _ _ _ _ _ _ _ _ _ _ _) rfl (RM _ _ _ _ _ _ _ _ _ _ _ _ _) hF sm
   by_cases k6:e.kind=6
   · have sm:=Q9g e.kind e.dep e.self e.to 0 (l0 e.key) (l1 e.key) (l2 e.key) (l3 e.key) (l0 e.val) (l1 e.val) (l2 e.val) (l3 e.val) e.data hl _ _ _ _ (bz _) rfl (z4 hk) (z4 hv)
     have hj:Q5o e.kind [1,2,3,4,5,6] 0=some 5:=by rw[k6];rfl
     have hr:Q2q e=(true&&(decide (e.to=0)&&true&&decide (e.key=0)&&decide (e.val=0)&&decide (e.data=[]))):=by
      rw[er,if_neg k1,if_neg k2,if_neg k4,if_neg k5,if_pos k6];unfold X4o;simp[Bool.and_assoc]
     rw[hr]
     have hF:=gas_fn e.kind e.dep e.self e.to (e.op:Int) (l0 e.key) (l1 e.key) (l2 e.key) (l3 e.key) (l0 e.val) (l1 e.val) (l2 e.val) (l3 e.val) (bsl false e.data)
     exact Q3m _ _ _ _ _ _ _ _ _ _ _ _ _ _ _ _ _ g1 g2 g3 hj rfl Tryz.func139 (by kernel_rfl) rfl rfl (fun _=>rfl) HM (M _ _ _ _ _ _ _ _ _ _ _ _ _) rfl (RM _ _ _ _ _ _ _ _ _ _ _ _ _) hF sm
   · have hj:Q5o e.kind [1,2,3,4,5,6] 0=none:=by
      simp only[Q5o]
      rw[if_neg k1,if_neg (by omega),if_neg (by omega),if_neg k4,if_neg k5,if_neg k6]
     rw[(er false).2 (by rw[if_neg k1,if_neg k2,if_neg k4,if_neg k5,if_neg k6])]
     exact Z1m _ _ _ _ _ _ _ _ _ _ _ _ _ _ g1 g2 g3 hj rfl (fun _=>rfl) HM
end
section
open Go.RowKit
open Nat (reduceBEq)
attribute [-go_sem] IntKind.bits
set_option maxRecDepth 20000
set_option maxHeartbeats 2000000
def idxF{α : Type}(p:α→Bool):List α→Nat→Int
 |[],_=>-1
 |y::l,i=>if p y=true then(i:Int) else idxF p l (i+1)
theorem X0f{α : Type}(p:α→Bool):∀(l:List α) (i:Nat),decide (idxF p l i≥0)=l.any p
 |[],i=>by simp[idxF]
 |y::l,i=>by
  unfold idxF
  cases h:p y
  · rw[if_neg (by simp),X0f p l (i+1)]
    simp[h]
  · rw[if_pos rfl]
    simp[h]
def Ev.pv(e:Ev):List PV:=[.v (.int .i64 e.kind),.v (.int .i64 e.dep),.v (.int .u64 e.self),.v (.int .u64 e.to),.v (.int .u8 (e.op:Int)),.v (.int .u64 (l0 e.key)),.v (.int .u64 (l1 e.key)),.v (.int .u64 (l2 e.key)),.v (.int .u64 (l3 e.key)),.v (.int .u64 (l0 e.val)),.v (.int .u64 (l1 e.val)),.v (.int .u64 (l2 e.val)),.v (.int .u64 (l3 e.val)),.sl false 1 e.data.length (e.data.flatMap bpv)]
theorem X0i(e:Ev):e.pv.length=14:=rfl
abbrev evs(ex:Bool)(l:List Ev):AV:=.c (.sl ex 14 l.length (l.flatMap Ev.pv))
theorem X8e{l:List Ev}{i:Nat}{e:Ev}(h:l[i]? = some e):((l.flatMap Ev.pv).drop (i*14)).take 14=[.v (.int .i64 e.kind),.v (.int .i64 e.dep),.v (.int .u64 e.self),.v (.int .u64 e.to),.v (.int .u8 (e.op:Int)),.v (.int .u64 (l0 e.key)),.v (.int .u64 (l1 e.key)),.v (.int .u64 (l2 e.key)),.v (.int .u64 (l3 e.key)),.v (.int .u64 (l0 e.val)),.v (.int .u64 (l1 e.val)),.v (.int .u64 (l2 e.val)),.v (.int .u64 (l3 e.val)),.sl false 1 e.data.length (e.data.flatMap bpv)]:=Q5q (f:=Ev.pv) X0i h
theorem idxE_fn (ex:Bool) (l:List Ev) (p:Ev→Bool) {g:FuncId} {fn:Func} {caps:List AV} (hl:l.length≤1000000) (hgf:Tryz.prog.funcs[g]? = some fn) (hgn:(fn.name == "runtime.NumGoroutine")=false) (hgb:fn.body.isNone=false) (hcap:AV.inNL [] caps=true) (hp:∀x∈l,Fn Tryz.prog g (evA x::caps) [] (vb (p x)) []) :
 Fn Tryz.prog 134 [.c (.sl ex 14 l.length (l.flatMap Ev.pv)),.fn g caps] [] (vi .i64 (idxF p l 0)) []:=by
 obtain⟨r,hr⟩:∃r,idxF p l 0=r:=⟨_,rfl⟩
 rw[hr]
 (refine Q0z Tryz.func134 rfl (by rfl) ?_;simp only[Tryz.ntmps134,List.length_cons,List.length_nil,Nat.reduceAdd,Nat.reduceSub,List.replicate,List.cons_append,List.nil_append])
 (repeat(any_goals(first|((with_reducible refine Q0b ?_ ?_);rfl;intro K hK;simp only[go_sem];((repeat(refine ndI (by first|assumption) ?_));refine hK _ ?_;clear hK K))|(with_reducible first|(refine Q0c ?_;refine hR _ ?_;clear hR R)|((first|refine Q0d ?_|refine Q0f ?_);intro J hJ hJ')|(refine Q0a ?_;intro R hR)|(refine hJ _ ?_;clear hJ hJ' J)))))
 refine Q1t (α:={i:Nat // i≤l.length∧idxF p (l.drop i) i=r}) (fun q=>⟨[.c (.sl ex 14 l.length (l.flatMap Ev.pv)),.fn g caps,.any,.any,.any,.any,.any,vi .i64 l.length,vi .i64 (q.1:Int),.any,.any,.any,.any,.any,.any,.any,.any,.any,.any],[]⟩) (fun q=>l.length-q.1) ⟨0,Nat.zero_le _,hr⟩ (St.le_of (by simp[leT]) (by simp[leH])) ?_
 rintro ⟨i,hi,hd⟩ J hJ hJ'
 (try dsimp only at hJ ⊢)
 rcases Nat.lt_or_ge i l.length with hlt|hge
 · obtain⟨y,hy⟩:∃y,l[i]? = some y:=⟨_,List.getElem?_eq_getElem hlt⟩
   have k1:(decide ((i:Int)<(l.length:Int)))=true:=by simp;omega
   have k2:=X8e hy
   have k7:(i:Int)+1=((i+1:Nat):Int):=by omega
   have hdr:l.drop i=y::l.drop (i+1):=by
    rw[List.drop_eq_getElem_cons hlt]
    rw[List.getElem?_eq_getElem hlt] at hy
    rw[Option.some.inj hy]
   have hp1:=hp y (List.mem_of_getElem? hy)
   rw[hdr] at hd
   unfold idxF at hd
   cases hxy:p y
   · rw[hxy] at hp1 hd
     rw[if_neg (by simp)] at hd
     have hJ1:=fun σ'=>hJ σ' ⟨i+1,hlt,hd⟩ (by dsimp only;omega)
     dsimp only at hJ1
     (have W:=ndI k1 (ndI k2 (ndI k7 @wrI));(repeat(any_goals(first|((with_reducible refine Q0n ?_ ?_ ?_);rfl;rfl;intro K hK;(apply Q0k (hp1);rfl;rfl;rfl;rfl;exact hgf;exact hgn;exact hgb;(focus((simp(disch:=omega) only[go_sem,W,Nat.mul_one]);(try rfl);done));(first|simp[AV.inNL,AV.inN,hcap]));(simp(disch:=omega) only[go_sem,W,Nat.mul_one];refine hK _ ?_;clear hK K))|((with_reducible refine Q0b ?_ ?_);rfl;intro K hK;simp(disch:=omega) only[go_sem,W,Nat.mul_one];((repeat(refine ndI (by first|assumption|omega|rfl) ?_));refine hK _ ?_;clear hK K))|(with_reducible first|(refine Q0c ?_;refine hR _ ?_;clear hR R)|((first|refine Q0d ?_|refine Q0f ?_);intro J hJ hJ')|(refine Q0a ?_;intro R hR)|(refine hJ _ ?_;clear hJ hJ' J)|refine Q0g ?_)|((with_reducible refine hJ' _ _ ?_ ?_);(focus(simp;done));clear hJ hJ' J)|((with_reducible apply Q0e);rfl;rfl;all_goals(intro hc;first|(cases hc;done)|(try simp only at hc)))))))
     all_goals exact hJ1 _ (St.le_of (by simp[leT]) (by simp[leH]))
   · rw[hxy] at hp1 hd
     rw[if_pos rfl] at hd
     (have W:=ndI k1 (ndI k2 (ndI k7 @wrI));(repeat(any_goals(first|((with_reducible refine Q0n ?_ ?_ ?_);rfl;rfl;intro K hK;(apply Q0k (hp1);rfl;rfl;rfl;rfl;exact hgf;exact hgn;exact hgb;(focus((simp(disch:=omega) only[go_sem,W,Nat.mul_one]);(try rfl);done));(first|simp[AV.inNL,AV.inN,hcap]));(simp(disch:=omega) only[go_sem,W,Nat.mul_one];refine hK _ ?_;clear hK K))|((with_reducible refine Q0b ?_ ?_);rfl;intro K hK;simp(disch:=omega) only[go_sem,W,Nat.mul_one];((repeat(refine ndI (by first|assumption|omega|rfl) ?_));refine hK _ ?_;clear hK K))|(with_reducible first|(refine Q0c ?_;refine hR _ ?_;clear hR R)|((first|refine Q0d ?_|refine Q0f ?_);intro J hJ hJ')|(refine Q0a ?_;intro R hR)|(refine hJ _ ?_;clear hJ hJ' J)|refine Q0g ?_|refine Q0j ?_)|((with_reducible refine hJ' _ _ ?_ ?_);(focus(simp;done));clear hJ hJ' J)|((with_reducible apply Q0e);rfl;rfl;all_goals(intro hc;first|(cases hc;done)|(try simp only at hc)))))))
     all_goals rw[←hd]
     all_goals(refine⟨by simp,⟨_,?_,AV.le_refl _⟩,Q0h (by simp[leH,hget])⟩;simp only[Tryz.results134,resL,ldA,Q0q,go_sem])
 · have k1:(decide ((i:Int)<(l.length:Int)))=false:=by simp;omega
   rw[List.drop_eq_nil_of_le hge] at hd
   have hd:r = -1:=hd.symm
   (repeat(any_goals(first|((with_reducible refine Q0b ?_ ?_);rfl;intro K hK;simp only[go_sem,k1];((repeat(refine ndI (by first|assumption) ?_));refine hK _ ?_;clear hK K))|(with_reducible first|(refine Q0c ?_;refine hR _ ?_;clear hR R)|((first|refine Q0d ?_);intro J hJ hJ')|(refine Q0a ?_;intro R hR)|(refine hJ _ ?_;clear hJ hJ' J)|refine Q0j ?_|refine Q0o ?_)|((with_reducible refine hJ' _ _ ?_ ?_);(focus(simp;done));clear hJ hJ' J)|((with_reducible apply Q0e);rfl;rfl;all_goals(intro hc;first|(cases hc;done)|(try simp only at hc))))))
   all_goals rw[hd]
   all_goals(refine⟨by simp,⟨_,?_,AV.le_refl _⟩,Q0h (by simp[leH,hget])⟩;simp only[Tryz.results134,resL,ldA,Q0q,go_sem])
theorem hasE_fn (ex:Bool) (l:List Ev) (p:Ev→Bool) {g:FuncId} {fn:Func} {caps:List AV} (hl:l.length≤1000000) (hgf:Tryz.prog.funcs[g]? = some fn) (hgn:(fn.name == "runtime.NumGoroutine")=false) (hgb:fn.body.isNone=false) (hcap:AV.inNL [] caps=true) (hp:∀x∈l,Fn Tryz.prog g (evA x::caps) [] (vb (p x)) []) :
 Fn Tryz.prog 83 [.c (.sl ex 14 l.length (l.flatMap Ev.pv)),.fn g caps] [] (vb (l.any p)) []:=by
 have h:=idxE_fn ex l p hl hgf hgn hgb hcap hp
 have e:=X0f p l 0
 generalize idxF p l 0=r at h e
 rw[←e]
 (refine Q0z Tryz.func83 rfl (by rfl) ?_;simp only[Tryz.ntmps83,List.length_cons,List.length_nil,Nat.reduceAdd,Nat.reduceSub,List.replicate,List.cons_append,List.nil_append])
 (repeat(any_goals(first|((with_reducible refine Q0n ?_ ?_ ?_);rfl;rfl;intro K hK;((apply Q0k (h);rfl;rfl;rfl;rfl;exact Tryz.func134);kernel_rfl;rfl;(focus((simp only[go_sem]);(try rfl);done));(first|simp[AV.inNL,AV.inN,hcap]));(simp only[go_sem];refine hK _ ?_;clear hK K))|((with_reducible refine Q0b ?_ ?_);rfl;intro K hK;simp only[go_sem];((repeat(refine ndI (by first|assumption) ?_));refine hK _ ?_;clear hK K))|(with_reducible first|(refine Q0c ?_;refine hR _ ?_;clear hR R)|((first|refine Q0d ?_);intro J hJ hJ')|(refine Q0a ?_;intro R hR)|(refine hJ _ ?_;clear hJ hJ' J)|refine Q0j ?_))))
 all_goals(refine⟨by simp,⟨_,?_,AV.le_refl _⟩,Q0h (by simp[leH,hget])⟩;simp only[Tryz.results83,resL,ldA,Q0q,go_sem])
theorem chk1_fn(e:Ev)(he:e.ok):Fn Tryz.prog 84 [evA e] [] (vb (!Q2q e)) []:=by
 have h:=right_fn e he
 generalize Q2q e=b at h ⊢
 (refine Q0z Tryz.func84 rfl (by rfl) ?_;simp only[Tryz.ntmps84,List.length_cons,List.length_nil,Nat.reduceAdd,Nat.reduceSub,List.replicate,List.cons_append,List.nil_append])
 (repeat(any_goals(first|((with_reducible refine Q0n ?_ ?_ ?_);rfl;rfl;intro K hK;((apply Q0k (h);rfl;rfl;rfl;rfl;exact Tryz.func85);kernel_rfl;rfl;(focus((simp only[go_sem]);(try rfl);done));(first|rfl));(simp only[go_sem];refine hK _ ?_;clear hK K))|((with_reducible refine Q0b ?_ ?_);rfl;intro K hK;simp only[go_sem];((repeat(refine ndI (by first|assumption) ?_));refine hK _ ?_;clear hK K))|(with_reducible first|(refine Q0c ?_;refine hR _ ?_;clear hR R)|((first|refine Q0d ?_);intro J hJ hJ')|(refine Q0a ?_;intro R hR)|(refine hJ _ ?_;clear hJ hJ' J)|refine Q0j ?_))))
 all_goals(refine⟨by simp,⟨_,?_,AV.le_refl _⟩,Q0h (by simp[leH,hget])⟩;simp only[Tryz.results84,resL,ldA,Q0q,go_sem])
def trB(l:List Ev):Bool:=decide (l.length≤2000)&&l.all Q2q
theorem Q5u(ex:Bool)(l:List Ev)(hl:l.length≤1000000)(ho:∀e∈l,e.ok):Fn Tryz.prog 51 [evs ex l] [] (vi .i64 (if trB l then 0 else 270)) []:=by
 have h:=hasE_fn ex l (fun e=>!Q2q e) (caps:=[]) hl Tryz.func84 (by kernel_rfl) rfl rfl fun e he=>chk1_fn e (ho e he)
 have e2:l.any (fun e=>!Q2q e) = !l.all Q2q:=by
  rw[Bool.eq_iff_iff];simp
 rw[e2] at h
 obtain⟨b1,h1⟩:∃b,decide ((l.length:Int)>2000)=b:=⟨_,rfl⟩
 have e3:trB l=(!b1&&l.all Q2q):=by
  unfold trB
  rw[←h1]
  congr 1
  rw[Bool.eq_iff_iff];simp;omega
 rw[e3]
 generalize l.all Q2q=b2 at h ⊢
 (refine Q0z Tryz.func51 rfl (by rfl) ?_;simp only[Tryz.ntmps51,List.length_cons,List.length_nil,Nat.reduceAdd,Nat.reduceSub,List.replicate,List.cons_append,List.nil_append])
 (repeat(any_goals(first|((with_reducible refine Q0b ?_ ?_);rfl;intro K hK;simp only[go_sem,h1];((repeat(refine ndI (by first|assumption) ?_));refine hK _ ?_;clear hK K))|(with_reducible first|(refine Q0c ?_;refine hR _ ?_;clear hR R)|((first|refine Q0d ?_);intro J hJ hJ')|(refine Q0a ?_;intro R hR)|(refine hJ _ ?_;clear hJ hJ' J)|refine Q0g ?_|refine Q0j ?_)|((with_reducible refine hJ' _ _ ?_ ?_);(focus(simp;done));clear hJ hJ' J)|((with_reducible apply Q0y);rfl;rfl;rfl;all_goals(intro hb;first|(cases hb;done)|((try simp only[Bool.not_true,Bool.not_false] at hb);(first|((with_reducible intro K hK);(first|((apply Q0k (h);rfl;rfl;rfl;rfl;exact Tryz.func83);kernel_rfl;rfl;(focus((simp only[go_sem,h1]);(try rfl);done));(first|rfl))|skip);simp only[go_sem,h1];((repeat(refine ndI (by first|assumption) ?_));refine hK _ ?_;clear hK K))|((fail_if_success (with_reducible intro _));simp only[go_sem,h1])))))|((with_reducible apply Q0e);rfl;rfl;all_goals(intro hc;first|(cases hc;done)|(try simp only at hc))))))
 all_goals(subst_vars;(refine⟨by simp,⟨_,?_,AV.le_refl _⟩,Q0h (by simp[leH,hget])⟩;simp only[Tryz.results51,resL,ldA,Q0q,go_sem]))
 all_goals simp_all
end
section
open Go.RowKit
section
variable {α : Type} (key:α→Int)
def Rises(L:List α):Prop:=L.Pairwise fun x y=>key x<key y
def fnd(k:Int):List α→Option α
 |[]=>none
 |y::L=>if key y=k then some y else fnd k L
def lay(k:Int)(o:Option α):List α→List α
 |[]=>o.toList
 |y::L=>if key y<k then y::lay k o L else if key y=k then o.toList++L else o.toList++y::L
variable {key}
theorem fnd_key{k:Int}:∀{L:List α} {x:α},fnd key k L=some x→key x=k∧x∈L
 |y::L,x,h=>by
  unfold fnd at h
  split at h
  · rename_i e;cases h;exact⟨e,by simp⟩
  · have:=fnd_key h;exact⟨this.1,by simp[this.2]⟩
theorem fnd_mem{L:List α}(hr:Rises key L){x:α}(hx:x∈L):fnd key (key x) L=some x:=by
 induction L with
 |nil=>cases hx
 |cons y L ih=>
  obtain⟨l1,l2⟩:=List.pairwise_cons.1 hr
  unfold fnd
  rcases List.mem_cons.1 hx with rfl|hx
  · rw[if_pos rfl]
  · rw[if_neg (by have:=l1 x hx;omega)];exact ih l2 hx
theorem mem_iff{L:List α}(hr:Rises key L){x:α}:x∈L↔fnd key (key x) L=some x:=⟨fnd_mem hr,fun h=>(fnd_key h).2⟩
structure Parts (key:α→Int) (L:List α) (k:Int) (p:Nat):Prop where
 le:p≤L.length
 lo:∀(i:Nat) (h:i<L.length),i<p→key L[i]<k
 hi:∀(i:Nat) (h:i<L.length),p≤i→k≤key L[i]
theorem Parts.tail{y:α}{L:List α}{k:Int}{p:Nat}(h:Parts key (y::L) k (p+1)):Parts key L k p:=
 ⟨by have:=h.le;simpa using this,fun i hi hp=>by have:=h.lo (i+1) (by simpa using hi) (by omega);simpa using this,fun i hi hp=>by have:=h.hi (i+1) (by simpa using hi) (by omega);simpa using this⟩
end
end
section
open Go.RowKit
open Nat (reduceBEq)
set_option maxRecDepth 20000
set_option maxHeartbeats 2000000
theorem isNaN_fn(a:Int):Fn Tryz.prog 132 [vi .u64 a] [] (vb false) []:=by
 (refine Q0z Tryz.func132 rfl (by rfl) ?_;simp only[Tryz.ntmps132,List.length_cons,List.length_nil,Nat.reduceAdd,Nat.reduceSub,List.replicate,List.cons_append,List.nil_append])
 (repeat(any_goals(first|((with_reducible refine Q0b ?_ ?_);rfl;intro K hK;simp only[go_sem];((repeat(refine ndI (by first|assumption) ?_));refine hK _ ?_;clear hK K))|(with_reducible first|(refine Q0c ?_;refine hR _ ?_;clear hR R)|((first|refine Q0d ?_);intro J hJ hJ')|(refine Q0a ?_;intro R hR)|(refine hJ _ ?_;clear hJ hJ' J)|refine Q0j ?_))))
 all_goals(refine⟨by simp,⟨_,?_,AV.le_refl _⟩,Q0h (by simp[leH,hget])⟩;simp only[Tryz.results132,resL,ldA,Q0q,go_sem])
 all_goals simp
def cmpI(a b:Int):Int:=if a<b then -1 else if b<a then 1 else 0
theorem Z2c(a b:Int):Fn Tryz.prog 78 [vi .u64 a,vi .u64 b] [] (vi .i64 (cmpI a b)) []:=by
 (refine Q0z Tryz.func78 rfl (by rfl) ?_;simp only[Tryz.ntmps78,List.length_cons,List.length_nil,Nat.reduceAdd,Nat.reduceSub,List.replicate,List.cons_append,List.nil_append])
 (repeat(any_goals(first|((with_reducible refine Q0n ?_ ?_ ?_);rfl;rfl;intro K hK;((apply Q0k (isNaN_fn _);rfl;rfl;rfl;rfl;exact Tryz.func132);kernel_rfl;rfl;(focus((simp only[go_sem]);(try rfl);done));(first|rfl));(simp only[go_sem];refine hK _ ?_;clear hK K))|((with_reducible refine Q0b ?_ ?_);rfl;intro K hK;simp only[go_sem];((repeat(refine ndI (by first|assumption) ?_));refine hK _ ?_;clear hK K))|(with_reducible first|(refine Q0c ?_;refine hR _ ?_;clear hR R)|((first|refine Q0d ?_);intro J hJ hJ')|(refine Q0a ?_;intro R hR)|(refine hJ _ ?_;clear hJ hJ' J)|refine Q0g ?_|refine Q0j ?_)|((with_reducible refine hJ' _ _ ?_ ?_);(focus(simp;done));clear hJ hJ' J)|((with_reducible apply Q0e);rfl;rfl;all_goals(intro hc;first|(cases hc;done)|(try simp only at hc))))))
 all_goals(refine⟨by simp,⟨_,?_,AV.le_refl _⟩,Q0h (by simp[leH,hget])⟩;simp only[Tryz.results78,resL,ldA,Q0q,go_sem])
 all_goals simp_all [cmpI]
 all_goals omega
structure Sp where
 a:Int
 k:Nat
structure Pg where
 s:Sp
 v:Nat
def Sp.pv(s:Sp):List PV:=[.v (.int .u64 s.a),.v (.int .u64 (l0 s.k)),.v (.int .u64 (l1 s.k)),.v (.int .u64 (l2 s.k)),.v (.int .u64 (l3 s.k))]
def Pg.pv(p:Pg):List PV:=[.v (.int .u64 p.s.a),.v (.int .u64 (l0 p.s.k)),.v (.int .u64 (l1 p.s.k)),.v (.int .u64 (l2 p.s.k)),.v (.int .u64 (l3 p.s.k)),.v (.int .u64 (l0 p.v)),.v (.int .u64 (l1 p.v)),.v (.int .u64 (l2 p.v)),.v (.int .u64 (l3 p.v))]
theorem Q4y(s:Sp):s.pv.length=5:=rfl
abbrev spA(s:Sp):AV:=.agg [vi .u64 s.a,vi .u64 (l0 s.k),vi .u64 (l1 s.k),vi .u64 (l2 s.k),vi .u64 (l3 s.k)]
abbrev spl5(ex:Bool)(l:List Sp):AV:=.c (.sl ex 5 l.length (l.flatMap Sp.pv))
theorem Q8g{l:List Sp}{i:Nat}{y:Sp}(h:l[i]? = some y):((l.flatMap Sp.pv).drop (i*5)).take 5=[.v (.int .u64 y.a),.v (.int .u64 (l0 y.k)),.v (.int .u64 (l1 y.k)),.v (.int .u64 (l2 y.k)),.v (.int .u64 (l3 y.k))]:=Q5q (f:=Sp.pv) Q4y h
def Sp.ok(s:Sp):Prop:=U s.a∧s.k<WW
def Pg.ok(p:Pg):Prop:=p.s.ok∧p.v<WW
def Sp.key(s:Sp):Int:=s.a*(WW:Int)+(s.k:Int)
abbrev Pg.key(p:Pg):Int:=p.s.key
theorem key_lt{W a b:Int}{x y:Int}(hx:0≤x∧x<W)(hy:0≤y∧y<W):a*W+x<b*W+y↔a<b∨(a=b∧x<y):=by
 rcases Int.lt_trichotomy a b with h|h|h
 · have e:(a+1)*W≤b*W:=Int.mul_le_mul_of_nonneg_right (by omega) (by omega)
   rw[Int.add_mul] at e
   omega
 · subst h;omega
 · have e:(b+1)*W≤a*W:=Int.mul_le_mul_of_nonneg_right (by omega) (by omega)
   rw[Int.add_mul] at e
   omega
theorem Sp.key_lt{s t:Sp}(hs:s.ok)(ht:t.ok):s.key<t.key↔s.a<t.a∨(s.a=t.a∧s.k<t.k):=by
 have h:=@Go.Proofs.YtgdjkkapgghdbaaGreatDoor.key_lt (WW:Int) s.a t.a s.k t.k ⟨by omega,by have:=hs.2;exact_mod_cast this⟩ ⟨by omega,by have:=ht.2;exact_mod_cast this⟩
 unfold Sp.key
 rw[h]
 omega
theorem Sp.key_inj{s t:Sp}(hs:s.ok)(ht:t.ok)(h:s.key=t.key):s=t:=by
 have h1:=Sp.key_lt hs ht
 have h2:=Sp.key_lt ht hs
 rw[h] at h1 h2
 obtain⟨a,k⟩:=s
 obtain⟨b,m⟩:=t
 dsimp only at h1 h2
 have e1:a=b:=by omega
 have e2:k=m:=by omega
 rw[e1,e2]
theorem cmp_key{s t:Sp}(hs:s.ok)(ht:t.ok):(if cmpI s.a t.a=0 then(if s.k<t.k then -1 else if t.k<s.k then 1 else 0) else cmpI s.a t.a)=cmpI s.key t.key:=by
 have h1:=Sp.key_lt hs ht
 have h2:=Sp.key_lt ht hs
 generalize s.key=x at *
 generalize t.key=y at *
 unfold cmpI
 rcases Int.lt_trichotomy s.a t.a with h|h|h
 · have hx:x<y:=by omega
   simp[h,hx]
 · rcases Nat.lt_trichotomy s.k t.k with g|g|g
   · have hx:x<y:=by omega
     simp[h,g,hx]
   · have hx:¬x<y:=by omega
     have hy:¬y<x:=by omega
     simp[h,g,hx,hy]
   · have hx:¬x<y:=by omega
     have hy:y<x:=by omega
     have g2:¬s.k<t.k:=by omega
     simp[h,g,hx,hy,g2]
 · have hx:¬x<y:=by omega
   have hy:y<x:=by omega
   have g2:¬s.a<t.a:=by omega
   simp[h,hx,hy,g2]
theorem cmpor_fn(ex:Bool)(x y:Int):Fn Tryz.prog 77 [.c (.sl ex 1 2 [.v (.int .i64 x),.v (.int .i64 y)])] [] (vi .i64 (if x=0 then y else x)) []:=by
 (refine Q0z Tryz.func77 rfl (by rfl) ?_;simp only[Tryz.ntmps77,List.length_cons,List.length_nil,Nat.reduceAdd,Nat.reduceSub,List.replicate,List.cons_append,List.nil_append])
 (repeat(any_goals(first|((with_reducible refine Q0b ?_ ?_);rfl;intro K hK;simp(disch:=omega) only[go_sem,wrI,Int.reduceAdd];((repeat(refine ndI (by first|assumption|omega|rfl) ?_));refine hK _ ?_;clear hK K))|(with_reducible first|(refine Q0c ?_;refine hR _ ?_;clear hR R)|((first|refine Q0d ?_|refine Q0f ?_);intro J hJ hJ')|(refine Q0a ?_;intro R hR)|(refine hJ _ ?_;clear hJ hJ' J)|refine Q0g ?_|refine Q0j ?_|refine Q0o ?_)|((with_reducible refine hJ' _ _ ?_ ?_);(focus(simp;done));clear hJ hJ' J)|((with_reducible apply Q0e);rfl;rfl;all_goals(intro hc;first|(cases hc;done)|(try simp only at hc)))|(with_reducible refine Q5g 3 ?_)|((with_reducible refine Q6j ?_);intro J hJ hJ'))))
 all_goals(refine⟨by simp,⟨_,?_,AV.le_refl _⟩,Q0h (by simp[leH,hget])⟩;simp only[Tryz.results77,resL,ldA,Q0q,go_sem])
 all_goals simp_all
theorem X0p(s t:Sp)(hs:s.ok)(ht:t.ok):Fn Tryz.prog 48 [spA s,spA t] [] (vi .i64 (cmpI s.key t.key)) []:=by
 have c1:=Z2c s.a t.a
 have c2:=cmp_fn s.k t.k hs.2 ht.2
 rw[←cmp_key hs ht]
 generalize cmpI s.a t.a=x at c1 ⊢
 generalize (if s.k<t.k then -1 else if t.k<s.k then 1 else 0:Int)=y at c2 ⊢
 (refine Q0z Tryz.func48 rfl (by rfl) ?_;simp only[Tryz.ntmps48,List.length_cons,List.length_nil,Nat.reduceAdd,Nat.reduceSub,List.replicate,List.cons_append,List.nil_append])
 (repeat(any_goals(first|((with_reducible refine Q0b ?_ ?_);rfl;intro K hK;simp only[go_sem];((repeat(refine ndI (by first|assumption) ?_));refine hK _ ?_;clear hK K))|(with_reducible first|(refine Q0c ?_;refine hR _ ?_;clear hR R)|((first|refine Q0d ?_);intro J hJ hJ')|(refine Q0a ?_;intro R hR)|(refine hJ _ ?_;clear hJ hJ' J)|refine Q0j ?_)|((with_reducible refine Q0v ?_ ?_);kernel_rfl;(with_reducible refine hR _ ?_);clear hR R)|((first|((with_reducible apply Q1j);rfl;rfl;((first|(apply Q0u (c1);rfl;rfl;rfl;rfl;exact Tryz.func78)|(apply Q0u (c2);rfl;rfl;rfl;rfl;exact Tryz.func79)|(apply Q0u (cmpor_fn _ _ _);rfl;rfl;rfl;rfl;exact Tryz.func77));kernel_rfl;rfl;(focus((simp only[go_sem]);(try rfl);done));(first|rfl)))|((with_reducible apply Q0t);rfl;rfl;(simp only[rdE,rdOf,go_sem];rfl);(intro τ hA hQ hN;((try simp only[Q1e,Op.operands,Call.operands,go_sem,List.mem_cons,List.not_mem_nil,forall_eq_or_imp,forall_eq,List.append_toArray,Option.toArray] at hA);(try simp only[go_sem,List.mem_cons,List.not_mem_nil,forall_eq_or_imp,forall_eq] at hQ hN);(first|(revert hA;intro hA));(first|(revert hQ;intro hQ));(first|(revert hN;intro hN));simp only[go_sem,hA,hQ,hN];(repeat(refine ndI (by first|assumption) ?_));(first|apply Q1a))))|((first|((with_reducible apply Q3j);rfl));apply Q3n;rfl;rfl;(focus(simp only[go_sem];try rfl));(focus(simp only[go_sem];try rfl));rfl;(first|omega);(first|omega);(first|omega);(simp only[go_sem];rfl);rfl;(focus((simp only[unC,Option.map_some]);(try rfl)))));(simp only[St.eff,setO,Q0w,go_sem]))|((with_reducible refine Q0r ?_ ?_ ?_ ?_);kernel_rfl;kernel_rfl;(first|kernel_rfl);intro R hR))))
 all_goals(refine⟨by simp,⟨_,?_,AV.le_refl _⟩,Q0h (by simp[leH,hget])⟩;simp only[Tryz.results48,resL,ldA,Q0q,go_sem])
end
section
open Go.RowKit
open Nat (reduceBEq)
attribute [-go_sem] IntKind.bits
set_option maxRecDepth 20000
set_option maxHeartbeats 2000000
def kpv(n:Int):List PV:=[.v (.int .i64 n)]
theorem kpv_len(n:Int):(kpv n).length=1:=rfl
abbrev ksl(ex:Bool)(l:List Int):AV:=.c (.sl ex 1 l.length (l.flatMap kpv))
theorem ksl_at{l:List Int}{i:Nat}{y:Int}(h:l[i]? = some y):((l.flatMap kpv).drop i).take 1=[.v (.int .i64 y)]:=by
 have:=Q5q (f:=kpv) kpv_len h
 rwa [Nat.mul_one] at this
theorem indexK_fn(ex:Bool)(l:List Int)(x:Int)(hl:l.length≤1000000):Fn Tryz.prog 170 [ksl ex l,vi .i64 x] [] (vi .i64 (idxF (fun y=>decide (x=y)) l 0)) []:=by
 obtain⟨r,hr⟩:∃r,idxF (fun y=>decide (x=y)) l 0=r:=⟨_,rfl⟩
 rw[hr]
 (refine Q0z Tryz.func170 rfl (by rfl) ?_;simp only[Tryz.ntmps170,List.length_cons,List.length_nil,Nat.reduceAdd,Nat.reduceSub,List.replicate,List.cons_append,List.nil_append])
 (repeat(any_goals(first|((with_reducible refine Q0b ?_ ?_);rfl;intro K hK;simp only[go_sem];((repeat(refine ndI (by first|assumption) ?_));refine hK _ ?_;clear hK K))|(with_reducible first|(refine Q0c ?_;refine hR _ ?_;clear hR R)|((first|refine Q0d ?_|refine Q0f ?_);intro J hJ hJ')|(refine Q0a ?_;intro R hR)|(refine hJ _ ?_;clear hJ hJ' J)))))
 refine Q1t (α:={i:Nat // i≤l.length∧idxF (fun y=>decide (x=y)) (l.drop i) i=r}) (fun p=>⟨[ksl ex l,vi .i64 x,.any,.any,.any,.any,.any,vi .i64 l.length,vi .i64 (p.1:Int),.any,.any,.any,.any,.any,.any,.any,.any,.any,.any],[]⟩) (fun p=>l.length-p.1) ⟨0,Nat.zero_le _,hr⟩ (St.le_of (by simp[leT]) (by simp[leH])) ?_
 rintro ⟨i,hi,hd⟩ J hJ hJ'
 (try dsimp only at hJ ⊢)
 rcases Nat.lt_or_ge i l.length with hlt|hge
 · obtain⟨y,hy⟩:∃y,l[i]? = some y:=⟨_,List.getElem?_eq_getElem hlt⟩
   have k1:(decide ((i:Int)<(l.length:Int)))=true:=by simp;omega
   have k2:=ksl_at hy
   have k7:(i:Int)+1=((i+1:Nat):Int):=by omega
   have hdr:l.drop i=y::l.drop (i+1):=by
    rw[List.drop_eq_getElem_cons hlt]
    rw[List.getElem?_eq_getElem hlt] at hy
    rw[Option.some.inj hy]
   rw[hdr] at hd
   unfold idxF at hd
   by_cases hxy:x=y
   · have k4:(x==y)=true:=by simp[hxy]
     rw[if_pos (by simp[hxy])] at hd
     (have W:=ndI k1 (ndI k2 (ndI k4 (ndI k7 @wrI)));(repeat(any_goals(first|((with_reducible refine Q0b ?_ ?_);rfl;intro K hK;simp(disch:=omega) only[go_sem,W,Nat.mul_one];((repeat(refine ndI (by first|assumption|omega|rfl) ?_));refine hK _ ?_;clear hK K))|(with_reducible first|(refine Q0c ?_;refine hR _ ?_;clear hR R)|((first|refine Q0d ?_|refine Q0f ?_);intro J hJ hJ')|(refine Q0a ?_;intro R hR)|(refine hJ _ ?_;clear hJ hJ' J)|refine Q0g ?_|refine Q0j ?_)|((with_reducible refine hJ' _ _ ?_ ?_);(focus(simp;done));clear hJ hJ' J)|((with_reducible apply Q0e);rfl;rfl;all_goals(intro hc;first|(cases hc;done)|(try simp only at hc)))))))
     all_goals rw[←hd]
     all_goals(refine⟨by simp,⟨_,?_,AV.le_refl _⟩,Q0h (by simp[leH,hget])⟩;simp only[Tryz.results170,resL,ldA,Q0q,go_sem])
   · have k4:(x==y)=false:=by simp[hxy]
     rw[if_neg (by simp[hxy])] at hd
     have hJ1:=fun σ'=>hJ σ' ⟨i+1,hlt,hd⟩ (by dsimp only;omega)
     dsimp only at hJ1
     (have W:=ndI k1 (ndI k2 (ndI k4 (ndI k7 @wrI)));(repeat(any_goals(first|((with_reducible refine Q0b ?_ ?_);rfl;intro K hK;simp(disch:=omega) only[go_sem,W,Nat.mul_one];((repeat(refine ndI (by first|assumption|omega|rfl) ?_));refine hK _ ?_;clear hK K))|(with_reducible first|(refine Q0c ?_;refine hR _ ?_;clear hR R)|((first|refine Q0d ?_|refine Q0f ?_);intro J hJ hJ')|(refine Q0a ?_;intro R hR)|(refine hJ _ ?_;clear hJ hJ' J)|refine Q0g ?_)|((with_reducible refine hJ' _ _ ?_ ?_);(focus(simp;done));clear hJ hJ' J)|((with_reducible apply Q0e);rfl;rfl;all_goals(intro hc;first|(cases hc;done)|(try simp only at hc)))))))
     all_goals exact hJ1 _ (St.le_of (by simp[leT]) (by simp[leH]))
 · have k1:(decide ((i:Int)<(l.length:Int)))=false:=by simp;omega
   rw[List.drop_eq_nil_of_le hge] at hd
   have hd:r = -1:=hd.symm
   (repeat(any_goals(first|((with_reducible refine Q0b ?_ ?_);rfl;intro K hK;simp only[go_sem,k1];((repeat(refine ndI (by first|assumption) ?_));refine hK _ ?_;clear hK K))|(with_reducible first|(refine Q0c ?_;refine hR _ ?_;clear hR R)|((first|refine Q0d ?_);intro J hJ hJ')|(refine Q0a ?_;intro R hR)|(refine hJ _ ?_;clear hJ hJ' J)|refine Q0j ?_|refine Q0o ?_)|((with_reducible refine hJ' _ _ ?_ ?_);(focus(simp;done));clear hJ hJ' J)|((with_reducible apply Q0e);rfl;rfl;all_goals(intro hc;first|(cases hc;done)|(try simp only at hc))))))
   all_goals rw[hd]
   all_goals(refine⟨by simp,⟨_,?_,AV.le_refl _⟩,Q0h (by simp[leH,hget])⟩;simp only[Tryz.results170,resL,ldA,Q0q,go_sem])
theorem Q8w(ex:Bool)(l:List Int)(x:Int)(hl:l.length≤1000000):Fn Tryz.prog 143 [ksl ex l,vi .i64 x] [] (vb (decide (x∈l))) []:=by
 have h:=indexK_fn ex l x hl
 have e:=X0f (fun y=>decide (x=y)) l 0
 rw[show(l.any fun y=>decide (x=y))=decide (x∈l) by rw[Bool.eq_iff_iff];simp] at e
 generalize idxF (fun y=>decide (x=y)) l 0=r at h e
 rw[←e]
 (refine Q0z Tryz.func143 rfl (by rfl) ?_;simp only[Tryz.ntmps143,List.length_cons,List.length_nil,Nat.reduceAdd,Nat.reduceSub,List.replicate,List.cons_append,List.nil_append])
 (repeat(any_goals(first|((with_reducible refine Q0n ?_ ?_ ?_);rfl;rfl;intro K hK;((apply Q0k (h);rfl;rfl;rfl;rfl;exact Tryz.func170);kernel_rfl;rfl;(focus((simp only[go_sem]);(try rfl);done));(first|rfl));(simp only[go_sem];refine hK _ ?_;clear hK K))|((with_reducible refine Q0b ?_ ?_);rfl;intro K hK;simp only[go_sem];((repeat(refine ndI (by first|assumption) ?_));refine hK _ ?_;clear hK K))|(with_reducible first|(refine Q0c ?_;refine hR _ ?_;clear hR R)|((first|refine Q0d ?_);intro J hJ hJ')|(refine Q0a ?_;intro R hR)|(refine hJ _ ?_;clear hJ hJ' J)|refine Q0j ?_))))
 all_goals(refine⟨by simp,⟨_,?_,AV.le_refl _⟩,Q0h (by simp[leH,hget])⟩;simp only[Tryz.results143,resL,ldA,Q0q,go_sem])
theorem that_fn(ex ex':Bool)(l:List Ev)(ks:List Int):Fn Tryz.prog 95 [evs ex l,ksl ex' ks] [] (.fn 142 [.ptr 2 0,.ptr 3 0]) [(2,[evs ex l]),(3,[ksl ex' ks])]:=by
 (refine Q0z Tryz.func95 rfl (by rfl) ?_;simp only[Tryz.ntmps95,List.length_cons,List.length_nil,Nat.reduceAdd,Nat.reduceSub,List.replicate,List.cons_append,List.nil_append])
 (repeat(any_goals(first|((with_reducible refine Q0b ?_ ?_);rfl;intro K hK;simp only[go_sem];((repeat(refine ndI (by first|assumption) ?_));refine hK _ ?_;clear hK K))|(with_reducible first|(refine Q0c ?_;refine hR _ ?_;clear hR R)|((first|refine Q0d ?_);intro J hJ hJ')|(refine Q0a ?_;intro R hR)|(refine hJ _ ?_;clear hJ hJ' J)|refine Q0j ?_))))
 all_goals exact⟨by simp,⟨_,rfl,AV.le_of (by simp[Q0q])⟩,Q0h (by simp[leH,hget])⟩
def Ev.sp(e:Ev):Sp:=⟨e.self,e.key⟩
abbrev raS(l:List Sp):List AV:=(l.flatMap Sp.pv).map .c
theorem Q6u(l:List Sp):(raS l).length=l.length*5:=by rw[List.length_map,Q0p Q4y]
def selS(ks:List Int)(l:List Ev):List Sp:=(l.filter fun e=>decide (e.kind∈ks)).map Ev.sp
theorem selS_snoc(ks:List Int){l:List Ev}{i:Nat}{y:Ev}(h:l[i]? = some y):selS ks (l.take (i+1))=if decide (y.kind∈ks)=true then selS ks (l.take i)++[y.sp] else selS ks (l.take i):=by
 unfold selS
 rw[List.take_add_one,h,List.filter_append,List.map_append]
 by_cases c:decide (y.kind∈ks)=true
 · rw[if_pos c]
   simp only[Option.toList_some,List.filter_cons,c,if_true,List.filter_nil,List.map_cons,List.map_nil]
 · rw[if_neg c]
   have c':decide (y.kind∈ks)=false:=by simpa using c
   simp only[Option.toList_some,List.filter_cons,c',List.filter_nil,List.map_nil,List.append_nil,Bool.false_eq_true,if_false]
theorem X8y(ks:List Int)(l:List Ev):(selS ks l).length≤l.length:=by
 unfold selS;rw[List.length_map];exact List.length_filter_le _ _
abbrev tsH0(out:List Sp):List (Nat×List AV):=[(1005,[.row 1600 37 5 out.length]),(1600,raS out)]
abbrev tsH1(out:List Sp)(y:Ev):List (Nat×List AV):=[(1005,[.row 18 37 5 (out.length+1)]),(18,raS (out++[y.sp]))]
abbrev stT(ex ex':Bool)(l:List Ev)(ks:List Int)(lp r:Nat)(out:List Sp)(i:Nat):St:=⟨[yv lp,.ptr 1101 0,.ptr 1102 0,.any,.any,.any,.any,.any,.any,evs ex l,vi .i64 l.length,vi .i64 i,.any,.any,.any,.any,.any,.any,.any,.any,.any,.any,.any,.any,.any,.any],[(1005,[.row r 37 5 out.length]),(r,raS out),(1101,[evs ex l]),(1102,[ksl ex' ks])]⟩
theorem stT_rn(ex ex':Bool)(l:List Ev)(ks:List Int)(lp:Nat)(out:List Sp)(i:Nat):(stT ex ex' l ks lp 18 out i).to (stT ex ex' l ks lp 600 out i):=by
 have h:=St.to.rn (σ:=stT ex ex' l ks lp 18 out i) (fun r=>if r=18 then 600 else r) (fun r=>if r=600 then 18 else r) [18,1005,1101,1102] (by simp[AV.inNL,AV.inN]) (by simp) (by simp[inH,AV.inNL,AV.inN,Q1b]) (by simp) (by simp)
 simpa [AV.renL,AV.ren,renH] using h
theorem that1S_fn(ex ex':Bool)(l:List Ev)(hl:l.length≤1000)(ho:∀e∈l,e.ok)(hr:trB l=true)(ks:List Int)(hk:ks.length≤10){t:Tmp}{asg bod:Code}{T0:List AV}(hT0:AV.inNL [1005] T0=true)(lp:Nat)
 (hY:∀(out:List Sp) (y:Ev),y∈l→out.length≤1000→YC Tryz.prog t asg bod T0 lp (evA y) (tsH0 out) (tsH1 out y)) :
 FnW (LoopAt t asg bod T0 [1005,1101,1102] lp) Tryz.prog 142 [yv lp,.ptr 1101 0,.ptr 1102 0] [(1005,[nilA]),(1101,[evs ex l]),(1102,[ksl ex' ks])] (.tup []) [(1005,[.row 600 37 5 (selS ks l).length]),(600,raS (selS ks l))]:=by
 have ck:=Q5u ex l (by omega) ho
 rw[hr] at ck
 (refine Q5e Tryz.func142 rfl (by rfl) ?_;simp only[Tryz.ntmps142,List.length_cons,List.length_nil,Nat.reduceAdd,Nat.reduceSub,List.replicate,List.cons_append,List.nil_append])
 refine AWE.seq (AWE.of ?_)
 (repeat(any_goals(first|((with_reducible refine Q0n ?_ ?_ ?_);rfl;rfl;intro K hK;((apply Q0k (ck);rfl;rfl;rfl;rfl;exact Tryz.func51);kernel_rfl;rfl;(focus((simp only[go_sem,bne_self_eq_false,ite_true,if_true]);(try rfl);done));(first|rfl));(simp only[go_sem,bne_self_eq_false,ite_true,if_true];refine hK _ ?_;clear hK K))|((with_reducible refine Q0b ?_ ?_);rfl;intro K hK;simp only[go_sem,bne_self_eq_false,ite_true,if_true];((repeat(refine ndI (by first|assumption) ?_));refine hK _ ?_;clear hK K))|(with_reducible first|(refine Q0c ?_;refine hR _ ?_;clear hR R)|((first|refine Q0d ?_);intro J hJ hJ')|(refine Q0a ?_;intro R hR)|(refine hJ _ ?_;clear hJ hJ' J)|refine Q0g ?_)|((with_reducible apply Q0e);rfl;rfl;all_goals(intro hc;first|(cases hc;done)|(try simp only at hc))))))
 show AWE _ _ _ _ _
 refine AWE.seq (AWE.of ?_)
 (repeat(any_goals(first|((with_reducible refine Q0b ?_ ?_);rfl;intro K hK;simp only[go_sem];((repeat(refine ndI (by first|assumption) ?_));refine hK _ ?_;clear hK K))|(with_reducible first|(refine Q0c ?_;refine hR _ ?_;clear hR R)|(refine Q0a ?_;intro R hR)))))
 show AWE _ _ _ _ _
 refine AWE.block ?_
 refine AWE.loop (α:={i:Nat // i≤l.length}) (fun p=>stT ex ex' l ks lp 600 (selS ks (l.take p.1)) p.1) (fun p=>l.length-p.1) ⟨0,Nat.zero_le _⟩ ?_ ?_
 · refine St.to.trans (St.to.nilcell 1005 600 37 5 0 (cs:=[nilA]) (by simp[hget]) rfl (by simp[St.free,Q1w,AV.refsL,AV.refs]) (by decide) (by decide)) (St.to.of_le (St.le_of (by simp[leT,selS]) (by simp[leH,hget,hput,selS])))
 rintro ⟨i,hi⟩
 dsimp only[stT]
 rcases Nat.lt_or_ge i l.length with hlt|hge
 · obtain⟨y,hy⟩:∃y,l[i]? = some y:=⟨l[i],List.getElem?_eq_getElem hlt⟩
   have k1:(decide ((i:Int)<(l.length:Int)))=true:=by simpa using hlt
   have k2:=X8e hy
   have k7:(i:Int)+1=((i+1:Nat):Int):=by omega
   have k5:=X8y ks (l.take i)
   have k6:(l.take i).length≤1000:=by simp;omega
   have hm:=List.mem_of_getElem? hy
   have m1:=selS_snoc ks hy
   have fin:∀τ : St,τ.to (stT ex ex' l ks lp 600 (selS ks (l.take (i+1))) (i+1))→∃q:{i:Nat // i≤l.length},l.length-q.1<l.length-i∧τ.to (stT ex ex' l ks lp 600 (selS ks (l.take q.1)) q.1):=fun τ h=>⟨⟨i+1,hlt⟩,by simp only;omega,h⟩
   have cn:=Q8w ex' ks y.kind (by omega)
   generalize selS ks (l.take (i+1))=out' at fin m1
   generalize selS ks (l.take i)=out at k5 m1 ⊢
   have k9:∀r,AV.refsL r (raS out)=false:=fun r=>Q0l r _
   refine AWE.seq (AWE.of ?_)
   (repeat(any_goals(first|((with_reducible refine Q0b ?_ ?_);rfl;intro K hK;simp only[go_sem,k1];((repeat(refine ndI (by first|assumption) ?_));refine hK _ ?_;clear hK K))|(with_reducible first|(refine Q0c ?_;refine hR _ ?_;clear hR R)|(refine Q0a ?_;intro R hR)))))
   refine AWE.seq (AWE.of ?_)
   (repeat(any_goals(first|(with_reducible first|refine Q0g ?_)|((with_reducible apply Q0e);rfl;rfl;all_goals(intro hc;first|(cases hc;done)|(try simp only at hc))))))
   refine AWE.seq (AWE.block (AWE.seq (AWE.of ?_)))
   (repeat(any_goals(first|((with_reducible refine Q0b ?_ ?_);rfl;intro K hK;simp(disch:=omega) only[go_sem,k1,k2,k7,k9,wrI];((repeat(refine ndI (by first|assumption|omega|rfl) ?_));refine hK _ ?_;clear hK K))|(with_reducible first|(refine Q0c ?_;refine hR _ ?_;clear hR R)|(refine Q0a ?_;intro R hR)))))
   cases hya:decide (y.kind∈ks) with
   |false=>
    rw[hya] at cn m1
    rw[if_neg (by simp)] at m1
    refine AWE.seq (AWE.of ?_)
    (repeat(any_goals(first|((with_reducible refine Q0n ?_ ?_ ?_);rfl;rfl;intro K hK;((apply Q0k (cn);rfl;rfl;rfl;rfl;exact Tryz.func143);kernel_rfl;rfl;(focus((simp(disch:=omega) only[go_sem,k1,k2,k7,k9,wrI]);(try rfl);done));(first|rfl));(simp(disch:=omega) only[go_sem,k1,k2,k7,k9,wrI];refine hK _ ?_;clear hK K))|((with_reducible refine Q0b ?_ ?_);rfl;intro K hK;simp(disch:=omega) only[go_sem,k1,k2,k7,k9,wrI];((repeat(refine ndI (by first|assumption|rfl) ?_));refine hK _ ?_;clear hK K))|(with_reducible first|(refine Q0c ?_;refine hR _ ?_;clear hR R)|(refine Q0a ?_;intro R hR))|((with_reducible apply Q0y);rfl;rfl;rfl;all_goals(intro hb;first|(cases hb;done)|((try simp only[Bool.not_true,Bool.not_false] at hb);(first|((fail_if_success (with_reducible intro _));simp(disch:=omega) only[go_sem,k1,k2,k7,k9,wrI]))))))))
    show AWE _ _ _ _ _
    refine AWE.of ?_
    (repeat(any_goals(first|(with_reducible first|refine Q0g ?_)|((with_reducible apply Q0e);rfl;rfl;all_goals(intro hc;first|(cases hc;done)|(try simp only at hc))))))
    show AWE _ _ _ _ _
    refine AWE.of ?_
    (repeat(any_goals(first|((with_reducible refine Q0b ?_ ?_);rfl;intro K hK;simp(disch:=omega) only[go_sem,k7,wrI];((repeat(refine ndI (by first|assumption|rfl) ?_));refine hK _ ?_;clear hK K))|(with_reducible first|(refine Q0c ?_;refine hR _ ?_;clear hR R)|(refine Q0a ?_;intro R hR)))))
    subst m1
    exact fin _ (St.to.of_le (St.le_of (by simp[leT]) (by simp[leH,hget])))
   |true=>
    rw[hya] at cn m1
    rw[if_pos rfl] at m1
    subst m1
    refine AWE.seq (AWE.region_at 7 rfl rfl ?_)
    intro R hR
    simp only[List.take,List.drop]
    (repeat(any_goals(first|((with_reducible refine Q0n ?_ ?_ ?_);rfl;rfl;intro K hK;((apply Q0k (cn);rfl;rfl;rfl;rfl;exact Tryz.func143);kernel_rfl;rfl;(focus((simp(disch:=omega) only[go_sem,k1,k2,k7,k9,wrI]);(try rfl);done));(first|rfl));(simp(disch:=omega) only[go_sem,k1,k2,k7,k9,wrI];refine hK _ ?_;clear hK K))|((with_reducible refine Q0b ?_ ?_);rfl;intro K hK;simp(disch:=omega) only[go_sem,k1,k2,k7,k9,wrI];((repeat(refine ndI (by first|assumption|rfl) ?_));refine hK _ ?_;clear hK K))|(with_reducible first|(refine Q0c ?_;refine hR _ ?_;clear hR R))|((with_reducible apply Q0y);rfl;rfl;rfl;all_goals(intro hb;first|(cases hb;done)|((try simp only[Bool.not_true,Bool.not_false] at hb);(first|((with_reducible intro K hK);simp(disch:=omega) only[go_sem,k1,k2,k7,k9,wrI];((repeat(refine ndI (by first|assumption|rfl) ?_));refine hK _ ?_;clear hK K)))))))))
    refine⟨.inr ⟨4,true,19,rfl,rfl,rfl⟩,Q7m (hY out y hm (by omega)) (fun r=>if r=1600 then 600 else r) rfl rfl rfl rfl (.inr ?_) (by rfl) ?_ ?_ ?_ ?_ [1005] hT0 ?_ ?_⟩
    · simp[AV.ren,AV.renL,St.ev]
    · simp[hget,AV.renL,AV.ren]
    · intro r hr q hq h
      simp only[List.map_cons,List.map_nil,List.cons_append,List.nil_append,List.mem_cons,List.not_mem_nil,or_false] at hr hq
      rcases hr with rfl|rfl|rfl|rfl<;>rcases hq with rfl|rfl|rfl|rfl<;>simp at h ⊢
    · simp[Q2b,St.free,Q1w,AV.refs,AV.refsL,k9]
    · simp[inH,AV.inNL,AV.inN]
    · simp[hget]
    intro R hR
    simp only[List.drop,Q0w,Q1y,renH,AV.ren,AV.renL,Q0s,hput,hdel,hget,St.put,List.set]
    (repeat(any_goals(first|((with_reducible refine Q0b ?_ ?_);rfl;intro K hK;simp(disch:=omega) only[go_sem,k1,k2,k7,k9,hya,wrI];((repeat(refine ndI (by first|assumption|rfl) ?_));refine hK _ ?_;clear hK K))|(with_reducible first|(refine Q0c ?_;refine hR _ ?_;clear hR R))|((with_reducible apply Q0y);rfl;rfl;rfl;all_goals(intro hb;first|(cases hb;done)|((try simp only[Bool.not_true,Bool.not_false] at hb);(first|((with_reducible intro K hK);simp(disch:=omega) only[go_sem,k1,k2,k7,k9,hya,wrI];((repeat(refine ndI (by first|assumption|rfl) ?_));refine hK _ ?_;clear hK K)))))))))
    show AWE _ _ _ _ _
    refine AWE.of ?_
    (repeat(any_goals(first|(with_reducible first|refine Q0g ?_)|((with_reducible apply Q0e);rfl;rfl;all_goals(intro hc;first|(cases hc;done)|(try simp only at hc))))))
    show AWE _ _ _ _ _
    refine AWE.of ?_
    (repeat(any_goals(first|((with_reducible refine Q0b ?_ ?_);rfl;intro K hK;simp(disch:=omega) only[go_sem,k7,wrI];((repeat(refine ndI (by first|assumption|rfl) ?_));refine hK _ ?_;clear hK K))|(with_reducible first|(refine Q0c ?_;refine hR _ ?_;clear hR R)|(refine Q0a ?_;intro R hR)))))
    exact fin _ (St.to.trans (St.to.of_le (τ:=stT ex ex' l ks lp 18 (out++[y.sp]) (i+1)) (St.le_of (by simp[leT]) (by simp[leH,hget,raS]))) (stT_rn ex ex' l ks lp _ _))
 · have k1:(decide ((i:Int)<(l.length:Int)))=false:=by simpa using hge
   have e:l.take i=l:=List.take_of_length_le hge
   rw[e]
   refine AWE.seq (AWE.of ?_)
   (repeat(any_goals(first|((with_reducible refine Q0b ?_ ?_);rfl;intro K hK;simp only[go_sem,k1];((repeat(refine ndI (by first|assumption) ?_));refine hK _ ?_;clear hK K))|(with_reducible first|(refine Q0c ?_;refine hR _ ?_;clear hR R)|(refine Q0a ?_;intro R hR)))))
   refine AWE.seq (AWE.of ?_)
   (repeat(any_goals(first|(with_reducible first|refine Q0o ?_)|((with_reducible apply Q0e);rfl;rfl;all_goals(intro hc;first|(cases hc;done)|(try simp only at hc))))))
   exact⟨by simp,⟨_,rfl,AV.le_of (by simp[Q0q])⟩,Q0h (by simp[leH,hget])⟩
end
end Go.Proofs.YtgdjkkapgghdbaaGreatDoor
