/-
  Rows appended to in place and anew, made; functions that hand back rows they were handed. No program in sight.
-/
import Derived.Test.YtbmcdemnnbndeaaAvI
import Derived.Orders
import Derived.LoopN
import Derived.Laws.Externs
import Derived.Lib.Overlaps
import Derived.Lib.AppendZerosOnto
import Derived.Laws.CopyRow
import Derived.Deep.OwnRows
import Derived.Scope
namespace Go.Proofs.Ytbmcdemnnbndeaa
set_option linter.unusedSimpArgs false
set_option linter.unusedVariables false
section
open Go.RowKit
def Q0q(H:List (Nat×List AV)):List (Nat×List AV)→List (Nat×List AV)
 |[]=>H
 |(k,cs)::l=>hput (Q0q H l) k cs
def Q2k(H:List (Nat×List AV)):List (Nat×List AV)→List (Nat×List AV)
 |[]=>H
 |(k,_)::l=>hdel (Q2k H l) k
def renH(ρ : Nat→Nat):List (Nat×List AV)→List (Nat×List AV)
 |[]=>[]
 |(k,cs)::l=>(ρ k,AV.renL ρ cs)::renH ρ l
theorem Q3g(k:Nat)(cs:List AV)(l:List (Nat×List AV))(q:Nat):hget ((k,cs)::l) q=if k=q then some cs else hget l q:=rfl
theorem Q2u(H:List (Nat×List AV)):∀(l:List (Nat×List AV)) (q:Nat),hget (Q0q H l) q=match hget l q with|some cs=>some cs|none=>hget H q
 |[],q=>rfl
 |(k,cs)::l,q=>by
  show hget (hput (Q0q H l) k cs) q=_
  rw[Q2y,Q2u H l q,Q3g]
  by_cases h:k=q
  · subst h;simp
  · rw[if_neg (by omega),if_neg h]
theorem X2h(H:List (Nat×List AV)):∀(l:List (Nat×List AV)) (q:Nat),hget (Q2k H l) q=match hget l q with|some _=>none|none=>hget H q
 |[],q=>rfl
 |(k,cs)::l,q=>by
  show hget (hdel (Q2k H l) k) q=_
  rw[X4s,X2h H l q,Q3g]
  by_cases h:k=q
  · subst h;simp
  · rw[if_neg (by omega),if_neg h]
theorem Q3d:∀{H:List (Nat×List AV)} {r:Nat} {cs:List AV},hget H r=some cs→r∈H.map (·.1)
 |(k,ds)::H,r,cs,h=>by
  unfold hget at h
  split at h
  · rename_i e;simp[e]
  · simp[Q3d h]
theorem Q1v:∀{H:List (Nat×List AV)} {r:Nat},r∈H.map (·.1)→∃cs,hget H r=some cs
 |(k,ds)::H,r,h=>by
  unfold hget
  split
  · exact⟨ds,rfl⟩
  · rename_i e
    simp only[List.map_cons,List.mem_cons] at h
    rcases h with h|h
    · exact absurd h.symm e
    · exact Q1v h
theorem Q8c{ρ : Nat→Nat}{N:List Nat}(hinj:∀r∈N,∀q∈N,ρ r = ρ q→r=q):∀{H:List (Nat×List AV)},(∀r∈H.map (·.1),r∈N)→∀r∈N,hget (renH ρ H) (ρ r)=(hget H r).map (AV.renL ρ)
 |[],_,r,_=>rfl
 |(k,cs)::H,hN,r,hr=>by
  have hk:=hN k (by simp)
  have ih:=Q8c hinj (H:=H) (fun q hq=>hN q (by simp only[List.map_cons,List.mem_cons];exact .inr hq)) r hr
  unfold renH hget
  by_cases h:k=r
  · subst h;simp
  · rw[if_neg (fun e=>h (hinj k hk r hr e)),if_neg h,ih]
theorem Q7r{ρ : Nat→Nat}:∀{H:List (Nat×List AV)} {q:Nat} {ds:List AV},hget (renH ρ H) q=some ds→∃r∈H.map (·.1),q = ρ r
 |(k,cs)::H,q,ds,h=>by
  unfold renH hget at h
  split at h
  · rename_i e;exact⟨k,by simp,e.symm⟩
  · obtain⟨r,hr,e⟩:=Q7r h
    exact⟨r,by simp only[List.map_cons,List.mem_cons];exact .inr hr,e⟩
def Q2h(ρ : Nat→Nat)(x y:AV):Prop:=x = .any∨y=AV.ren ρ x
def Q1t(ρ : Nat→Nat):List AV→List AV→Prop
 |[],[]=>True
 |x::xs,y::ys=>Q2h ρ x y∧Q1t ρ xs ys
 |_,_=>False
theorem Q3v{ρ : Nat→Nat}:∀{xs ys:List AV},Q1t ρ xs ys→xs.length=ys.length∧∀(j:Nat) (x y:AV),xs[j]? = some x→ys[j]? = some y→Q2h ρ x y
 |[],[],_=>⟨rfl,fun j x y hx=>by cases hx⟩
 |x::xs,y::ys,h=>by
  obtain⟨h1,h2⟩:=h
  obtain⟨h3,h4⟩:=Q3v h2
  refine⟨by simp[h3],fun j a b ha hb=>?_⟩
  cases j with
  |zero=>simp at ha hb;subst ha hb;exact h1
  |succ j=>exact h4 j a b (by simpa using ha) (by simpa using hb)
def Q2d(σ : St)(ρ : Nat→Nat)(H0:List (Nat×List AV)):List (Nat×List AV)→Prop
 |[]=>True
 |(k,_)::l=>((H0.map (·.1)).contains k=true∨(σ.free (ρ k)=true∧ρ k<1000))∧Q2d σ ρ H0 l
theorem X2b{σ : St}{ρ : Nat→Nat}{H0:List (Nat×List AV)}:∀{l:List (Nat×List AV)},Q2d σ ρ H0 l→∀r∈l.map (·.1),r∈H0.map (·.1)∨(σ.free (ρ r)=true∧ρ r<1000)
 |(k,cs)::l,h,r,hr=>by
  simp only[List.map_cons,List.mem_cons] at hr
  rcases hr with rfl|hr
  · rcases h.1 with h|h
    · exact .inl (by simpa using h)
    · exact .inr h
  · exact X2b h.2 r hr
def inH(N:List Nat):List (Nat×List AV)→Bool
 |[]=>true
 |(_,cs)::l=>AV.inNL N cs&&inH N l
theorem X3o{N:List Nat}:∀{H:List (Nat×List AV)},inH N H=true→∀r cs,hget H r=some cs→AV.inNL N cs=true
 |(k,ds)::H,h,r,cs,hr=>by
  unfold inH at h
  rw[Bool.and_eq_true] at h
  unfold hget at hr
  split at hr
  · cases hr;exact h.1
  · exact X3o h.2 r cs hr
theorem Conc.enter{E:Env}{ι : Nat→Nat×Nat×Nat}{σ : St}{a:Act}{w:World}(hc:Conc E ι σ a w){H0:List (Nat×List AV)}(ρ : Nat→Nat)(hH0':∀r cs,hget H0 r=some cs→hget σ.H (ρ r)=some (AV.renL ρ cs))
 (hinj:∀r∈H0.map (·.1),∀q∈H0.map (·.1),ρ r = ρ q→r=q):ConcH (Sx E ι σ.H) (fun r=>ι (ρ r)) H0 w:=by
 refine⟨fun r cs hr=>?_,fun r q cs ds hr hq hne hz1 hz2=>hc.heap.inj (ρ r) (ρ q) _ _ (hH0' r cs hr) (hH0' q ds hq) (fun e=>hne (hinj r (Q3d hr) q (Q3d hq) e)) hz1 hz2⟩
 rcases hc.heap.blk (ρ r) _ (hH0' r cs hr) with⟨h0,he⟩|⟨cur,hh,hs,hl,hcur,hone1⟩
 · refine .inl ⟨h0,?_⟩
   have:=congrArg List.length he
   rw[Q2b] at this
   exact List.eq_nil_of_length_eq_zero this
 · rw[Q2b] at hl
   exact .inr ⟨cur,hh,hs,hl,fun j u x hu hx=>⟨(hcur j u (AV.ren ρ x) hu (by rw[Q2w,hx];rfl)).1.unren x rfl,(hcur j u (AV.ren ρ x) hu (by rw[Q2w,hx];rfl)).2⟩,hone1⟩
theorem Conc.back{E:Env}{ι : Nat→Nat×Nat×Nat}{σ : St}{a:Act}{w:World}(hc:Conc E ι σ a w){H0 H1:List (Nat×List AV)}{res:AV}(ρ : Nat→Nat)(hD0':∀r∈H0.map (·.1),1000≤r)(hH0':∀r cs,hget H0 r=some cs→hget σ.H (ρ r)=some (AV.renL ρ cs))
 (hinj:∀r∈H0.map (·.1)++H1.map (·.1),∀q∈H0.map (·.1)++H1.map (·.1),ρ r = ρ q→r=q) (hnew:Q2d σ ρ H0 H1) (hin:AV.inN (H1.map (·.1)) res=true) (hinH:inH (H1.map (·.1)) H1=true)
 {E':Env} {hG0':GlobOK w (Sx E ι σ.H) (fun r=>ι (ρ r)) (H0.map (·.1))} (hE':E'={w:=w,S:=Sx E ι σ.H,ι:=fun r=>ι (ρ r),D:=H0.map (·.1),hD:=hD0',hG:=hG0'}) {v:Value} {ι':Nat→Nat×Nat×Nat} {w':World} (hres:RV (Sx E' ι' H1) ι' w' v res) (hcH:ConcH (Sx E' ι' H1) ι' H1 w') (hk:Keep E' ι' H1 w') :
 ∃ι2,Conc E ι2 ⟨σ.T,Q0q (Q2k σ.H (renH ρ H0)) (renH ρ H1)⟩ a w'∧RV (Sx E ι2 (Q0q (Q2k σ.H (renH ρ H0)) (renH ρ H1))) ι2 w' v (AV.ren ρ res):=by
 obtain⟨N,hN⟩:∃N,N=H0.map (·.1)++H1.map (·.1):=⟨_,rfl⟩
 rw[←hN] at hinj
 have hN0:∀r∈H0.map (·.1),r∈N:=fun r hr=>by rw[hN];exact List.mem_append_left _ hr
 have hN1:∀r∈H1.map (·.1),r∈N:=fun r hr=>by rw[hN];exact List.mem_append_right _ hr
 have hwE:E'.w=w:=by rw[hE']
 obtain⟨ι2,hι2⟩:∃ι2:Nat→Nat×Nat×Nat,ι2=fun q=>match (H1.map (·.1)).find? (fun r=>ρ r==q) with|some r=>ι' r|none=>ι q:=⟨_,rfl⟩
 have hι1:∀r∈H1.map (·.1),ι2 (ρ r) = ι' r:=fun r hr=>by
  rw[hι2]
  simp only
  cases hfd:(H1.map (·.1)).find? (fun r'=>ρ r' == ρ r) with
  |none=>
   have:=List.find?_eq_none.1 hfd r hr
   simp at this
  |some r'=>
   have h1:=List.find?_some hfd
   have h2:=List.mem_of_find?_eq_some hfd
   have:r'=r:=hinj r' (hN1 r' h2) r (hN1 r hr) (by simpa using h1)
   rw[this]
 have hιn:∀q,(∀r∈H1.map (·.1),ρ r≠q)→ι2 q = ι q:=fun q hq=>by
  rw[hι2]
  simp only
  cases hfd:(H1.map (·.1)).find? (fun r'=>ρ r'==q) with
  |none=>rfl
  |some r'=>exact absurd (by simpa using List.find?_some hfd) (hq r' (List.mem_of_find?_eq_some hfd))
 have hmine:=hk.mine
 have hD':E'.D=H0.map (·.1):=by rw[hE']
 have hEι : ∀r,E'.ι r = ι (ρ r):=fun r=>by rw[hE']
 obtain⟨H2,hH2⟩:∃H2,H2=Q0q (Q2k σ.H (renH ρ H0)) (renH ρ H1):=⟨_,rfl⟩
 rw[←hH2]
 have hget2:∀q ds,hget H2 q=some ds→(∃r∈H1.map (·.1),q = ρ r∧∃cs,hget H1 r=some cs∧ds=AV.renL ρ cs)∨((∀r∈N,ρ r≠q)∧hget σ.H q=some ds):=fun q ds hq=>by
  rw[hH2,Q2u] at hq
  cases h1:hget (renH ρ H1) q with
  |some es=>
   rw[h1] at hq
   cases hq
   obtain⟨r,hr,rfl⟩:=Q7r h1
   rw[Q8c hinj hN1 r (hN1 r hr),Option.map_eq_some_iff] at h1
   obtain⟨cs,hcs,rfl⟩:=h1
   exact .inl ⟨r,hr,rfl,cs,hcs,rfl⟩
  |none=>
   rw[h1] at hq
   simp only at hq
   rw[X2h] at hq
   cases h0:hget (renH ρ H0) q with
   |some es=>rw[h0] at hq;cases hq
   |none=>
    rw[h0] at hq
    refine .inr ⟨fun r hr e=>?_,hq⟩
    subst e
    rw[hN] at hr
    rcases List.mem_append.1 hr with hr|hr
    · rw[Q8c hinj hN0 r (hN0 r hr),Option.map_eq_none_iff] at h0
      obtain⟨cs,hcs⟩:=Q1v hr
      rw[h0] at hcs;cases hcs
    · rw[Q8c hinj hN1 r (hN1 r hr),Option.map_eq_none_iff] at h1
      obtain⟨cs,hcs⟩:=Q1v hr
      rw[h1] at hcs;cases hcs
 have hSz:w.heap.size≤w'.heap.size:=by have:=hk.size;rwa [hwE] at this
 have hblk0:∀b,b<w.heap.size→(∀r∈H0.map (·.1),(ι (ρ r)).2.1≠0→(ι (ρ r)).1≠b)→w'.heap[b]? = w.heap[b]?:=fun b hb hne=>by
  have:=hk.block b (by rw[hwE];exact hb) fun r hr=>by rw[hD'] at hr;rw[hEι];exact hne r hr
  rwa [hwE] at this
 have hMine:∀b,Mine E' b→w.heap.size≤b∨∃q∈H0.map (·.1),(ι (ρ q)).2.1≠0∧(ι (ρ q)).1=b:=fun b hb=>by
  rcases hb with hb|⟨q,hq,hz,hb⟩
  · rw[hwE] at hb;exact .inl hb
  · rw[hD'] at hq;rw[hEι] at hz hb;exact .inr ⟨q,hq,hz,hb⟩
 have hMineE:∀b,Mine E' b→Mine E b:=fun b hb=>by
  rcases hMine b hb with hb|⟨q,hq,hz,hb⟩
  · have:=hc.keep.size;exact .inl (by omega)
  · obtain⟨cs0,hcs0⟩:=Q1v hq
    obtain⟨m1,m2⟩:=hc.keep.mine (ρ q) _ (hH0' q cs0 hcs0)
    by_cases hm:ρ q∈E.D
    · rw[m1 hm] at hz hb;exact .inr ⟨ρ q,hm,hz,hb⟩
    · rw[←hb];exact m2 hm hz
 have hnewge:∀r∈H1.map (·.1),r∉H0.map (·.1)→(ι' r).2.1≠0→Mine E' (ι' r).1:=fun r hr hn hz=>by
  obtain⟨cs,hcs⟩:=Q1v hr
  exact(hmine r cs hcs).2 (by rw[hD'];exact hn) hz
 have hold:∀r∈H1.map (·.1),r∈H0.map (·.1)→ι' r = ι (ρ r):=fun r hr hn=>by
  obtain⟨cs,hcs⟩:=Q1v hr
  rw[(hmine r cs hcs).1 (by rw[hD'];exact hn),hEι]
 have hfresh:∀r∈H1.map (·.1),r∉H0.map (·.1)→σ.free (ρ r)=true∧ρ r<1000:=fun r hr hn=>(X2b hnew r hr).resolve_left hn
 have hSc:∀b,Sx E' ι' H1 b→Sx E ι2 H2 b:=fun b ⟨h1,h2⟩=>by
  refine⟨?_,fun q ds hq hz=>?_⟩
  · rcases h1 with h1|h1
    · rw[hE'] at h1;exact h1.1
    · exact .inr (hMineE b h1)
  · rcases hget2 q ds hq with⟨r,hr,rfl,cs,hcs,rfl⟩|⟨hne,hq'⟩
    · rw[hι1 r hr] at hz ⊢;exact h2 r cs hcs hz
    · rw[hιn q (fun r hr=>hne r (hN1 r hr))] at hz ⊢
      rcases h1 with h1|h1
      · rw[hE'] at h1;exact h1.2 q ds hq' hz
      · rcases hMine b h1 with h1|⟨q0,hq0,hz0,h1⟩
        · have:=(hc.heap.blk q ds hq').lt hz;omega
        · obtain⟨cs0,hcs0⟩:=Q1v hq0
          rw[←h1];exact hc.heap.inj q (ρ q0) _ _ hq' (hH0' q0 cs0 hcs0) (fun e=>hne q0 (hN0 q0 hq0) e.symm) hz hz0
 have hSo:∀b,Sx E ι σ.H b→b<w.heap.size→Sx E ι2 H2 b∧w'.heap[b]? = w.heap[b]?:=fun b hb hlt=>by
  refine⟨⟨hb.1,fun q ds hq hz=>?_⟩,hblk0 b hlt fun r hr hz=>?_⟩
  · rcases hget2 q ds hq with⟨r,hr,rfl,cs,hcs,rfl⟩|⟨hne,hq'⟩
    · rw[hι1 r hr] at hz ⊢
      by_cases hr0:r∈H0.map (·.1)
      · rw[hold r hr hr0] at hz ⊢
        obtain⟨cs0,hcs0⟩:=Q1v hr0
        exact hb.2 (ρ r) _ (hH0' r cs0 hcs0) hz
      · rcases hMine _ (hnewge r hr hr0 hz) with h1|⟨q0,hq0,hz0,h1⟩
        · omega
        · obtain⟨cs0,hcs0⟩:=Q1v hq0
          rw[←h1];exact hb.2 (ρ q0) _ (hH0' q0 cs0 hcs0) hz0
    · rw[hιn q (fun r hr=>hne r (hN1 r hr))] at hz ⊢
      exact hb.2 q ds hq' hz
  · obtain⟨cs0,hcs0⟩:=Q1v hr
    exact hb.2 (ρ r) _ (hH0' r cs0 hcs0) hz
 have hRc:∀{v:Value} {x:AV},RV (Sx E' ι' H1) ι' w' v x→AV.inN (H1.map (·.1)) x=true→RV (Sx E ι2 H2) ι2 w' v (AV.ren ρ x):=fun hv hx=>
  (hv.mono (S':=Sx E ι2 H2) (fun b hb _=>⟨hSc b hb,rfl⟩) fun _ _=>rfl).reren hι1 hx
 have hRo:∀{v:Value} {y:AV},RV (Sx E ι σ.H) ι w v y→(∀r∈H1.map (·.1),r∉H0.map (·.1)→AV.refs (ρ r) y=false)→RV (Sx E ι2 H2) ι2 w' v y:=fun hv hx=>
  hv.mono hSo fun q hq=>by
   by_cases hm:∃r∈H1.map (·.1),ρ r=q
   · obtain⟨r,hr,rfl⟩:=hm
     by_cases hr0:r∈H0.map (·.1)
     · rw[hι1 r hr,hold r hr hr0]
     · rw[hx r hr hr0] at hq;cases hq
   · exact hιn q fun r hr e=>hm ⟨r,hr,e⟩
 suffices hcn:Conc E ι2 ⟨σ.T,H2⟩ a w' from⟨ι2,hcn,hRc hres hin⟩
 refine⟨hc.defers.mono hSo,hc.size,fun i=>?_,⟨fun q ds hq=>?_,fun q q' ds es hq hq' hne hz1 hz2=>?_⟩,⟨?_,?_,?_,?_,fun b hb hbD=>?_,fun q ds hq=>?_⟩⟩
 · refine hRo (hc.tmp i) fun r hr hr0=>?_
   have hfr:=(hfresh r hr hr0).1
   unfold St.free at hfr
   simp only[Bool.and_eq_true,Bool.not_eq_true'] at hfr
   rw[List.getD_eq_getElem?_getD]
   cases hi:σ.T[i]? with
   |none=>rfl
   |some x=>exact Q3b hfr.1 i x hi
 · rcases hget2 q ds hq with⟨r,hr,rfl,cs,hcs,rfl⟩|⟨hne,hq'⟩
   · rcases hcH.blk r cs hcs with⟨h0,rfl⟩|⟨cur,hh,hs,hl,hcur,hone1⟩
     · exact .inl ⟨by rw[hι1 r hr];exact h0,rfl⟩
     · refine .inr ⟨cur,by rw[hι1 r hr];exact hh,by rw[hι1 r hr];exact hs,by rw[Q2b];exact hl,fun j u y hu hy=>?_,hone1⟩
       rw[Q2w,Option.map_eq_some_iff] at hy
       obtain⟨x,hx,rfl⟩:=hy
       exact⟨hRc (hcur j u x hu hx).1 (Q3x (X3o hinH r cs hcs) j x hx),(hcur j u x hu hx).2⟩
   · have eq:=hιn q fun r hr=>hne r (hN1 r hr)
     rcases hc.heap.blk q ds hq' with⟨h0,he⟩|⟨cur,hh,hs,hl,hcur,hone1⟩
     · exact .inl ⟨by rw[eq];exact h0,he⟩
     · by_cases hz:(ι q).2.1=0
       · exact .inl ⟨by rw[eq];exact hz,List.eq_nil_of_length_eq_zero (by omega)⟩
       · have hlt:=(hc.heap.blk q ds hq').lt hz
         have hsame:=hblk0 (ι q).1 hlt fun r hr hz'=>by
          obtain⟨cs0,hcs0⟩:=Q1v hr
          exact hc.heap.inj (ρ r) q _ _ (hH0' r cs0 hcs0) hq' (hne r (hN0 r hr)) hz' hz
         refine .inr ⟨cur,by rw[eq,hsame];exact hh,by rw[eq];exact hs,hl,fun j u y hu hy=>⟨hRo (hcur j u y hu hy).1 fun r hr hr0=>?_,(hcur j u y hu hy).2⟩,hone1⟩
         have hfr:=(hfresh r hr hr0).1
         unfold St.free at hfr
         simp only[Bool.and_eq_true,Bool.not_eq_true'] at hfr
         exact Q3b (Q6x hfr.2 q ds hq').2 j y hy
 · rcases hget2 q ds hq with⟨r,hr,rfl,cs,hcs,rfl⟩|⟨hn1,hq1⟩
   · rcases hget2 q' es hq' with⟨r',hr',rfl,cs',hcs',rfl⟩|⟨hn2,hq2⟩
     · rw[hι1 r hr] at hz1 ⊢
       rw[hι1 r' hr'] at hz2 ⊢
       exact hcH.inj r r' cs cs' hcs hcs' (fun e=>hne (by rw[e])) hz1 hz2
     · have eq2:=hιn q' fun r hr=>hn2 r (hN1 r hr)
       rw[hι1 r hr] at hz1 ⊢
       rw[eq2] at hz2 ⊢
       by_cases hr0:r∈H0.map (·.1)
       · rw[hold r hr hr0] at hz1 ⊢
         obtain⟨cs0,hcs0⟩:=Q1v hr0
         exact hc.heap.inj (ρ r) q' _ _ (hH0' r cs0 hcs0) hq2 (hn2 r (hN0 r hr0)) hz1 hz2
       · rcases hMine _ (hnewge r hr hr0 hz1) with h1|⟨q0,hq0,hz0,h1⟩
         · have:=(hc.heap.blk q' es hq2).lt hz2
           omega
         · obtain⟨cs0,hcs0⟩:=Q1v hq0
           rw[←h1];exact hc.heap.inj (ρ q0) q' _ _ (hH0' q0 cs0 hcs0) hq2 (hn2 q0 (hN0 q0 hq0)) hz0 hz2
   · have eq1:=hιn q fun r hr=>hn1 r (hN1 r hr)
     rw[eq1] at hz1 ⊢
     rcases hget2 q' es hq' with⟨r',hr',rfl,cs',hcs',rfl⟩|⟨hn2,hq2⟩
     · rw[hι1 r' hr'] at hz2 ⊢
       by_cases hr0:r'∈H0.map (·.1)
       · rw[hold r' hr' hr0] at hz2 ⊢
         obtain⟨cs0,hcs0⟩:=Q1v hr0
         exact hc.heap.inj q (ρ r') _ _ hq1 (hH0' r' cs0 hcs0) (fun e=>hn1 r' (hN0 r' hr0) e.symm) hz1 hz2
       · rcases hMine _ (hnewge r' hr' hr0 hz2) with h1|⟨q0,hq0,hz0,h1⟩
         · have:=(hc.heap.blk q ds hq1).lt hz1
           omega
         · obtain⟨cs0,hcs0⟩:=Q1v hq0
           rw[←h1];exact hc.heap.inj q (ρ q0) _ _ hq1 (hH0' q0 cs0 hcs0) (fun e=>hn1 q0 (hN0 q0 hq0) e.symm) hz1 hz0
     · have eq2:=hιn q' fun r hr=>hn2 r (hN1 r hr)
       rw[eq2] at hz2 ⊢
       exact hc.heap.inj q q' ds es hq1 hq2 hne hz1 hz2
 · have:=hk.os;rw[hwE] at this;exact this.trans hc.keep.os
 · have:=hk.tape;rw[hwE] at this;exact this.trans hc.keep.tape
 · have:=hk.output;rw[hwE] at this;exact this.trans hc.keep.output
 · have:=hc.keep.size;omega
 · have hs:=hc.keep.size
   rw[hblk0 b (by omega) fun r hr hz=>?_]
   · exact hc.keep.block b hb hbD
   · obtain⟨cs0,hcs0⟩:=Q1v hr
     obtain⟨m1,m2⟩:=hc.keep.mine (ρ r) _ (hH0' r cs0 hcs0)
     by_cases hm:ρ r∈E.D
     · rw[m1 hm] at hz ⊢;exact hbD (ρ r) hm hz
     · rcases m2 hm hz with h1|⟨q0,hq0,hz0,h1⟩
       · omega
       · intro e;exact hbD q0 hq0 hz0 (h1.trans e)
 · rcases hget2 q ds hq with⟨r,hr,rfl,cs,hcs,rfl⟩|⟨hne,hq'⟩
   · rw[hι1 r hr]
     by_cases hr0:r∈H0.map (·.1)
     · rw[hold r hr hr0]
       obtain⟨cs0,hcs0⟩:=Q1v hr0
       exact hc.keep.mine (ρ r) _ (hH0' r cs0 hcs0)
     · refine⟨fun hm=>?_,fun _ hz=>?_⟩
       · have:=E.hD _ hm
         have:=(hfresh r hr hr0).2
         omega
       · exact hMineE _ (hnewge r hr hr0 hz)
   · rw[hιn q fun r hr=>hne r (hN1 r hr)]
     exact hc.keep.mine q ds hq'
theorem X0o{P:Program}{o:Oper}{σ : St}{K:St→Prop}{f:FuncId}{fn:Func}{cargs:List AV}{H0 H1:List (Nat×List AV)}{res:AV}(hF:Fn P f cargs H0 res H1)(ρ : Nat→Nat)
 {fo:Operand} {cas:Array Operand} {ts:Array TypeId} {caps:List AV} (ho:o.op = .call {callee:=.value fo,args:=cas,argTypes:=ts}) (hfo:Q0v fo=true) (has:cas.toList.all Q0v=true) (hf:σ.ev fo = .fn f caps)
 (hfn:P.funcs[f]? = some fn) (hname:(fn.name == "runtime.NumGoroutine")=false) (hbody:fn.body.isNone=false)
 (hD0:H0.all (fun x=>decide (1000≤x.1))=true) (hargs:Q1t ρ cargs (cas.toList.map σ.ev++caps)) (hH0:∀r∈H0.map (·.1),hget σ.H (ρ r)=(hget H0 r).map (AV.renL ρ)) (hinj:∀r∈H0.map (·.1)++H1.map (·.1),∀q∈H0.map (·.1)++H1.map (·.1),ρ r = ρ q→r=q)
 (hnew:Q2d σ ρ H0 H1) (hin:AV.inN (H1.map (·.1)) res=true) (hinH:inH (H1.map (·.1)) H1=true)
 (hK:K ((St.mk σ.T (Q0q (Q2k σ.H (renH ρ H0)) (renH ρ H1))).put o.dst (AV.ren ρ res))):OpA P o σ K:=by
 intro E ι a w hc K' Q hK'
 have hfv:=hc.ev fo hfo
 rw[hf] at hfv
 generalize hfe:a.eval fo=fv at hfv
 cases hfv with
 |fn _ us _ hul hus=>
  have hSx:∀b,Sx E ι σ.H b→b<w.heap.size→Sx E ι σ.H b∧w.heap[b]? = w.heap[b]?:=fun b hb _=>⟨hb,rfl⟩
  have hD0':∀r∈H0.map (·.1),1000≤r:=fun r hr=>by
   obtain⟨x,hx,rfl⟩:=List.mem_map.1 hr
   have:=List.all_eq_true.1 hD0 x hx
   simpa using this
  have hvs:∀(j:Nat) (v:Value) (y:AV),(cas.toList.map a.eval++us)[j]? = some v→(cas.toList.map σ.ev++caps)[j]? = some y→RV (Sx E ι σ.H) ι w v y:=fun j v y hv hy=>by
   rw[List.getElem?_append] at hv hy
   simp only[List.length_map] at hv hy
   split at hv
   · rename_i hj
     rw[if_pos hj] at hy
     rw[List.getElem?_map,Option.map_eq_some_iff] at hv hy
     obtain⟨x1,hx1,rfl⟩:=hv
     obtain⟨x2,hx2,rfl⟩:=hy
     rw[hx1] at hx2;cases hx2
     exact hc.ev x1 (List.all_eq_true.1 has x1 (List.mem_of_getElem? hx1))
   · rename_i hj
     rw[if_neg hj] at hy
     exact hus _ v y hv hy
  obtain⟨hal,hag⟩:=Q3v hargs
  have hlen:(cas.toList.map a.eval++us).length=cargs.length:=by rw[hal];simp[hul]
  have hH0':∀r cs,hget H0 r=some cs→hget σ.H (ρ r)=some (AV.renL ρ cs):=fun r cs hr=>by rw[hH0 r (Q3d hr),hr];rfl
  obtain⟨E',hE'⟩:∃E':Env,E'={w:=w,S:=Sx E ι σ.H,ι:=fun r=>ι (ρ r),D:=H0.map (·.1),hD:=hD0',hG:=hc.glob hH0'}:=⟨_,rfl⟩
  have hconcH:ConcH E'.S E'.ι H0 E'.w:=by
   subst hE'
   exact hc.enter ρ hH0' fun r hr q hq=>hinj r (List.mem_append_left _ hr) q (List.mem_append_left _ hq)
  have hcall:=hF E' (cas.toList.map a.eval++us) (by rw[hE']) (fun r cs b hr hz hS=>by
   subst hE'
   exact hS.2 (ρ r) _ (hH0' r cs hr) hz) hconcH hlen (fun j v x hv hx=>by
   subst hE'
   have hlt:=(List.getElem?_eq_some_iff.1 hv).1
   have hy:(cas.toList.map σ.ev++caps)[j]? = some ((cas.toList.map σ.ev++caps)[j]'(by rw[←hal,←hlen];exact hlt)):=List.getElem?_eq_getElem _
   rcases hag j x _ hx hy with rfl|e
   · exact .any _
   · exact(hvs j v _ hv hy).unren x e)
  have hwE:E'.w=w:=by rw[hE']
  rw[hwE] at hcall
  have hrun:(execOp a.eval o).run P w = .ok (.enter f (cas.toList.map a.eval++us).toArray) w:=by
   have h1:cas.map a.eval=(cas.toList.map a.eval).toArray:=by rw[←Array.toList_map]
   have hen:=Q5h hfn hname hbody ((cas.toList.map a.eval).toArray++us.toArray) w
   simp only[List.append_toArray] at hen
   simp only[execOp,ho,resolve,hfe,Deferred.ofValue,h1,Sem.run_bind,Sem.run_pure,Result.andThen_ok,invoke,Array.empty_append,List.append_toArray,List.nil_append,hen]
  unfold Oper.wp
  rw[hrun,Oper.upon_enter]
  refine hcall.mono fun e w'=>?_
  rintro ⟨v,ι',rfl,hres,hcH,hk⟩
  simp only
  obtain⟨ι2,hcn,hrv⟩:=hc.back ρ hD0' hH0' hinj hnew hin hinH hE' hres hcH hk
  exact hK' ι2 _ _ _ hK (hcn.put o.dst hrv)
section
variable {P:Program} {ops:Array Oper} {o:Oper} {rest:List Oper} {σ : St} {K:St→Prop} {Φ : Exit→St→Prop}
theorem Q0i(h:K σ):evL P ops [] σ K:=h
theorem Q0g(hg:o.guard=none)(h:∀K',(∀σ',evL P ops rest σ' K→K' σ')→evO P o σ K'):evL P ops (o::rest) σ K:=by
 unfold evL
 rw[hg]
 exact Q3q (h _ fun _ h=>h)
theorem Q3t(hg:o.guard=none)(h:∀K',(∀σ',evL P ops rest σ' K→K' σ')→OpA P o σ K'):evL P ops (o::rest) σ K:=by
 unfold evL
 rw[hg]
 exact h _ fun _ h=>h
theorem Q1l{j d:Nat}{want b:Bool}(hg:o.guard=some (j,want))(hd:(ops[j]?).bind (·.dst)=some d)(hb:σ.T.getD d .any = .c (.v (.bool b)))
 (h1:b=want→∀K',(∀σ',evL P ops rest σ' K→K' σ')→evO P o (σ.put (some d) (.c (.v (.bool want)))) K')
 (h2:b = !want→evL P ops rest ((σ.put (some d) (.c (.v (.bool !want)))).put o.dst (.tup [])) K):evL P ops (o::rest) σ K:=by
 unfold evL
 simp only[hg,hd,hb]
 exact⟨fun e=>Q3q (h1 e _ fun _ h=>h),h2⟩
theorem Q1e{j d:Nat}{want:Bool}(hg:o.guard=some (j,want))(hd:(ops[j]?).bind (·.dst)=some d)(hb:σ.T.getD d .any = .tup [])(h:evL P ops rest (σ.put o.dst (.tup [])) K):evL P ops (o::rest) σ K:=by
 unfold evL
 simp only[hg,hd,hb]
 exact h
theorem Q0b{id:Nat}{l:List Oper}(h:∀K,(∀σ',Φ .normal σ'→K σ')→evL P l.toArray l σ K):evC P (.region id l.toArray false) σ Φ:=by
 unfold evC
 exact h _ fun _ h=>h
theorem Q0h{x y:Code}(h:∀Ψ : Exit→St→Prop,(∀σ',evC P y σ' Φ→Ψ .normal σ')→(∀ex σ',ex≠.normal→Φ ex σ'→Ψ ex σ')→evC P x σ Ψ):evC P (.seq x y) σ Φ:=by
 unfold evC
 refine h _ (fun _ h=>h) fun ex σ' hne h=>?_
 cases ex<;>first|exact absurd rfl hne|exact h
theorem Q0c{id:Nat}{x:Code}(h:∀Ψ : Exit→St→Prop,(∀σ',Φ .normal σ'→Ψ (.exit id) σ')→(∀ex σ',(∀j,ex = .exit j→j≠id)→Φ ex σ'→Ψ ex σ')→evC P x σ Ψ):evC P (.block id x) σ Φ:=by
 unfold evC
 refine h _ (fun _ h=>?_) fun ex σ' hne h=>?_
 · simp only[if_true];exact h
 · cases ex<;>first|exact h|(simp only;rw[if_neg (hne _ rfl)];exact h)
theorem Q0f{c:Operand}{x y:Code}{t:Bool}(hc:Q0v c=true)(ht:σ.ev c = .c (.v (.bool t)))(h1:t=true→evC P x σ Φ)(h2:t=false→evC P y σ Φ):evC P (.cond c x y) σ Φ:=by
 unfold evC
 rw[ht]
 exact⟨hc,h1,h2⟩
theorem Q0e{id:Nat}(h:Φ (.exit id) σ):evC P (.exit id) σ Φ:=h
theorem Q0j(h:Φ .ret σ):evC P .ret σ Φ:=h
theorem Q0d(h:Φ .normal σ):evC P .skip σ Φ:=h
theorem Q2v{c:Code}{α : Type}(I:α→St)(μ : α→Nat)(x0:α)(h0:σ.le (I x0))
 (round:∀x,∀Ψ : Exit→St→Prop,(∀σ' y,μ y < μ x→σ'.le (I y)→Ψ .normal σ')→(∀ex σ',ex≠.normal→Φ ex σ'→Ψ ex σ')→evC P c (I x) Ψ):evC P (.loop c) σ Φ:=by
 unfold evC
 refine AW.loop I μ x0 h0 fun x=>round x _ (fun σ' y hlt hle=>⟨y,hlt,hle⟩) fun ex σ' hne h=>?_
 cases ex<;>first|exact absurd rfl hne|exact h
end
mutual
theorem X0d(ρ : Nat→Nat):∀(x:AV),AV.inN [] x=true→AV.ren ρ x=x
 |.any,_=>rfl
 |.c _,_=>rfl
 |.agg cs,h=>by unfold AV.ren;rw[Q4m ρ cs (by unfold AV.inN at h;exact h)]
 |.tup cs,h=>by unfold AV.ren;rw[Q4m ρ cs (by unfold AV.inN at h;exact h)]
 |.ptr r off,h=>by simp[AV.inN] at h
 |.row r e sz n,h=>by simp[AV.inN] at h
 |.cut r e sz lo n c ex,h=>by simp[AV.inN] at h
 |.ep _,_=>rfl
 |.fn f cs,h=>by unfold AV.ren;rw[Q4m ρ cs (by unfold AV.inN at h;exact h)]
 |.fnb f cs,h=>by unfold AV.ren;rw[Q4m ρ cs (by unfold AV.inN at h;exact h)]
 |.amp b ks cs,h=>by unfold AV.ren;rw[Q4m ρ cs (by unfold AV.inN at h;exact h)]
theorem Q4m(ρ : Nat→Nat):∀(l:List AV),AV.inNL [] l=true→AV.renL ρ l=l
 |[],_=>rfl
 |x::l,h=>by
  unfold AV.inNL at h
  rw[Bool.and_eq_true] at h
  unfold AV.renL
  rw[X0d ρ x h.1,Q4m ρ l h.2]
end
theorem Q9c(ρ : Nat→Nat):∀{l:List AV},AV.inNL [] l=true→Q1t ρ l l
 |[],_=>trivial
 |x::l,h=>by
  unfold AV.inNL at h
  rw[Bool.and_eq_true] at h
  exact⟨.inr (X0d ρ x h.1).symm,Q9c ρ h.2⟩
section
variable {P:Program} {o:Oper} {σ : St} {K:St→Prop} {f:FuncId} {fn:Func} {cargs:List AV} {res:AV} {fo:Operand} {cas:Array Operand} {ts:Array TypeId} {caps:List AV}
theorem X2a(hF:Fn P f cargs [] res [])(ho:o.op = .call {callee:=.value fo,args:=cas,argTypes:=ts})(hfo:Q0v fo=true)(has:cas.toList.all Q0v=true)(hf:σ.ev fo = .fn f caps)
 (hfn:P.funcs[f]? = some fn) (hname:(fn.name == "runtime.NumGoroutine")=false) (hbody:fn.body.isNone=false)
 (hargs:cas.toList.map σ.ev++caps=cargs) (hno:AV.inNL [] cargs=true) (hin:AV.inN [] res=true)
 (hK:K (σ.put o.dst res)):OpA P o σ K:=
 X0o hF id ho hfo has hf hfn hname hbody rfl (by rw[hargs];exact Q9c id hno) (fun r hr=>by cases hr) (fun r hr=>by cases hr) trivial hin rfl (by
  rw[X0d id res hin]
  exact hK)
end
mutual
def AV.frz(r:Nat)(pcs:List PV):AV→AV
 |.any=>.any
 |.c x=>.c x
 |.agg cs=>.agg (AV.frzL r pcs cs)
 |.tup cs=>.tup (AV.frzL r pcs cs)
 |.ptr q off=>if q=r then(if off<pcs.length then .ep (pcs.drop off) else .any) else .ptr q off
 |.row q e sz n=>if q=r then(if n*sz=pcs.length then .c (.sl false sz n pcs) else .any) else .row q e sz n
 |.cut q e sz lo n m ex=>if q=r then(if (lo+n)*sz≤pcs.length then .c (.sl false sz n ((pcs.drop (lo*sz)).take (n*sz))) else .any) else .cut q e sz lo n m ex
 |.ep cs=>.ep cs
 |.fn f cs=>.fn f (AV.frzL r pcs cs)
 |.fnb f cs=>.fnb f (AV.frzL r pcs cs)
 |.amp b ks cs=>.amp b ks (AV.frzL r pcs cs)
def AV.frzL(r:Nat)(pcs:List PV):List AV→List AV
 |[]=>[]
 |x::l=>AV.frz r pcs x::AV.frzL r pcs l
end
theorem Q4k(r:Nat)(pcs:List PV):∀(l:List AV) (j:Nat),(AV.frzL r pcs l)[j]? = (l[j]?).map (AV.frz r pcs)
 |[],j=>by simp[AV.frzL]
 |x::l,0=>by simp[AV.frzL]
 |x::l,j+1=>by simpa [AV.frzL] using Q4k r pcs l j
theorem Q3m(r:Nat)(pcs:List PV)(l:List AV):(AV.frzL r pcs l).length=l.length:=by
 induction l with
 |nil=>rfl
 |cons x l ih=>simp[AV.frzL,ih]
@[simp] theorem frzL_map (r:Nat) (pcs l:List PV):AV.frzL r pcs (l.map .c)=l.map .c:=by
  induction l with
  |nil=>rfl
  |cons x l ih=>simp[AV.frzL,AV.frz,ih]
def frzH(r:Nat)(pcs:List PV):List (Nat×List AV)→List (Nat×List AV)
 |[]=>[]
 |(k,cs)::H=>if k=r then frzH r pcs H else(k,AV.frzL r pcs cs)::frzH r pcs H
theorem Q4x(r:Nat)(pcs:List PV):∀(H:List (Nat×List AV)) (q:Nat),hget (frzH r pcs H) q=if q=r then none else(hget H q).map (AV.frzL r pcs)
 |[],q=>by simp[frzH,hget]
 |(k,cs)::H,q=>by
  unfold frzH
  by_cases hk:k=r
  · rw[if_pos hk,Q4x r pcs H q,Q3g]
    by_cases hq:q=r
    · rw[if_pos hq,if_pos hq]
    · rw[if_neg hq,if_neg hq,if_neg (by omega)]
  · rw[if_neg hk,Q3g,Q3g,Q4x r pcs H q]
    by_cases hkq:k=q
    · subst hkq;rw[if_pos rfl,if_neg hk,if_pos rfl];rfl
    · rw[if_neg hkq,if_neg hkq]
def St.frz(σ : St)(r:Nat)(pcs:List PV):St:=⟨AV.frzL r pcs σ.T,frzH r pcs σ.H⟩
section
variable {E:Env} {ι : Nat→Nat×Nat×Nat} {σ : St} {a:Act} {w:World}
theorem RV.frz{S S':Nat→Prop}{r:Nat}{pcs:List PV}(hS:∀b,S b→b<w.heap.size→S' b)(hb:Blk S ι w r (pcs.map .c))(hr:(ι r).2.1≠0→S' (ι r).1){v:Value}{x:AV}(h:RV S ι w v x):RV S' ι w v (AV.frz r pcs x):=by
 have hS2:∀b,S b→b<w.heap.size→S' b∧w.heap[b]? = w.heap[b]?:=fun b h1 h2=>⟨hS b h1 h2,rfl⟩
 induction h with
 |any v=>exact .any _
 |c v p hp=>exact .c _ _ (hp.mono hS2)
 |agg us cs hl h1 _ ih=>
  refine .agg us _ (by rw[Q3m];exact hl) h1 fun j u y hu hy=>?_
  rw[Q4k,Option.map_eq_some_iff] at hy
  obtain⟨x,hx',rfl⟩:=hy
  exact ih j u x hu hx'
 |tup us cs hl _ ih=>
  refine .tup us _ (by rw[Q3m];exact hl) fun j u y hu hy=>?_
  rw[Q4k,Option.map_eq_some_iff] at hy
  obtain⟨x,hx',rfl⟩:=hy
  exact ih j u x hu hx'
 |ptr q off=>
  unfold AV.frz
  split
  · rename_i e';subst e'
    split
    · rename_i hn
      rcases hb with⟨_,hz⟩|⟨cur,hh,hs,hl,hc,hone1⟩
      · rw[List.map_eq_nil_iff] at hz;subst hz;simp at hn
      · simp only[List.length_map] at hl
        refine .ep (ι q).1 off ((cur.toList.take pcs.length).drop off) (pcs.drop off) (by simp;omega) (fun h=>?_) (hr (by omega)) (fun j u hu=>?_) fun j u x hu hx=>?_
        · have:=congrArg List.length h
          simp at this;omega
        · rw[List.getElem?_drop,List.getElem?_take] at hu
          split at hu
          · simp only[World.cell?,hh];simpa using hu
          · cases hu
        · rw[List.getElem?_drop,List.getElem?_take] at hu
          rw[List.getElem?_drop] at hx
          split at hu
          · have:=(hc (off+j) u (.c x) (by simpa using hu) (by simp[hx])).1
            cases this with
            |c _ _ hp=>exact hp.mono hS2
          · cases hu
    · exact .any _
  · exact .ptr q off
 |row q e sz n c h1 h2 h3 h4 h0=>
  unfold AV.frz
  split
  · rename_i e';subst e'
    split
    · rename_i hn
      rcases hb with⟨hz,_⟩|⟨cur,hh,hs,hl,hc,hone1⟩
      · exact absurd hz h0
      · simp only[List.length_map] at hl
        refine .c _ _ (.sl false sz _ n c (cur.toList.take pcs.length) pcs h1 h2 (fun e=>by cases e) (fun e=>by cases e) (by simp;omega) hn.symm (fun _=>⟨_,_,rfl,hr h0,fun j u hu=>?_⟩) fun j u x hu hx=>?_)
        · rw[List.getElem?_take] at hu
          split at hu
          · simp only[World.cell?,hh,Nat.zero_add];simpa using hu
          · cases hu
        · rw[List.getElem?_take] at hu
          split at hu
          · have:=(hc j u (.c x) (by simpa using hu) (by simp[hx])).1
            cases this with
            |c _ _ hp=>exact hp.mono hS2
          · cases hu
    · exact .any _
  · exact .row q e sz n c h1 h2 h3 h4 h0
 |rnil A q e sz hz=>
  unfold AV.frz
  split
  · rename_i e';subst e'
    split
    · rename_i hn
      have:pcs=[]:=List.eq_nil_of_length_eq_zero (by omega)
      subst this
      exact .c _ _ (.sl false sz A 0 0 [] [] (Nat.le_refl _) (Nat.zero_le _) (fun _=>rfl) (fun e=>by cases e) rfl hn.symm (fun h=>absurd rfl h) fun j u x hu=>by cases hu)
    · exact .any _
  · exact .rnil A q e sz hz
 |cut q e sz lo n c ex h1 h2 h3 hx4 h4 h0=>
  unfold AV.frz
  split
  · rename_i e';subst e'
    split
    · rename_i hn
      rcases hb with⟨hz,_⟩|⟨cur,hh,hs,hl,hc,hone1⟩
      · exact absurd hz h0
      · simp only[List.length_map] at hl
        have e1:(lo+n)*sz=lo*sz+n*sz:=Nat.add_mul _ _ _
        refine .c _ _ (.sl false sz _ n c ((cur.toList.drop (lo*sz)).take (n*sz)) _ h1 h2 (fun e=>by cases e) (fun e=>by cases e) (by simp;omega) (by simp;omega) (fun _=>⟨_,_,rfl,hr h0,fun j u hu=>?_⟩) fun j u x hu hx=>?_)
        · rw[List.getElem?_take] at hu
          split at hu
          · simp only[World.cell?,hh];rw[List.getElem?_drop] at hu;simpa using hu
          · cases hu
        · rw[List.getElem?_take] at hu hx
          split at hu
          · rename_i hj
            rw[if_pos hj] at hx
            rw[List.getElem?_drop] at hu hx
            have:=(hc (lo*sz+j) u (.c x) (by simpa using hu) (by simp[hx])).1
            cases this with
            |c _ _ hp=>exact hp.mono hS2
          · cases hu
    · exact .any _
  · exact .cut q e sz lo n c ex h1 h2 h3 hx4 h4 h0
 |cnil A q e sz lo ex hz=>
  unfold AV.frz
  split
  · split
    · simp only[Nat.zero_mul,List.take_zero]
      exact .c _ _ (.sl false sz A 0 0 [] [] (Nat.le_refl _) (Nat.zero_le _) (fun _=>rfl) (fun e=>by cases e) rfl (by simp) (fun h=>absurd rfl h) fun j u x hu=>by cases hu)
    · exact .any _
  · exact .cnil A q e sz lo ex hz
 |ep b o us cs hl hne hb' h4 h5=>
  obtain⟨u0,rest,hu0⟩:=List.exists_cons_of_ne_nil hne
  have hlt:=block_lt_of_cell (h4 0 u0 (by rw[hu0];rfl))
  exact .ep b o us cs hl hne (hS b hb' hlt) h4 fun j u x hu hx=>(h5 j u x hu hx).mono hS2
 |fn f us cs hl _ ih=>
  refine .fn f us _ (by rw[Q3m];exact hl) fun j u y hu hy=>?_
  rw[Q4k,Option.map_eq_some_iff] at hy
  obtain⟨x,hx',rfl⟩:=hy
  exact ih j u x hu hx'
 |fnb f us cs hl _ ih=>
  refine .fnb f us _ (by rw[Q3m];exact hl) fun j u y hu hy=>?_
  rw[Q4k,Option.map_eq_some_iff] at hy
  obtain⟨x,hx',rfl⟩:=hy
  exact ih j u x hu hx'
 |amp b X clk ks us cs hb' hh hk hu hl _ ih=>
  refine .amp b X clk ks us _ (hS b hb' (Array.getElem?_eq_some_iff.1 hh).1) hh hk hu (by rw[Q3m];exact hl) fun j u y hu hy=>?_
  rw[Q4k,Option.map_eq_some_iff] at hy
  obtain⟨x,hx',rfl⟩:=hy
  exact ih j u x hu hx'
theorem Conc.frz(h:Conc E ι σ a w){r:Nat}{pcs:List PV}(hr:hget σ.H r=some (pcs.map .c)):Conc E ι (σ.frz r pcs) a w:=by
 have hblk:=h.heap.blk r _ hr
 have hS:∀b,Sx E ι σ.H b→b<w.heap.size→Sx E ι (frzH r pcs σ.H) b:=fun b ⟨h1,h2⟩ _=>⟨h1,fun q ds hq hz=>by
  rw[Q4x] at hq
  split at hq
  · cases hq
  · rw[Option.map_eq_some_iff] at hq
    obtain⟨cs,hcs,_⟩:=hq
    exact h2 q cs hcs hz⟩
 have hrS:(ι r).2.1≠0→Sx E ι (frzH r pcs σ.H) (ι r).1:=fun hz=>by
  refine⟨.inr (by
   by_cases hm:r∈E.D
   · have m1:=(h.keep.mine r _ hr).1 hm
     rw[m1] at hz ⊢;exact .inr ⟨r,hm,hz,rfl⟩
   · exact(h.keep.mine r _ hr).2 hm hz),fun q ds hq hz'=>?_⟩
  rw[Q4x] at hq
  split at hq
  · cases hq
  · rename_i hne
    rw[Option.map_eq_some_iff] at hq
    obtain⟨cs,hcs,_⟩:=hq
    exact h.heap.inj q r _ _ hcs hr hne hz' hz
 have hR:∀{v:Value} {x:AV},RV (Sx E ι σ.H) ι w v x→RV (Sx E ι (frzH r pcs σ.H)) ι w v (AV.frz r pcs x):=fun hv=>hv.frz hS hblk hrS
 refine⟨h.defers.mono fun b h1 h2=>⟨hS b h1 h2,rfl⟩,by show _=(AV.frzL r pcs σ.T).length;rw[Q3m];exact h.size,fun i=>?_,⟨fun q ds hq=>?_,fun q q' ds es hq hq' hne hz1 hz2=>?_⟩,⟨h.keep.os,h.keep.tape,h.keep.output,h.keep.size,h.keep.block,fun q ds hq=>?_⟩⟩
 · show RV _ ι w _ ((AV.frzL r pcs σ.T).getD i .any)
   have:(AV.frzL r pcs σ.T).getD i .any=AV.frz r pcs (σ.T.getD i .any):=by
    rw[List.getD_eq_getElem?_getD,List.getD_eq_getElem?_getD,Q4k]
    cases σ.T[i]? <;> rfl
   rw[this]
   exact hR (h.tmp i)
 · have hq1:hget (frzH r pcs σ.H) q=some ds:=hq
   rw[Q4x] at hq1
   split at hq1
   · cases hq1
   · rw[Option.map_eq_some_iff] at hq1
     obtain⟨cs,hcs,rfl⟩:=hq1
     rcases h.heap.blk q cs hcs with⟨h0,rfl⟩|⟨cur,hh,hs,hl,hc,hone1⟩
     · exact .inl ⟨h0,rfl⟩
     · refine .inr ⟨cur,hh,hs,by rw[Q3m];exact hl,fun j u y hu hy=>?_,hone1⟩
       rw[Q4k,Option.map_eq_some_iff] at hy
       obtain⟨x,hx,rfl⟩:=hy
       exact⟨hR (hc j u x hu hx).1,(hc j u x hu hx).2⟩
 · have hq1:hget (frzH r pcs σ.H) q=some ds:=hq
   have hq2:hget (frzH r pcs σ.H) q'=some es:=hq'
   rw[Q4x] at hq1 hq2
   split at hq1
   · cases hq1
   · split at hq2
     · cases hq2
     · rw[Option.map_eq_some_iff] at hq1 hq2
       obtain⟨cs,hcs,_⟩:=hq1
       obtain⟨cs',hcs',_⟩:=hq2
       exact h.heap.inj q q' cs cs' hcs hcs' hne hz1 hz2
 · have hq1:hget (frzH r pcs σ.H) q=some ds:=hq
   rw[Q4x] at hq1
   split at hq1
   · cases hq1
   · rw[Option.map_eq_some_iff] at hq1
     obtain⟨cs,hcs,_⟩:=hq1
     exact h.keep.mine q cs hcs
theorem OpA.frz{P:Program}{o:Oper}{K:St→Prop}(r:Nat){pcs:List PV}(hr:hget σ.H r=some (pcs.map .c))(h:OpA P o (σ.frz r pcs) K):OpA P o σ K:=
 fun E ι a w hc=>h E ι a w (hc.frz hr)
theorem AW.frz{P:Program}{c:Code}{Φ : Exit→St→Prop}(r:Nat){pcs:List PV}(hr:hget σ.H r=some (pcs.map .c))(h:AW P c (σ.frz r pcs) Φ):AW P c σ Φ:=
 fun E ι a w hc=>h E ι a w (hc.frz hr)
end
end
section
open Go.RowKit
def setO(T:List AV)(dst:Option Tmp)(v:AV):List AV:=match dst with|some d=>T.set d v|none=>T
def St.eff(σ : St)(dst:Option Tmp)(v:AV)(wr:List (Nat×List AV)):St:=⟨setO σ.T dst v,Q0q σ.H wr⟩
def Q1h(o:Oper)(ev ev':Operand→AV):Prop:=∀x∈o.op.operands.toList,ev' x=ev x
def OpF(P:Program)(o:Oper)(ev:Operand→AV)(hg:Nat→Option (List AV))(v:AV)(rd:List Nat)(wr:List (Nat×List AV)):Prop:=
 ∀τ : St,Q1h o ev τ.ev→(∀r∈rd,hget τ.H r=hg r)→OpA P o τ fun ρ=>ρ = τ.eff o.dst v wr
theorem OpF.local{P:Program}{o:Oper}{ev ev':Operand→AV}{hg hg':Nat→Option (List AV)}{v:AV}{rd:List Nat}{wr:List (Nat×List AV)}(h:OpF P o ev hg v rd wr)(he:Q1h o ev ev')(hr:∀r∈rd,hg' r=hg r):OpF P o ev' hg' v rd wr:=
 fun τ h1 h2=>h τ (fun x hx=>(h1 x hx).trans (he x hx)) fun r hr'=>(h2 r hr').trans (hr r hr')
def rdOf:AV→List Nat
 |.ptr r _=>[r]
 |.row r _ _ _=>[r]
 |.cut r _ _ _ _ _ _=>[r]
 |_=>[]
structure Ef where
 v:AV
 rd:List Nat
 wr:List (Nat×List AV)
 nw:List Nat
def OpN(P:Program)(o:Oper)(ev:Operand→AV)(hg:Nat→Option (List AV))(e:Ef):Prop:=
 ∀τ : St,Q1h o ev τ.ev→(∀r∈e.rd,hget τ.H r=hg r)→(∀d∈e.nw,τ.free d=true)→OpA P o τ fun ρ=>ρ = τ.eff o.dst e.v e.wr
theorem OpF.toN{P:Program}{o:Oper}{ev:Operand→AV}{hg:Nat→Option (List AV)}{v:AV}{rd:List Nat}{wr:List (Nat×List AV)}(h:OpF P o ev hg v rd wr):OpN P o ev hg ⟨v,rd,wr,[]⟩:=
 fun τ h1 h2 _=>h τ h1 h2
def Ef.names(d:Nat)(e:Ef):Bool:=AV.refs d e.v||e.wr.any fun p=>p.1==d||AV.refsL d p.2
def Q1j(o:Oper):Bool:=match o.op with
 |.buildSlice _ _ _=>true
 |.alloc _=>true
 |.box _ _=>true
 |.call _=>true
 |_=>false
def Q0m(l:List Oper):List Nat:=(l.filter Q1j).filterMap (·.dst)
theorem X1q{d:Nat}{v:AV}(hv:AV.refs d v=false):∀(T:List AV) (i:Nat),AV.refsL d T=false→AV.refsL d (T.set i v)=false
 |[],_,h=>h
 |x::T,0,h=>by
  simp only[List.set,AV.refsL,Bool.or_eq_false_iff] at h ⊢
  exact⟨hv,h.2⟩
 |x::T,i+1,h=>by
  simp only[List.set,AV.refsL,Bool.or_eq_false_iff] at h ⊢
  exact⟨h.1,X1q hv T i h.2⟩
theorem X2i{d r:Nat}{cs:List AV}(hr:(r==d)=false)(hc:AV.refsL d cs=false):∀(H:List (Nat×List AV)),Q1i d H=true→Q1i d (hput H r cs)=true
 |[],_=>by simp[hput,Q1i,hc,bne,hr]
 |(k,ds)::H,h=>by
  simp only[Q1i,Bool.and_eq_true,Bool.not_eq_true'] at h
  unfold hput
  split
  · simp[Q1i,bne,hr,hc,h.2]
  · simp only[Q1i,Bool.and_eq_true,Bool.not_eq_true']
    exact⟨h.1,X2i hr hc H h.2⟩
theorem Q9o{d:Nat}(H:List (Nat×List AV))(hH:Q1i d H=true):∀(wr:List (Nat×List AV)),(wr.any fun p=>p.1==d||AV.refsL d p.2)=false→Q1i d (Q0q H wr)=true
 |[],_=>hH
 |(k,cs)::wr,h=>by
  simp only[List.any_cons,Bool.or_eq_false_iff] at h
  exact X2i h.1.1 h.1.2 _ (Q9o H hH wr h.2)
theorem eff_free{σ : St}{d:Nat}{dst:Option Tmp}{e:Ef}(h:σ.free d=true)(hn:e.names d=false):(σ.eff dst e.v e.wr).free d=true:=by
 unfold St.free at h ⊢
 unfold Ef.names at hn
 simp only[Bool.and_eq_true,Bool.not_eq_true',Bool.or_eq_false_iff] at h hn ⊢
 refine⟨?_,Q9o _ h.2 _ hn.2⟩
 show AV.refsL d (setO σ.T dst e.v)=false
 cases dst with
 |none=>exact h.1
 |some t=>exact X1q hn.1 _ _ h.1
def Ef.wn(e:Ef):List Nat:=e.wr.map (·.1)
def stL(ops:List Oper)(es:List Ef)(listed:Nat→Bool):Nat→St→St
 |0,σ=>σ
 |k+1,σ=>
  let τ:=stL ops es listed k σ
  if listed k then match ops[k]?,es[k]? with
   |some o,some e=>τ.eff o.dst e.v e.wr
   |_,_=>τ
  else τ
def maskOf(acc:List Nat)(es:List Edge)(s:Nat):Nat:=es.foldl (fun s e=>if Region.binds .any e then s ||| 2 ^ e.on ||| acc.getD e.on 0 else s) s
def masks:List Oper→List Nat→List Nat
 |[],acc=>acc
 |o::l,acc=>masks l (acc++[maskOf acc o.after.toList 0])
def pre(l:List Oper)(i j:Nat):Bool:=((masks l []).getD i 0).testBit j
def Q5b(ops:Array Oper)(x y:Oper)(ex ey:Ef):Bool:=
 x.apart ops y&&ey.wn.all (fun r=>!ex.rd.contains r && !ex.wn.contains r)&&ex.wn.all (fun r=>!ey.rd.contains r)
def X0s(l:List Oper)(es:List Ef):Bool:=
 (List.range l.length).all fun i=>match es[i]? with
   |some e=>e.nw.all fun d=>(Q0m l).contains d&&(List.range l.length).all fun j=>j==i||pre l j i||match es[j]? with
    |some ej=>!ej.names d
    |none=>false
   |none=>true
def Q4s(l:List Oper)(es:List Ef):Bool:=
 X0s l es&&(List.range l.length).all fun i=>(List.range i).all fun j=>pre l i j||match l[i]?,l[j]?,es[i]?,es[j]? with
  |some x,some y,some ex,some ey=>Q5b l.toArray x y ex ey
  |_,_,_,_=>false
theorem Q6k(T:List AV)(dst:Option Tmp)(v:AV):(setO T dst v).length=T.length:=by cases dst<;>simp[setO]
theorem Q5g{T:List AV}{dst:Option Tmp}{v:AV}{t:Nat}(h:dst≠some t):(setO T dst v).getD t .any=T.getD t .any:=by
 cases dst with
 |none=>rfl
 |some d=>
  have hne:d≠t:=fun e=>h (by rw[e])
  show(T.set d v).getD t .any=_
  rw[List.getD_eq_getElem?_getD,List.getD_eq_getElem?_getD,List.getElem?_set_ne hne]
theorem Q8f{T T':List AV}{t:Nat}{v:AV}(hl:T.length=T'.length):(setO T (some t) v).getD t .any=(setO T' (some t) v).getD t .any:=by
 show(T.set t v).getD t .any=(T'.set t v).getD t .any
 rw[List.getD_eq_getElem?_getD,List.getD_eq_getElem?_getD]
 by_cases h:t<T.length
 · rw[List.getElem?_set_self (by omega),List.getElem?_set_self (by omega)]
 · rw[List.getElem?_eq_none (by simp;omega),List.getElem?_eq_none (by simp;omega)]
section
variable {l:List Oper} {es:List Ef} {σ : St}
theorem Q1x(L:Nat→Bool):∀k,(stL l es L k σ).T.length = σ.T.length
 |0=>rfl
 |k+1=>by
  unfold stL
  simp only
  split
  · split
    · show(setO _ _ _).length=_
      rw[Q6k,Q1x L k]
    · exact Q1x L k
  · exact Q1x L k
theorem X1i{L1 L2:Nat→Bool}{t:Nat}:∀k,(∀j o,j<k→L1 j≠L2 j→l[j]? = some o→o.dst≠some t)→(stL l es L1 k σ).T.getD t .any=(stL l es L2 k σ).T.getD t .any
 |0,_=>rfl
 |k+1,h=>by
  have ih:=X1i k fun j o hj hne ho=>h j o (by omega) hne ho
  unfold stL
  simp only
  cases h1:L1 k<;>cases h2:L2 k
  · simpa using ih
  · simp only[Bool.false_eq_true,if_false,if_true]
    split
    · rename_i o e ho he
      rw[ih]
      exact(Q5g (h k o (by omega) (by rw[h1,h2];simp) ho)).symm
    · exact ih
  · simp only[Bool.false_eq_true,if_false,if_true]
    split
    · rename_i o e ho he
      rw[←ih]
      exact Q5g (h k o (by omega) (by rw[h1,h2];simp) ho)
    · exact ih
  · simp only[if_true]
    split
    · rename_i o e ho he
      by_cases hd:o.dst=some t
      · show(setO _ o.dst _).getD t .any=(setO _ o.dst _).getD t .any
        rw[hd]
        exact Q8f (by rw[Q1x,Q1x])
      · show(setO _ o.dst _).getD t .any=(setO _ o.dst _).getD t .any
        rw[Q5g hd,Q5g hd];exact ih
    · exact ih
theorem Q7h{wr:List (Nat×List AV)}{r:Nat}(h:r∉wr.map (·.1)):hget wr r=none:=by
 cases hg:hget wr r with
 |none=>rfl
 |some cs=>exact absurd (Q3d hg) h
theorem X1j{L1 L2:Nat→Bool}{r:Nat}:∀k,(∀j e,j<k→L1 j≠L2 j→es[j]? = some e→r∉e.wn)→hget (stL l es L1 k σ).H r=hget (stL l es L2 k σ).H r
 |0,_=>rfl
 |k+1,h=>by
  have ih:=X1j k fun j o hj hne ho=>h j o (by omega) hne ho
  unfold stL
  simp only
  cases h1:L1 k<;>cases h2:L2 k
  · simpa using ih
  · simp only[Bool.false_eq_true,if_false,if_true]
    split
    · rename_i o e ho he
      show _=hget (Q0q _ e.wr) r
      rw[Q2u,Q7h (h k e (by omega) (by rw[h1,h2];simp) he)]
      exact ih
    · exact ih
  · simp only[Bool.false_eq_true,if_false,if_true]
    split
    · rename_i o e ho he
      show hget (Q0q _ e.wr) r=_
      rw[Q2u,Q7h (h k e (by omega) (by rw[h1,h2];simp) he)]
      exact ih
    · exact ih
  · simp only[if_true]
    split
    · rename_i o e ho he
      show hget (Q0q _ e.wr) r=hget (Q0q _ e.wr) r
      rw[Q2u,Q2u,ih]
    · exact ih
theorem Q9y{d:Nat}{L:Nat→Bool}(h0:σ.free d=true):∀k,(∀j e,j<k→L j=true→es[j]? = some e→e.names d=false)→(stL l es L k σ).free d=true
 |0,_=>h0
 |k+1,h=>by
  have ih:=Q9y h0 k fun j e hj=>h j e (by omega)
  unfold stL
  simp only
  split
  · rename_i hL
    split
    · rename_i o e ho he
      exact eff_free ih (h k e (by omega) hL he)
    · exact ih
  · exact ih
theorem stL_all(i:Nat):∀k,i≤k→stL l es (fun j=>decide (j<i)) k σ = stL l es (fun _=>true) i σ:=by
 have low:∀k,k≤i→stL l es (fun j=>decide (j<i)) k σ = stL l es (fun _=>true) k σ:=by
  intro k
  induction k with
  |zero=>exact fun _=>rfl
  |succ k ih=>
   intro hk
   unfold stL
   simp only[ih (by omega),show k<i by omega,decide_true,if_true]
 intro k
 induction k with
 |zero=>
  intro hi
  obtain rfl:i=0:=by omega
  rfl
 |succ k ih=>
  intro hi
  by_cases hk:i≤k
  · rw[←ih hk]
    conv=>lhs;unfold stL
    simp only[show ¬k<i by omega,decide_false,Bool.false_eq_true,if_false]
  · obtain rfl:i=k+1:=by omega
    exact low _ (Nat.le_refl _)
end
theorem Conc.drawn{E:Env}{ι : Nat→Nat×Nat×Nat}{σ : St}{a:Act}{w:World}(h:Conc E ι σ a w)(n:Nat):Conc E ι σ a {w with drawn:=n}:=by
 have hR:∀{v:Value} {x:AV},RV (Sx E ι σ.H) ι w v x→RV (Sx E ι σ.H) ι {w with drawn:=n} v x:=fun hv=>RV.mono (S':=Sx E ι σ.H) (w:=w) (w':={w with drawn:=n}) (fun b hb _=>⟨hb,rfl⟩) hv fun _ _=>rfl
 refine⟨h.defers.mono fun b hb _=>⟨hb,rfl⟩,h.size,fun i=>hR (h.tmp i),⟨fun r cs hr=>?_,h.heap.inj⟩,⟨h.keep.os,h.keep.tape,h.keep.output,h.keep.size,h.keep.block,h.keep.mine⟩⟩
 rcases h.heap.blk r cs hr with h0|⟨cur,hh,hs,hl,hc,hone1⟩
 · exact .inl h0
 · exact .inr ⟨cur,hh,hs,hl,fun j u x hu hx=>⟨hR (hc j u x hu hx).1,(hc j u x hu hx).2⟩,hone1⟩
def StepD(P:Program)(l:List Oper)(σ : St)(o:Oper)(e:Ef):Prop:=
 (o.guard=none∧OpN P o σ.ev (hget σ.H) e) ∨
 ∃j want d b,o.guard=some (j,want)∧(l[j]?).bind (·.dst)=some d∧(σ.T.getD d .any = .c (.v (.bool b))∧((b=want∧OpN P o σ.ev (hget σ.H) e)∨(b = !want∧e=⟨.tup [],[],[],[]⟩))∨σ.T.getD d .any = .tup []∧e=⟨.tup [],[],[],[]⟩)
def Q3r(l:List Oper):Bool:=(List.range l.length).all fun i=>match l[i]? with|some o=>o.after.all fun e=>!Region.binds .any e||decide (e.on<i)|none=>true
def Q3s(l:List Oper)(L:Nat→Bool):Prop:=∀j o,l[j]? = some o→L j=true→∀e∈o.after,Region.binds .any e=true→L e.on=true
theorem Q9k(acc:List Nat)(m:Nat):∀(es:List Edge) (s:Nat),(maskOf acc es s).testBit m=true→s.testBit m=true∨∃e∈es,Region.binds .any e=true∧(m=e.on∨(acc.getD e.on 0).testBit m=true)
 |[],s,h=>.inl h
 |e::es,s,h=>by
  unfold maskOf at h
  rw[List.foldl_cons] at h
  rcases Q9k acc m es _ h with h|⟨e',h1,h2,h3⟩
  · split at h
    · rename_i hb
      rw[Nat.testBit_or,Nat.testBit_or,Nat.testBit_two_pow] at h
      simp only[Bool.or_eq_true,decide_eq_true_eq] at h
      rcases h with(h|h)|h
      · exact .inl h
      · exact .inr ⟨e,by simp,hb,.inl h.symm⟩
      · exact .inr ⟨e,by simp,hb,.inr h⟩
    · exact .inl h
  · exact .inr ⟨e',by simp[h1],h2,h3⟩
theorem Q7q{L:Nat→Bool}:∀(l2 l1:List Oper) (acc:List Nat),acc.length=l1.length→Q3s (l1++l2) L→(∀i,i<acc.length→(∀o,(l1++l2)[i]? = some o→∀e∈o.after,Region.binds .any e=true→L e.on=true)→∀m,(acc.getD i 0).testBit m=true→L m=true) →
 ∀i,(∀o,(l1++l2)[i]? = some o→∀e∈o.after,Region.binds .any e=true→L e.on=true)→∀m,((masks l2 acc).getD i 0).testBit m=true→L m=true
 |[],l1,acc,hl,hc,h,i,hi,m,hm=>by
  unfold masks at hm
  rcases Nat.lt_or_ge i acc.length with hlt|hge
  · exact h i hlt hi m hm
  · rw[List.getD_eq_getElem?_getD,List.getElem?_eq_none hge] at hm
    simp at hm
 |o::l2,l1,acc,hl,hc,h,i,hi,m,hm=>by
  unfold masks at hm
  have e:l1++o::l2=(l1++[o])++l2:=by simp
  rw[e] at hc h hi
  refine Q7q l2 (l1++[o]) _ (by simp[hl]) hc (fun k hk hke q hq=>?_) i hi m hm
  rcases Nat.lt_or_ge k acc.length with hlt|hge
  · refine h k hlt hke q ?_
    rwa [List.getD_eq_getElem?_getD,List.getElem?_append_left hlt,←List.getD_eq_getElem?_getD] at hq
  · obtain rfl:k=acc.length:=by simp at hk;omega
    rw[List.getD_eq_getElem?_getD,List.getElem?_append_right (Nat.le_refl _),Nat.sub_self] at hq
    simp only[List.getElem?_cons_zero,Option.getD_some] at hq
    have ho:((l1++[o])++l2)[acc.length]? = some o:=by rw[hl];simp
    rcases Q9k acc q _ 0 hq with hq|⟨ed,h1,h2,h3⟩
    · simp at hq
    · have hL:=hke o ho ed (by simpa using h1) h2
      rcases h3 with rfl|h3
      · exact hL
      · rcases Nat.lt_or_ge ed.on acc.length with hlt|hge
        · exact h ed.on hlt (fun o' ho' e' he' hb'=>hc ed.on o' ho' hL e' he' hb') q h3
        · rw[List.getD_eq_getElem?_getD,List.getElem?_eq_none hge] at h3
          simp at h3
theorem Q2s{l:List Oper}{L:Nat→Bool}(hc:Q3s l L)(i:Nat)(hi:∀o,l[i]? = some o→∀e∈o.after,Region.binds .any e=true→L e.on=true)(m:Nat)(hm:pre l i m=true):L m=true:=
 Q7q l [] [] rfl hc (fun i h=>by simp at h) i hi m hm
def cntL(L:Nat→Bool):Nat→Nat
 |0=>0
 |k+1=>cntL L k+if L k then 0 else 1
theorem Q7a{L L':Nat→Bool}{i:Nat}(hi:L i=false)(hi':L' i=true)(hne:∀j,j≠i→L' j=L j):∀k,(i<k→cntL L' k+1=cntL L k)∧(k≤i→cntL L' k=cntL L k)
 |0=>⟨fun h=>by omega,fun _=>rfl⟩
 |k+1=>by
  obtain⟨h1,h2⟩:=Q7a hi hi' hne k
  unfold cntL
  by_cases hk:k=i
  · subst hk
    rw[hi,hi']
    exact⟨fun _=>by rw[h2 (Nat.le_refl _)];simp,fun h=>by omega⟩
  · rw[hne k hk]
    exact⟨fun h=>by have:=h1 (by omega);omega,fun h=>by rw[h2 (by omega)]⟩
theorem Q5x{L:Nat→Bool}:∀k,cntL L k=0→∀j,j<k→L j=true
 |k+1,h,j,hj=>by
  unfold cntL at h
  by_cases hk:j=k
  · subst hk
    cases hL:L j with
    |true=>rfl
    |false=>rw[hL] at h;simp at h
  · exact Q5x k (by omega) j (by omega)
def drawOp(P:Program)(ops:Array Oper)(Q:Exit→Act→World→Prop)(i:Nat)(K:Act→World→Prop)(a:Act)(w:World):Prop:=
 match ops[i]? with
 |none=>K a w
 |some o=>if Region.wanted o (yielded ops a.tmps) then o.wp P a w K Q else K (a.put o.dst undef) w
def Q7m(P:Program)(ops:Array Oper)(Q:Exit→Act→World→Prop):Nat→Array Bool→Act→World→Prop
 |0,listed,a,w=>Region.ready .any ops listed=[]∧Q .normal a w
 |fuel+1,listed,a,w=>(Region.ready .any ops listed=[]→Q .normal a w)∧∀i∈Region.ready .any ops listed,drawOp P ops Q i (Q7m P ops Q fuel (listed.setIfInBounds i true)) a w
theorem Q6g{P:Program}{ops:Array Oper}{Q:Exit→Act→World→Prop}:∀(fuel:Nat) (listed:Array Bool) (a:Act) (w:World),Q7m P ops Q fuel listed a w→wpAny P .any ops Q fuel listed a w
 |0,_,_,_,h=>h
 |fuel+1,listed,a,w,h=>⟨h.1,fun i hi=>by
  have h2:=h.2 i hi
  unfold drawOp at h2
  unfold wpOp
  split
  · rename_i e;simp only[e] at h2;exact Q6g fuel _ _ _ h2
  · rename_i o e
    simp only[e] at h2
    split at h2
    · rename_i hw;rw[if_pos hw];exact .inl (Oper.wp_mono (fun a w h=>Q6g fuel _ a w h) h2)
    · rename_i hw;rw[if_neg hw];exact Q6g fuel _ _ _ h2⟩
theorem Q8j{P:Program}{l:List Oper}{es:List Ef}{σ0:St}{Φ : Exit→St→Prop}(hm:P.follows .mixedOrders=true)(hlen:es.length=l.length)(hok:Q4s l es=true)(hback:Q3r l=true)(hnew:∀d∈Q0m l,σ0.free d=true)
 (steps:∀i o e,l[i]? = some o→es[i]? = some e→StepD P l (stL l es (fun _=>true) i σ0) o e) (hΦ : Φ .normal (stL l es (fun _=>true) l.length σ0)):∀(E:Env) (ι : Nat→Nat×Nat×Nat) (a:Act) (w:World),Conc E ι σ0 a w→Q7m P l.toArray (fun ex a' w'=>∃ι' σ',Conc E ι' σ' a' w'∧Φ ex σ') l.toArray.size (Array.replicate l.toArray.size false) a {w with drawn:=w.drawn+1}:=by
 intro E ι a w hc
 have hd0:=hc.drawn (w.drawn+1)
 generalize ({w with drawn:=w.drawn+1}:World)=w0 at hd0
 have pair:∀i j x y ex ey,j<i→l[i]? = some x→l[j]? = some y→es[i]? = some ex→es[j]? = some ey→pre l i j=true∨Q5b l.toArray x y ex ey=true:=fun i j x y ex ey hji hx hy hex hey=>by
  have hi:=(List.getElem?_eq_some_iff.1 hx).1
  have hok2:=hok
  unfold Q4s at hok2
  rw[Bool.and_eq_true] at hok2
  have h1:=List.all_eq_true.1 hok2.2 i (by simpa using hi)
  have h2:=List.all_eq_true.1 h1 j (by simpa using hji)
  simp only[hx,hy,hex,hey,Bool.or_eq_true] at h2
  exact h2
 have ef:∀i x,l[i]? = some x→∃e,es[i]? = some e:=fun i x hx=>⟨es[i]'(by rw[hlen];exact(List.getElem?_eq_some_iff.1 hx).1),List.getElem?_eq_getElem _⟩
 have key:∀(fuel:Nat) (listed:Array Bool) (a:Act) (w:World) (ι : Nat→Nat×Nat×Nat),listed.size=l.length→Q3s l (fun j=>listed.getD j false)→cntL (fun j=>listed.getD j false) l.length≤fuel →
  Conc E ι (stL l es (fun j=>listed.getD j false) l.length σ0) a w→Q7m P l.toArray (fun ex a' w'=>∃ι' σ',Conc E ι' σ' a' w'∧Φ ex σ') fuel listed a w:=by
  intro fuel
  have done:∀(listed:Array Bool) (a:Act) (w:World) (ι : Nat→Nat×Nat×Nat),(∀j,j<l.length→listed.getD j false=true)→Conc E ι (stL l es (fun j=>listed.getD j false) l.length σ0) a w→∃ι' σ',Conc E ι' σ' a w∧Φ .normal σ':=fun listed a w ι hall hc=>by
   refine⟨ι,_,hc.le (τ:=stL l es (fun _=>true) l.length σ0) ⟨by rw[Q1x,Q1x],fun t=>AV.le_of ?_,fun r cs hr=>?_⟩,hΦ⟩
   · exact X1i _ fun j o hj hne _=>absurd (hall j hj) (by simpa using hne)
   · rw[←hr];exact X1j _ fun j e hj hne _=>absurd (hall j hj) (by simpa using hne)
  have hready:∀(listed:Array Bool) (i:Nat),listed.size=l.length→i∈Region.ready .any l.toArray listed→∃o,l[i]? = some o∧listed.getD i false=false∧∀e∈o.after,Region.binds .any e=true→listed.getD e.on false=true:=fun listed i hsz hi=>by
   unfold Region.ready at hi
   rw[List.mem_filter] at hi
   obtain⟨h1,h2⟩:=hi
   have hin:i<l.length:=by simpa using h1
   have ho:l[i]? = some l[i]:=List.getElem?_eq_getElem hin
   simp only[Bool.and_eq_true,Bool.not_eq_true',List.getElem?_toArray,ho,Option.map_some,Option.getD_some,Array.all_eq_true_iff_forall_mem] at h2
   refine⟨_,ho,?_,fun e he hb=>?_⟩
   · have:=h2.1
     simp only[Array.getD,hsz,hin,dif_pos] at this ⊢
     exact this
   · have:=h2.2 e he
     simpa [hb] using this
  induction fuel with
  |zero=>
   intro listed a w ι hsz hcl hcnt hc
   have hall:=Q5x (L:=fun j=>listed.getD j false) l.length (by omega)
   refine⟨?_,done listed a w ι hall hc⟩
   refine List.eq_nil_iff_forall_not_mem.2 fun i hi=>?_
   obtain⟨o,ho,hu,_⟩:=hready listed i hsz hi
   have:=hall i (List.getElem?_eq_some_iff.1 ho).1
   rw[hu] at this;cases this
  |succ fuel ih=>
   intro listed a w ι hsz hcl hcnt hc
   refine⟨fun hnil=>done listed a w ι (fun j hj=>?_) hc,fun i hi=>?_⟩
   · -- the first that is not listed would be ready
     refine Classical.byContradiction fun hn=>?_
     have hex:∃j,j<l.length∧listed.getD j false=false:=⟨j,hj,by simpa using hn⟩
     have key2:∀m,(∃j,j<m∧j<l.length∧listed.getD j false=false)→∃j,j<l.length∧listed.getD j false=false∧∀k,k<j→listed.getD k false=true:=by
      intro m
      induction m with
      |zero=>rintro ⟨j,hj,_⟩;omega
      |succ m ihm=>
       rintro ⟨j,hj,hjl,hju⟩
       by_cases hlow:∃k,k<m∧k<l.length∧listed.getD k false=false
       · exact ihm hlow
       · refine⟨j,hjl,hju,fun k hk=>Classical.byContradiction fun hku=>hlow ⟨k,by omega,by omega,by simpa using hku⟩⟩
     obtain⟨j,hjl,hju,hlow⟩:=key2 l.length (by obtain⟨j,h1,h2⟩:=hex;exact⟨j,h1,h1,h2⟩)
     have ho:l[j]? = some l[j]:=List.getElem?_eq_getElem hjl
     have hb:=List.all_eq_true.1 hback j (by simpa using hjl)
     simp only[ho,Array.all_eq_true_iff_forall_mem,Bool.or_eq_true,Bool.not_eq_true',decide_eq_true_eq] at hb
     have hmem:j∈Region.ready .any l.toArray listed:=by
      unfold Region.ready
      rw[List.mem_filter]
      refine⟨by simpa using hjl,?_⟩
      simp only[Bool.and_eq_true,Bool.not_eq_true',List.getElem?_toArray,ho,Option.map_some,Option.getD_some,Array.all_eq_true_iff_forall_mem]
      refine⟨?_,fun e he=>?_⟩
      · simp only[Array.getD,hsz,hjl,dif_pos] at hju ⊢
        exact hju
      · rcases hb e he with h|h
        · simp[h]
        · simp[hlow e.on h]
     rw[hnil] at hmem;cases hmem
   · obtain⟨o,ho,hu,hpre⟩:=hready listed i hsz hi
     obtain⟨e,he⟩:=ef i o ho
     have hil:=(List.getElem?_eq_some_iff.1 ho).1
     have hdiff:∀j x ex,j<l.length→l[j]? = some x→es[j]? = some ex→(listed.getD j false)≠decide (j<i)→x.dst.toList.all (fun d=>!(o.looksAt l.toArray).contains d)=true∧(∀r∈e.rd,r∉ex.wn):=fun j x ex hj hx hex hne=>by
      rcases Nat.lt_trichotomy j i with hji|hji|hji
      · have hun:listed.getD j false=false:=by
         cases h:listed.getD j false with
         |false=>rfl
         |true=>rw[h] at hne;simp[hji] at hne
        rcases pair i j o x e ex hji ho hx he hex with hr|hr
        · have:=Q2s hcl i (fun o' ho'=>by rw[ho] at ho';cases ho';exact hpre) j hr
          rw[hun] at this;cases this
        · unfold Q5b at hr
          simp only[Bool.and_eq_true] at hr
          obtain⟨_,_,h3⟩:=Oper.apart_spec hr.1.1
          refine⟨?_,fun r hr' hrw=>?_⟩
          · cases hd:x.dst with
            |none=>rfl
            |some d=>simpa using h3 d hd
          · have:=List.all_eq_true.1 hr.1.2 r hrw
            simp at this
            exact this.1 hr'
      · subst hji
        rw[hu] at hne;simp at hne
      · have hli:listed.getD j false=true:=by
         cases h:listed.getD j false with
         |true=>rfl
         |false=>rw[h] at hne;simp at hne;omega
        rcases pair j i x o ex e hji hx ho hex he with hr|hr
        · have:=Q2s hcl j (fun o' ho'=>hcl j o' ho' hli) i hr
          rw[hu] at this;cases this
        · unfold Q5b at hr
          simp only[Bool.and_eq_true] at hr
          obtain⟨h1,_,_⟩:=Oper.apart_spec hr.1.1
          refine⟨?_,fun r hr' hrw=>?_⟩
          · cases hd:x.dst with
            |none=>rfl
            |some d=>simpa using h1 d hd
          · have:=List.all_eq_true.1 hr.2 r hrw
            simp at this
            exact this hr'
     have htext:=stL_all (l:=l) (es:=es) (σ:=σ0) i l.length (by omega)
     have hT:∀t∈o.looksAt l.toArray,(stL l es (fun j=>listed.getD j false) l.length σ0).T.getD t .any=(stL l es (fun _=>true) i σ0).T.getD t .any:=fun t ht=>by
      rw[←htext]
      refine X1i _ fun j x hj hne hx hd=>?_
      obtain⟨ex,hex⟩:=ef j x hx
      have:=(hdiff j x ex hj hx hex hne).1
      rw[hd] at this
      simp at this
      exact this ht
     have hH:∀r∈e.rd,hget (stL l es (fun j=>listed.getD j false) l.length σ0).H r=hget (stL l es (fun _=>true) i σ0).H r:=fun r hr=>by
      rw[←htext]
      refine X1j _ fun j ex hj hne hex hrw=>?_
      have hx:l[j]? = some l[j]:=List.getElem?_eq_getElem hj
      exact(hdiff j _ ex hj hx hex hne).2 r hr hrw
     have hN:∀d∈e.nw,(stL l es (fun j=>listed.getD j false) l.length σ0).free d=true:=fun d hd=>by
      have hf:=hok
      unfold Q4s at hf
      rw[Bool.and_eq_true] at hf
      have h1:=List.all_eq_true.1 hf.1 i (by simpa using hil)
      simp only[he] at h1
      have h2:=List.all_eq_true.1 h1 d hd
      rw[Bool.and_eq_true] at h2
      refine Q9y (hnew d (by simpa using h2.1)) _ fun j ej hj hLj hej=>?_
      have h3:=List.all_eq_true.1 h2.2 j (by simpa using hj)
      simp only[hej,Bool.or_eq_true,Bool.not_eq_true'] at h3
      rcases h3 with(h3|h3)|h3
      · have:j=i:=by simpa using h3
        subst this
        rw[hu] at hLj;cases hLj
      · have hjo:l[j]? = some l[j]:=List.getElem?_eq_getElem hj
        have:=Q2s hcl j (fun o' ho'=>hcl j o' ho' hLj) i h3
        rw[hu] at this;cases this
      · exact h3
     generalize hτ : stL l es (fun j=>listed.getD j false) l.length σ0 = τ at *
     have hag:Q1h o (stL l es (fun _=>true) i σ0).ev τ.ev:=fun x hx=>by
      cases x with
      |tmp t=>exact hT t (List.mem_append_left _ (List.mem_filterMap.2 ⟨.tmp t,hx,rfl⟩))
      |_=>rfl
     have hset:∀j,j≠i→(listed.setIfInBounds i true).getD j false=listed.getD j false:=fun j hj=>by
      simp[Array.getD_eq_getD_getElem?,Array.getElem?_setIfInBounds_ne (Ne.symm hj)]
     have hset':(listed.setIfInBounds i true).getD i false=true:=by
      simp[Array.getD,hsz,hil]
     have hcl':Q3s l (fun j=>(listed.setIfInBounds i true).getD j false):=fun j x hx hLj ed hed hb=>by
      by_cases hj:j=i
      · subst hj
        rw[ho] at hx;cases hx
        have:=hpre ed hed hb
        show(listed.setIfInBounds j true).getD ed.on false=true
        by_cases h:ed.on=j
        · rw[h];exact hset'
        · rw[hset _ h];exact this
      · have hLj':listed.getD j false=true:=by rw[←hset j hj];exact hLj
        have:=hcl j x hx hLj' ed hed hb
        show(listed.setIfInBounds i true).getD ed.on false=true
        by_cases h:ed.on=i
        · rw[h];exact hset'
        · rw[hset _ h];exact this
     have hcnt':cntL (fun j=>(listed.setIfInBounds i true).getD j false) l.length≤fuel:=by
      have:=(Q7a (L:=fun j=>listed.getD j false) (L':=fun j=>(listed.setIfInBounds i true).getD j false) hu hset' hset l.length).1 hil
      omega
     have hlater:∀j x ex,i<j→l[j]? = some x→es[j]? = some ex→(listed.setIfInBounds i true).getD j false=true→x.dst≠o.dst∨x.dst=none:=fun j x ex hij hx hex hLj=>by
      rw[hset j (by omega)] at hLj
      rcases pair j i x o ex e hij hx ho hex he with hr|hr
      · have:=Q2s hcl j (fun o' ho'=>hcl j o' ho' hLj) i hr
        rw[hu] at this;cases this
      · unfold Q5b at hr
        simp only[Bool.and_eq_true] at hr
        obtain⟨_,h2,_⟩:=Oper.apart_spec hr.1.1
        cases hd:x.dst with
        |none=>exact .inr rfl
        |some d=>exact .inl fun e=>h2 d hd e.symm
     have hlaterH:∀j x ex,i<j→l[j]? = some x→es[j]? = some ex→(listed.setIfInBounds i true).getD j false=true→∀r∈e.wn,r∉ex.wn:=fun j x ex hij hx hex hLj r hr hrw=>by
      rw[hset j (by omega)] at hLj
      rcases pair j i x o ex e hij hx ho hex he with hr'|hr'
      · have:=Q2s hcl j (fun o' ho'=>hcl j o' ho' hLj) i hr'
        rw[hu] at this;cases this
      · unfold Q5b at hr'
        simp only[Bool.and_eq_true] at hr'
        have:=List.all_eq_true.1 hr'.1.2 r hr
        simp at this
        exact this.2 hrw
     have hle:(τ.eff o.dst e.v e.wr).le (stL l es (fun j=>(listed.setIfInBounds i true).getD j false) l.length σ0):=by
      have hstep:stL l es (fun j=>(listed.setIfInBounds i true).getD j false) (i+1) σ0=(stL l es (fun j=>(listed.setIfInBounds i true).getD j false) i σ0).eff o.dst e.v e.wr:=by
       conv=>lhs;unfold stL
       simp only[hset',if_true,ho,he]
      refine⟨by show(setO τ.T o.dst e.v).length=_;rw[Q6k,←hτ,Q1x,Q1x],fun t=>AV.le_of ?_,fun r cs hr=>?_⟩
      · by_cases hd:o.dst=some t
        · have h1:∀k,i+1≤k→k≤l.length→(stL l es (fun j=>(listed.setIfInBounds i true).getD j false) k σ0).T.getD t .any=(stL l es (fun j=>(listed.setIfInBounds i true).getD j false) (i+1) σ0).T.getD t .any:=by
           intro k
           induction k with
           |zero=>intro h;omega
           |succ k ihk=>
            intro h1 h2
            by_cases hk:k=i
            · subst hk;rfl
            · rw[←ihk (by omega) (by omega)]
              conv=>lhs;unfold stL
              simp only
              split
              · rename_i hLk
                split
                · rename_i x ex hx hex
                  refine Q5g ?_
                  rcases hlater k x ex (by omega) hx hex hLk with h|h
                  · rwa [hd] at h
                  · rw[h];simp
                · rfl
              · rfl
          rw[h1 l.length (by omega) (Nat.le_refl _),hstep]
          show(setO τ.T o.dst e.v).getD t .any=(setO _ o.dst e.v).getD t .any
          rw[hd]
          exact Q8f (by rw[←hτ,Q1x,Q1x])
        · show(setO τ.T o.dst e.v).getD t .any=_
          rw[Q5g hd,←hτ]
          refine X1i _ fun j x hj hne hx hdx=>?_
          by_cases hji:j=i
          · subst hji;rw[ho] at hx;cases hx;exact hd hdx
          · exact hne (hset j hji).symm
      · show hget (Q0q τ.H e.wr) r=some cs
        rw[←hr]
        by_cases hrw:r∈e.wn
        · have h1:∀k,i+1≤k→k≤l.length→hget (stL l es (fun j=>(listed.setIfInBounds i true).getD j false) k σ0).H r=hget (stL l es (fun j=>(listed.setIfInBounds i true).getD j false) (i+1) σ0).H r:=by
           intro k
           induction k with
           |zero=>intro h;omega
           |succ k ihk=>
            intro h1 h2
            by_cases hk:k=i
            · subst hk;rfl
            · rw[←ihk (by omega) (by omega)]
              conv=>lhs;unfold stL
              simp only
              split
              · rename_i hLk
                split
                · rename_i x ex hx hex
                  show hget (Q0q _ ex.wr) r=_
                  rw[Q2u,Q7h (hlaterH k x ex (by omega) hx hex hLk r hrw)]
                · rfl
              · rfl
          rw[h1 l.length (by omega) (Nat.le_refl _),hstep]
          show hget (Q0q τ.H e.wr) r=hget (Q0q _ e.wr) r
          rw[Q2u,Q2u]
          obtain⟨ds,hds⟩:=Q1v hrw
          rw[hds]
        · rw[Q2u,Q7h hrw,←hτ]
          refine X1j _ fun j ex hj hne hex hrx=>?_
          by_cases hji:j=i
          · subst hji;rw[he] at hex;cases hex;exact hrw hrx
          · exact hne (hset j hji).symm
     have hnext:∀ι' a' w',Conc E ι' (τ.eff o.dst e.v e.wr) a' w'→Q7m P l.toArray (fun ex a' w'=>∃ι' σ',Conc E ι' σ' a' w'∧Φ ex σ') fuel (listed.setIfInBounds i true) a' w':=fun ι' a' w' hc'=>
      ih _ a' w' ι' (by simpa using hsz) hcl' hcnt' (hc'.le hle)
     unfold drawOp
     simp only[List.getElem?_toArray,ho]
     have run:OpN P o (stL l es (fun _=>true) i σ0).ev (hget (stL l es (fun _=>true) i σ0).H) e→o.wp P a w (Q7m P l.toArray (fun ex a' w'=>∃ι' σ',Conc E ι' σ' a' w'∧Φ ex σ') fuel (listed.setIfInBounds i true)) (fun ex a' w'=>∃ι' σ',Conc E ι' σ' a' w'∧Φ ex σ'):=fun hF=>
      hF τ hag hH hN E ι a w hc _ _ fun ι' σ' a' w' hk hc'=>hnext ι' a' w' (by rw[←hk];exact hc')
     rcases steps i o e ho he with⟨hg,hF⟩|⟨j,want,d,b,hg,hd,⟨hb,hcase⟩|⟨hb,rfl⟩⟩
     · have hw:Region.wanted o (yielded l.toArray a.tmps)=true:=by simp[Region.wanted,hg]
       rw[if_pos hw]
       exact run hF
     · have hdl:d∈o.looksAt l.toArray:=List.mem_append_right _ (by rw[hg];simp[List.getElem?_toArray,hd])
       have hb':τ.T.getD d .any = .c (.v (.bool b)):=by rw[hT d hdl];exact hb
       have hv:=hc.tmp d
       rw[hb'] at hv
       obtain⟨ev,_⟩:=hv.v_inv
       have hlt:d<a.tmps.size:=by
        rw[hc.size]
        rcases Nat.lt_or_ge d τ.T.length with h|h
        · exact h
        · rw[List.getD_eq_getElem?_getD,List.getElem?_eq_none h] at hb';cases hb'
       have hy:yielded l.toArray a.tmps j=some b:=by
        unfold yielded
        rw[List.getElem?_toArray,hd]
        simp only[Option.bind_some]
        have:a.tmps[d]? = some (.bool b):=by
         rw[Array.getElem?_eq_getElem hlt]
         simp only[Array.getD,hlt,dif_pos] at ev
         simpa using ev
        rw[this]
       have hw:Region.wanted o (yielded l.toArray a.tmps)=(some b==some want):=by
        unfold Region.wanted
        rw[hg]
        simp only[hy]
       rw[hw]
       rcases hcase with⟨rfl,hF⟩|⟨rfl,rfl⟩
       · simp only[beq_self_eq_true,if_true]
         exact run hF
       · have:(some (!want)==some want)=false:=by cases want<;>rfl
         simp only[this,Bool.false_eq_true,if_false]
         refine hnext ι _ w ?_
         have:=hc.put o.dst (v:=undef) (x:=.tup []) .undef
         cases hdst:o.dst with
         |none=>rw[hdst] at this;exact this
         |some d'=>rw[hdst] at this;exact this
     · have hdl:d∈o.looksAt l.toArray:=List.mem_append_right _ (by rw[hg];simp[List.getElem?_toArray,hd])
       have hb':τ.T.getD d .any = .tup []:=by rw[hT d hdl];exact hb
       have hv:=hc.tmp d
       rw[hb'] at hv
       have ev:=hv.undef_inv
       have hy:yielded l.toArray a.tmps j=none:=by
        unfold yielded
        rw[List.getElem?_toArray,hd]
        simp only[Option.bind_some]
        simp only[Array.getD_eq_getD_getElem?] at ev
        cases hh:a.tmps[d]? with
        |none=>rfl
        |some u=>rw[hh] at ev;simp only[Option.getD_some] at ev;rw[ev];rfl
       have hw:Region.wanted o (yielded l.toArray a.tmps)=false:=by
        unfold Region.wanted
        rw[hg]
        simp only[hy]
        rfl
       rw[hw]
       simp only[Bool.false_eq_true,if_false]
       refine hnext ι _ w ?_
       have:=hc.put o.dst (v:=undef) (x:=.tup []) .undef
       cases hdst:o.dst with
       |none=>rw[hdst] at this;exact this
       |some d'=>rw[hdst] at this;exact this
 have hempty:∀k,stL l es (fun j=>(Array.replicate l.length false).getD j false) k σ0 = σ0:=by
  intro k
  induction k with
  |zero=>rfl
  |succ k ih=>
   unfold stL
   have:(Array.replicate l.length false).getD k false=false:=by
    simp[Array.getD_eq_getD_getElem?,Array.getElem?_replicate]
    split<;>rfl
   simp only[this,Bool.false_eq_true,if_false,ih]
 have hsz:l.toArray.size=l.length:=by simp
 rw[hsz]
 refine key l.length _ a w0 ι (by simp) (fun j o ho hL=>?_) ?_ (by rw[hempty];exact hd0)
 · exfalso
   have:(Array.replicate l.length false).getD j false=false:=by
    simp[Array.getD_eq_getD_getElem?,Array.getElem?_replicate]
    split<;>rfl
   simp only[this] at hL;cases hL
 · have:∀k,cntL (fun j=>(Array.replicate l.length false).getD j false) k≤k:=by
    intro k
    induction k with
    |zero=>exact Nat.le_refl _
    |succ k ih=>unfold cntL;split<;>omega
   exact this _
theorem X3c{P:Program}{id:Nat}{l:List Oper}{es:List Ef}{σ0:St}{Φ : Exit→St→Prop}(hm:P.follows .mixedOrders=true)(hlen:es.length=l.length)(hok:Q4s l es=true)(hback:Q3r l=true)(hnew:∀d∈Q0m l,σ0.free d=true)
 (steps:∀i o e,l[i]? = some o→es[i]? = some e→StepD P l (stL l es (fun _=>true) i σ0) o e) (hΦ : Φ .normal (stL l es (fun _=>true) l.length σ0)):AW P (.region id l.toArray true) σ0 Φ:=
 fun E ι a w hc=>wp_region_any hm (Q6g _ _ _ _ (Q8j hm hlen hok hback hnew steps hΦ E ι a w hc))
def evD(P:Program)(l0:List Oper):List Oper→St→List Ef→(St→Prop)→Prop
 |[],σ,acc,K=>Q4s l0 acc.reverse=true∧K σ
 |o::rest,σ,acc,K=>∃e,StepD P l0 σ o e∧evD P l0 rest (σ.eff o.dst e.v e.wr) (e::acc) K
theorem X0t{P:Program}{l0:List Oper}{σ0:St}{K:St→Prop}:∀(rest:List Oper) (σ : St) (acc:List Ef) (k:Nat),rest=l0.drop k→acc.length=k→k≤l0.length →
 (∀es:List Ef,(∀i,i<k→es[i]? = acc.reverse[i]?)→stL l0 es (fun _=>true) k σ0 = σ)→evD P l0 rest σ acc K →
 ∃es:List Ef,es.length=l0.length∧(∀i,i<k→es[i]? = acc.reverse[i]?)∧Q4s l0 es=true∧(∀i o e,k≤i→l0[i]? = some o→es[i]? = some e→StepD P l0 (stL l0 es (fun _=>true) i σ0) o e)∧K (stL l0 es (fun _=>true) l0.length σ0)
 |[],σ,acc,k,hr,ha,hk,hσ,h=>by
  have hkl:k=l0.length:=by
   have:=congrArg List.length hr
   simp at this;omega
  subst hkl
  refine⟨acc.reverse,by simp[ha],fun _ _=>rfl,h.1,fun i o e hi ho=>?_,?_⟩
  · have:=(List.getElem?_eq_some_iff.1 ho).1;omega
  · rw[hσ acc.reverse fun _ _=>rfl];exact h.2
 |o::rest,σ,acc,k,hr,ha,hk,hσ,h=>by
  obtain⟨e,hstep,hrest⟩:=h
  have ho:l0[k]? = some o:=by
   have:=congrArg (·[0]?) hr
   simpa using this.symm
  have hklt:=(List.getElem?_eq_some_iff.1 ho).1
  have hrest':rest=l0.drop (k+1):=by
   have:=congrArg List.tail hr
   simpa using this
  obtain⟨es,h1,h2,h3,h4,h5⟩:=X0t (σ0:=σ0) rest (σ.eff o.dst e.v e.wr) (e::acc) (k+1) hrest' (by simp[ha]) (by omega) (fun es hes=>by
   have hpre:stL l0 es (fun _=>true) k σ0 = σ:=hσ es fun i hi=>by
    rw[hes i (by omega),List.reverse_cons,List.getElem?_append_left (by simp;omega)]
   have hek:es[k]? = some e:=by
    rw[hes k (by omega),List.reverse_cons,List.getElem?_append_right (by simp;omega)]
    simp[ha]
   conv=>lhs;unfold stL
   simp only[if_true,ho,hek,hpre]) hrest
  have hpre:∀i,i<k→es[i]? = acc.reverse[i]?:=fun i hi=>by
   rw[h2 i (by omega),List.reverse_cons,List.getElem?_append_left (by simp;omega)]
  refine⟨es,h1,hpre,h3,fun i o' e' hi ho' he'=>?_,h5⟩
  by_cases hik:i=k
  · subst hik
    rw[ho] at ho';cases ho'
    have hek:es[i]? = some e:=by
     rw[h2 i (by omega),List.reverse_cons,List.getElem?_append_right (by simp;omega)]
     simp[ha]
    rw[hek] at he';cases he'
    rw[hσ es hpre];exact hstep
  · exact h4 i o' e' (by omega) ho' he'
section
variable {P:Program} {l0 rest:List Oper} {o:Oper} {σ : St} {acc:List Ef} {K:St→Prop} {Φ : Exit→St→Prop}
theorem Q0p{id:Nat}(hm:P.follows .mixedOrders=true)(hback:Q3r l0=true)(hnew:(Q0m l0).all (fun d=>σ.free d)=true)(h:∀R:St→Prop,(∀σ',Φ .normal σ'→R σ')→evD P l0 l0 σ [] R):evC P (.region id l0.toArray true) σ Φ:=by
 obtain⟨es,h1,_,h3,h4,h5⟩:=X0t (P:=P) (l0:=l0) (σ0:=σ) l0 σ [] 0 rfl rfl (Nat.zero_le _) (fun _ _=>rfl) (h _ fun _ h=>h)
 exact X3c hm h1 h3 hback (fun d hd=>List.all_eq_true.1 hnew d hd) (fun i o e ho he=>h4 i o e (Nat.zero_le _) ho he) h5
theorem Q0t(hok:Q4s l0 acc.reverse=true)(h:K σ):evD P l0 [] σ acc K:=⟨hok,h⟩
def rdE(op:Op)(ev:Operand→AV):List Nat:=
 match op with
 |.load _ x=>rdOf (ev x)
 |.store _ p _=>rdOf (ev p)
 |.call c=>c.args.toList.flatMap fun x=>rdOf (ev x)
 |_=>[]
theorem Q1b(τ : St)(d:Nat)(v:AV):St.mk (τ.T.set d v) τ.H = τ.eff (some d) v []:=rfl
theorem Q1a(τ : St)(r:Nat)(cs:List AV):St.mk τ.T (hput τ.H r cs) = τ.eff none .any [(r,cs)]:=rfl
theorem X3s{v:AV}{rd:List Nat}{wr:List (Nat×List AV)}(hg:o.guard=none)(hF:OpF P o σ.ev (hget σ.H) v rd wr)(h:evD P l0 rest (σ.eff o.dst v wr) (⟨v,rd,wr,[]⟩::acc) K):evD P l0 (o::rest) σ acc K:=
 ⟨⟨v,rd,wr,[]⟩,.inl ⟨hg,hF.toN⟩,h⟩
theorem evD_grd{j d:Nat}{want b:Bool}{v:AV}{rd:List Nat}{wr:List (Nat×List AV)}(hg:o.guard=some (j,want))(hd:(l0[j]?).bind (·.dst)=some d)(hb:σ.T.getD d .any = .c (.v (.bool b)))(hbw:b=want)(hF:OpF P o σ.ev (hget σ.H) v rd wr)
 (h:evD P l0 rest (σ.eff o.dst v wr) (⟨v,rd,wr,[]⟩::acc) K):evD P l0 (o::rest) σ acc K:=
 ⟨⟨v,rd,wr,[]⟩,.inr ⟨j,want,d,b,hg,hd,.inl ⟨hb,.inl ⟨hbw,hF.toN⟩⟩⟩,h⟩
theorem Q0r{j d:Nat}{want b:Bool}(hg:o.guard=some (j,want))(hd:(l0[j]?).bind (·.dst)=some d)(hb:σ.T.getD d .any = .c (.v (.bool b)))(hbw:b = !want)
 (h:evD P l0 rest (σ.eff o.dst (.tup []) []) (⟨.tup [],[],[],[]⟩::acc) K):evD P l0 (o::rest) σ acc K:=
 ⟨⟨.tup [],[],[],[]⟩,.inr ⟨j,want,d,b,hg,hd,.inl ⟨hb,.inr ⟨hbw,rfl⟩⟩⟩,h⟩
theorem Q0n{j d:Nat}{want:Bool}(hg:o.guard=some (j,want))(hd:(l0[j]?).bind (·.dst)=some d)(hb:σ.T.getD d .any = .tup [])
 (h:evD P l0 rest (σ.eff o.dst (.tup []) []) (⟨.tup [],[],[],[]⟩::acc) K):evD P l0 (o::rest) σ acc K:=
 ⟨⟨.tup [],[],[],[]⟩,.inr ⟨j,want,d,false,hg,hd,.inr ⟨hb,rfl⟩⟩,h⟩
theorem Q0w(τ : St)(d:Nat)(v:AV)(cs:List AV):(St.mk τ.T (hput τ.H d cs)).put (some d) v = τ.eff (some d) v [(d,cs)]:=rfl
theorem Q2l{v:AV}{rd:List Nat}{d:Nat}{cs:List AV}(hg:o.guard=none)(hds:o.dst=some d)(hrd:[]=rd)(hF:∀τ : St,Q1h o σ.ev τ.ev→(∀r∈rd,hget τ.H r=hget σ.H r)→τ.free d=true→evO P o τ fun ρ=>ρ = τ.eff o.dst v [(d,cs)])(h:evD P l0 rest (σ.eff o.dst v [(d,cs)]) (⟨v,rd,[(d,cs)],[d]⟩::acc) K):evD P l0 (o::rest) σ acc K:=
 ⟨⟨v,rd,[(d,cs)],[d]⟩,.inl ⟨hg,fun τ h1 h2 h3=>Q3q (hF τ h1 h2 (h3 d (by simp)))⟩,h⟩
theorem Q1r{j d':Nat}{want b:Bool}{v:AV}{rd:List Nat}{d:Nat}{cs:List AV}(hg:o.guard=some (j,want))(hd:(l0[j]?).bind (·.dst)=some d')(hb:σ.T.getD d' .any = .c (.v (.bool b)))(hbw:b=want)(hds:o.dst=some d)(hrd:[]=rd)(hF:∀τ : St,Q1h o σ.ev τ.ev→(∀r∈rd,hget τ.H r=hget σ.H r)→τ.free d=true→evO P o τ fun ρ=>ρ = τ.eff o.dst v [(d,cs)])(h:evD P l0 rest (σ.eff o.dst v [(d,cs)]) (⟨v,rd,[(d,cs)],[d]⟩::acc) K):evD P l0 (o::rest) σ acc K:=
 ⟨⟨v,rd,[(d,cs)],[d]⟩,.inr ⟨j,want,d',b,hg,hd,.inl ⟨hb,.inl ⟨hbw,fun τ h1 h2 h3=>Q3q (hF τ h1 h2 (h3 d (by simp)))⟩⟩⟩,h⟩
theorem evD_bool{d:Nat}{b:Bool}(l1:List Oper)(hb:σ.T.getD d .any = .c (.v (.bool b)))(h1:b=true→evD P l0 l1 (σ.put (some d) (.c (.v (.bool true)))) acc K)(h2:b=false→evD P l0 l1 (σ.put (some d) (.c (.v (.bool false)))) acc K):evD P l0 l1 σ acc K:=by
 cases b with
 |true=>have:=h1 rfl;rwa [Q6d hb (by simp)] at this
 |false=>have:=h2 rfl;rwa [Q6d hb (by simp)] at this
theorem Q0o{j d:Nat}{want b:Bool}(hg:o.guard=some (j,want))(hd:(l0[j]?).bind (·.dst)=some d)(hb:σ.T.getD d .any = .c (.v (.bool b)))(h1:b=true→evD P l0 (o::rest) (σ.eff (some d) (.c (.v (.bool true))) []) acc K)(h2:b=false→evD P l0 (o::rest) (σ.eff (some d) (.c (.v (.bool false))) []) acc K):evD P l0 (o::rest) σ acc K:=
 evD_bool _ hb h1 h2
theorem opF_call0{f:FuncId}{fn:Func}{cargs:List AV}{res:AV}{fo:Operand}{cas:Array Operand}{ts:Array TypeId}{caps:List AV}(hF:Fn P f cargs [] res [])(ho:o.op = .call {callee:=.value fo,args:=cas,argTypes:=ts})(hfo:Q0v fo=true)(has:cas.toList.all Q0v=true)(hf:σ.ev fo = .fn f caps)
 (hfn:P.funcs[f]? = some fn) (hname:(fn.name == "runtime.NumGoroutine")=false) (hbody:fn.body.isNone=false)
 (hargs:cas.toList.map σ.ev++caps=cargs) (hno:AV.inNL [] cargs=true) (hin:AV.inN [] res=true):OpF P o σ.ev (hget σ.H) res [] []:=
 fun τ hA _=>by
  have hA':∀x∈fo::cas.toList,τ.ev x = σ.ev x:=fun x hx=>hA x (by rw[ho];simpa [Op.operands,Call.operands] using hx)
  refine X2a hF ho hfo has (by rw[hA' fo (by simp)];exact hf) hfn hname hbody (by rw[←hargs];congr 1;exact List.map_congr_left fun x hx=>hA' x (by simp[hx])) hno hin ?_
  cases o.dst<;>rfl
def X3m(op:Op):Bool:=match op with
 |.call c=>(match c.callee with | .value _=>true|_=>false)
 |_=>false
theorem Q1d{ops:Array Oper}(hg:o.guard=none)(hc:X3m o.op=true)(h:∀K',(∀σ',evL P ops rest σ' K→K' σ')→OpA P o σ K'):evL P ops (o::rest) σ K:=Q3t hg h
theorem Q0x{f:FuncId}{fn:Func}{cargs:List AV}{res:AV}{fo:Operand}{cas:Array Operand}{ts:Array TypeId}{caps:List AV}(hF:Fn P f cargs [] res [])(ho:o.op = .call {callee:=.value fo,args:=cas,argTypes:=ts})(hfo:Q0v fo=true)(has:cas.toList.all Q0v=true)(hf:σ.ev fo = .fn f caps)
 (hfn:P.funcs[f]? = some fn) (hname:(fn.name == "runtime.NumGoroutine")=false) (hbody:fn.body.isNone=false)
 (hargs:cas.toList.map σ.ev++caps=cargs) (hio:AV.inNL [] (res::cargs)=true) (hK:K (σ.put o.dst res)):OpA P o σ K:=by
 unfold AV.inNL at hio
 rw[Bool.and_eq_true] at hio
 exact X2a hF ho hfo has hf hfn hname hbody hargs hio.2 hio.1 hK
theorem Q1g{f:FuncId}{fn:Func}{cargs:List AV}{res:AV}{fo:Operand}{cas:Array Operand}{ts:Array TypeId}{caps:List AV}(hF:Fn P f cargs [] res [])(ho:o.op = .call {callee:=.value fo,args:=cas,argTypes:=ts})(hfo:Q0v fo=true)(has:cas.toList.all Q0v=true)(hf:σ.ev fo = .fn f caps)
 (hfn:P.funcs[f]? = some fn) (hname:(fn.name == "runtime.NumGoroutine")=false) (hbody:fn.body.isNone=false)
 (hargs:cas.toList.map σ.ev++caps=cargs) (hio:AV.inNL [] (res::cargs)=true):OpF P o σ.ev (hget σ.H) res [] []:=by
 unfold AV.inNL at hio
 rw[Bool.and_eq_true] at hio
 exact opF_call0 hF ho hfo has hf hfn hname hbody hargs hio.2 hio.1
theorem Q1n{f:FuncId}{fn:Func}{cargs:List AV}{H0 H1:List (Nat×List AV)}{res:AV}(hF:Fn P f cargs H0 res H1)(ρ : Nat→Nat)
 {fo:Operand} {cas:Array Operand} {ts:Array TypeId} {caps:List AV} (ho:o.op = .call {callee:=.value fo,args:=cas,argTypes:=ts}) (hfo:Q0v fo=true) (has:cas.toList.all Q0v=true) (hf:σ.ev fo = .fn f caps)
 (hfn:P.funcs[f]? = some fn) (hname:(fn.name == "runtime.NumGoroutine")=false) (hbody:fn.body.isNone=false)
 (hD0:H0.all (fun x=>decide (1000≤x.1))=true) (hinj:∀r∈H0.map (·.1)++H1.map (·.1),∀q∈H0.map (·.1)++H1.map (·.1),ρ r = ρ q→r=q)
 (hall:Q1t ρ cargs (cas.toList.map σ.ev++caps)∧(∀r∈H0.map (·.1),hget σ.H (ρ r)=(hget H0 r).map (AV.renL ρ))∧Q2d σ ρ H0 H1∧AV.inN (H1.map (·.1)) res=true∧inH (H1.map (·.1)) H1=true)
 (hK:K ((St.mk σ.T (Q0q (Q2k σ.H (renH ρ H0)) (renH ρ H1))).put o.dst (AV.ren ρ res))):OpA P o σ K:=
 X0o hF ρ ho hfo has hf hfn hname hbody hD0 hall.1 hall.2.1 hinj hall.2.2.1 hall.2.2.2.1 hall.2.2.2.2 hK
def nwO(o:Oper):List Nat:=match o.op with
 |.buildSlice _ _ _=>o.dst.toList
 |.alloc _=>o.dst.toList
 |.box _ _=>o.dst.toList
 |.call c=>(match c.callee with | .builtin .append=>o.dst.toList|_=>[])
 |_=>[]
theorem Q0u{v:AV}{rd nw:List Nat}{wr:List (Nat×List AV)}(hg:o.guard=none)(hnw:nwO o=nw)(hrd:rdE o.op σ.ev=rd)(hF:∀τ : St,Q1h o σ.ev τ.ev→(∀r∈rd,hget τ.H r=hget σ.H r)→(∀d∈nw,τ.free d=true)→evO P o τ fun ρ=>ρ = τ.eff o.dst v wr)
 (h:evD P l0 rest (σ.eff o.dst v wr) (⟨v,rd,wr,nw⟩::acc) K):evD P l0 (o::rest) σ acc K:=
 ⟨⟨v,rd,wr,nw⟩,.inl ⟨hg,fun τ h1 h2 h3=>Q3q (hF τ h1 h2 h3)⟩,h⟩
theorem Q0s{j d':Nat}{want b:Bool}{v:AV}{rd nw:List Nat}{wr:List (Nat×List AV)}(hg:o.guard=some (j,want))(hd:(l0[j]?).bind (·.dst)=some d')(hb:σ.T.getD d' .any = .c (.v (.bool b)))(hbw:b=want)(hnw:nwO o=nw)(hrd:rdE o.op σ.ev=rd)(hF:∀τ : St,Q1h o σ.ev τ.ev→(∀r∈rd,hget τ.H r=hget σ.H r)→(∀d∈nw,τ.free d=true)→evO P o τ fun ρ=>ρ = τ.eff o.dst v wr)
 (h:evD P l0 rest (σ.eff o.dst v wr) (⟨v,rd,wr,nw⟩::acc) K):evD P l0 (o::rest) σ acc K:=
 ⟨⟨v,rd,wr,nw⟩,.inr ⟨j,want,d',b,hg,hd,.inl ⟨hb,.inl ⟨hbw,fun τ h1 h2 h3=>Q3q (hF τ h1 h2 h3)⟩⟩⟩,h⟩
theorem Q1m{v:AV}{rd:List Nat}{wr:List (Nat×List AV)}(hc:X3m o.op=true)(hg:o.guard=none)(hF:OpF P o σ.ev (hget σ.H) v rd wr)(h:evD P l0 rest (σ.eff o.dst v wr) (⟨v,rd,wr,[]⟩::acc) K):evD P l0 (o::rest) σ acc K:=X3s hg hF h
theorem Q1p{j d:Nat}{want b:Bool}{v:AV}{rd:List Nat}{wr:List (Nat×List AV)}(hc:X3m o.op=true)(hg:o.guard=some (j,want))(hd:(l0[j]?).bind (·.dst)=some d)(hb:σ.T.getD d .any = .c (.v (.bool b)))(hbw:b=want)(hF:OpF P o σ.ev (hget σ.H) v rd wr)
 (h:evD P l0 rest (σ.eff o.dst v wr) (⟨v,rd,wr,[]⟩::acc) K):evD P l0 (o::rest) σ acc K:=evD_grd hg hd hb hbw hF h
end
def evR(P:Program)(c:Code)(Φ : Exit→St→Prop):Nat→St→Prop
 |0,_=>False
 |n+1,σ=>AW P c σ fun ex σ'=>match ex with | .normal=>evR P c Φ n σ'|ex=>Φ ex σ'
theorem Q9q{P:Program}{c:Code}{Φ : Exit→St→Prop}{E:Env}:∀(n:Nat) (σ : St) (ι : Nat→Nat×Nat×Nat) (a:Act) (w:World),evR P c Φ n σ→Conc E ι σ a w →
 Code.rounds P c (fun ex a' w'=>∃ι' σ',Conc E ι' σ' a' w'∧Φ ex σ') n a w
 |0,σ,ι,a,w,h,_=>h.elim
 |n+1,σ,ι,a,w,h,hc=>by
  rw[rounds_succ]
  refine wp_mono (h E ι a w hc) fun ex a' w'=>?_
  rintro ⟨ι',σ',hc',hq⟩
  cases ex with
  |normal=>exact Q9q n σ' ι' a' w' hq hc'
  |_=>exact⟨ι',σ',hc',hq⟩
theorem Q3u{P:Program}{c:Code}{σ : St}{Φ : Exit→St→Prop}(n:Nat)(h:evR P c Φ n σ):evC P (.loop c) σ Φ:=
 fun E ι a w hc=>wp_loop_rounds n (Q9q n σ ι a w h hc)
theorem Q4z{P:Program}{c:Code}{σ : St}{Φ : Exit→St→Prop}{n:Nat}(h:∀Ψ : Exit→St→Prop,(∀σ',evR P c Φ n σ'→Ψ .normal σ')→(∀ex σ',ex≠.normal→Φ ex σ'→Ψ ex σ')→evC P c σ Ψ):evR P c Φ (n+1) σ:=
 Q2g c σ _ (h _ (fun _ h=>h) fun ex σ' hne h=>by cases ex<;>first|exact absurd rfl hne|exact h)
def unC:List AV→Option (List PV)
 |[]=>some []
 |.c x::l=>(unC l).map (x :: ·)
 |_=>none
@[simp] theorem unC_map (l:List PV):unC (l.map .c)=some l:=by
  induction l with
  |nil=>rfl
  |cons x l ih=>simp[unC,ih]
theorem X4e:∀{cs:List AV} {l:List PV},unC cs=some l→cs=l.map .c
 |[],l,h=>by cases h;rfl
 |.c x::cs,l,h=>by
  simp only[unC,Option.map_eq_some_iff] at h
  obtain⟨l',h',rfl⟩:=h
  rw[X4e h'];rfl
 |.any::_,_,h=>by cases h
 |.agg _::_,_,h=>by cases h
 |.tup _::_,_,h=>by cases h
 |.ptr _ _::_,_,h=>by cases h
 |.row _ _ _ _::_,_,h=>by cases h
 |.cut _ _ _ _ _ _ _::_,_,h=>by cases h
 |.ep _::_,_,h=>by cases h
 |.fn _ _::_,_,h=>by cases h
 |.fnb _ _::_,_,h=>by cases h
 |.amp _ _ _::_,_,h=>by cases h
def Q3w(H:List (Nat×List AV))(r e sz n:Nat):AV:=
 match hget H r with
 |some cs=>match unC cs with
  |some l=>if l.length=n*sz then .c (.sl false sz n l) else .row r e sz n
  |none=>.row r e sz n
 |none=>.row r e sz n
def Q7b(H:List (Nat×List AV))(r e sz lo n c:Nat)(ex:Bool):AV:=
 match hget H r with
 |some cs=>match unC ((cs.drop (lo*sz)).take (n*sz)) with
  |some l=>if l.length=n*sz then .c (.sl false sz n l) else .cut r e sz lo n c ex
  |none=>.cut r e sz lo n c ex
 |none=>.cut r e sz lo n c ex
mutual
def AV.view(H:List (Nat×List AV)):AV→AV
 |.any=>.any
 |.c x=>.c x
 |.agg cs=>.agg (AV.viewL H cs)
 |.tup cs=>.tup (AV.viewL H cs)
 |.ptr r off=>.ptr r off
 |.row r e sz n=>Q3w H r e sz n
 |.cut r e sz lo n m ex=>Q7b H r e sz lo n m ex
 |.ep cs=>.ep cs
 |.fn f cs=>.fn f (AV.viewL H cs)
 |.fnb f cs=>.fnb f (AV.viewL H cs)
 |.amp b ks cs=>.amp b ks (AV.viewL H cs)
def AV.viewL(H:List (Nat×List AV)):List AV→List AV
 |[]=>[]
 |x::l=>AV.view H x::AV.viewL H l
end
theorem Q4c(H:List (Nat×List AV)):∀(l:List AV) (j:Nat),(AV.viewL H l)[j]? = (l[j]?).map (AV.view H)
 |[],j=>by simp[AV.viewL]
 |x::l,0=>by simp[AV.viewL]
 |x::l,j+1=>by simpa [AV.viewL] using Q4c H l j
theorem Q3o(H:List (Nat×List AV))(l:List AV):(AV.viewL H l).length=l.length:=by
 induction l with
 |nil=>rfl
 |cons x l ih=>simp[AV.viewL,ih]
@[simp] theorem viewL_map (H:List (Nat×List AV)) (l:List PV):AV.viewL H (l.map .c)=l.map .c:=by
  induction l with
  |nil=>rfl
  |cons x l ih=>simp[AV.viewL,AV.view,ih]
theorem RV.view{S:Nat→Prop}{ι : Nat→Nat×Nat×Nat}{w:World}{H:List (Nat×List AV)}(hH:∀r cs,hget H r=some cs→Blk S ι w r cs){v:Value}{x:AV}(h:RV S ι w v x):RV (fun _=>True) ι w v (AV.view H x):=by
 have hS2:∀b,S b→b<w.heap.size→(fun _:Nat=>True) b∧w.heap[b]? = w.heap[b]?:=fun b h1 h2=>⟨trivial,rfl⟩
 induction h with
 |any v=>exact .any _
 |c v p hp=>exact .c _ _ (hp.mono hS2)
 |agg us cs hl h1 _ ih=>
  refine .agg us _ (by rw[Q3o];exact hl) h1 fun j u y hu hy=>?_
  rw[Q4c,Option.map_eq_some_iff] at hy
  obtain⟨x,hx',rfl⟩:=hy
  exact ih j u x hu hx'
 |tup us cs hl _ ih=>
  refine .tup us _ (by rw[Q3o];exact hl) fun j u y hu hy=>?_
  rw[Q4c,Option.map_eq_some_iff] at hy
  obtain⟨x,hx',rfl⟩:=hy
  exact ih j u x hu hx'
 |ptr q off=>exact .ptr q off
 |row q e sz n c h1 h2 h3 h4 h0=>
  show RV _ ι w _ (Q3w H q e sz n)
  have plain:RV (fun _=>True) ι w (.slice (some ⟨(ι q).1,0,none⟩) n c) (.row q e sz n):=.row q e sz n c h1 h2 h3 h4 h0
  unfold Q3w
  split
  · rename_i cs hcs
    split
    · rename_i l hl
      split
      · rename_i hn
        rw[X4e hl] at hcs
        rcases hH q _ hcs with⟨hz,_⟩|⟨cur,hh,hs,hlc,hc,hone1⟩
        · exact absurd hz h0
        · simp only[List.length_map] at hlc
          refine .c _ _ (.sl false sz _ n c (cur.toList.take l.length) l h1 h2 (fun e=>by cases e) (fun e=>by cases e) (by simp;omega) hn (fun _=>⟨_,_,rfl,trivial,fun j u hu=>?_⟩) fun j u x hu hx=>?_)
          · rw[List.getElem?_take] at hu
            split at hu
            · simp only[World.cell?,hh,Nat.zero_add];simpa using hu
            · cases hu
          · rw[List.getElem?_take] at hu
            split at hu
            · have:=(hc j u (.c x) (by simpa using hu) (by simp[hx])).1
              cases this with
              |c _ _ hp=>exact hp.mono hS2
            · cases hu
      · exact plain
    · exact plain
  · exact plain
 |rnil A q e sz hz=>
  show RV _ ι w _ (Q3w H q e sz 0)
  have plain:RV (fun _=>True) ι w (.slice A 0 0) (.row q e sz 0):=.rnil A q e sz hz
  unfold Q3w
  split
  · split
    · rename_i l hl
      split
      · rename_i hn
        have:l=[]:=List.eq_nil_of_length_eq_zero (by omega)
        subst this
        exact .c _ _ (.sl false sz A 0 0 [] [] (Nat.le_refl _) (Nat.zero_le _) (fun _=>rfl) (fun e=>by cases e) rfl (by simp) (fun h=>absurd rfl h) fun j u x hu=>by cases hu)
      · exact plain
    · exact plain
  · exact plain
 |cut q e sz lo n c ex h1 h2 h3 hx4 h4 h0=>
  show RV _ ι w _ (Q7b H q e sz lo n c ex)
  have plain:RV (fun _=>True) ι w (.slice (some ⟨(ι q).1,lo*sz,none⟩) n c) (.cut q e sz lo n c ex):=.cut q e sz lo n c ex h1 h2 h3 hx4 h4 h0
  unfold Q7b
  split
  · rename_i cs hcs
    split
    · rename_i l hl
      split
      · rename_i hn
        have hl':=X4e hl
        rcases hH q _ hcs with⟨hz,_⟩|⟨cur,hh,hs,hlc,hc,hone1⟩
        · exact absurd hz h0
        · have e1:(lo+c)*sz=lo*sz+c*sz:=Nat.add_mul _ _ _
          have e2:n*sz≤c*sz:=Nat.mul_le_mul_right _ h1
          refine .c _ _ (.sl false sz _ n c ((cur.toList.drop (lo*sz)).take (n*sz)) l h1 h2 (fun e=>by cases e) (fun e=>by cases e) (by simp;omega) hn (fun _=>⟨_,_,rfl,trivial,fun j u hu=>?_⟩) fun j u x hu hx=>?_)
          · rw[List.getElem?_take] at hu
            split at hu
            · simp only[World.cell?,hh];rw[List.getElem?_drop] at hu;simpa using hu
            · cases hu
          · have hx':(l.map AV.c)[j]? = some (.c x):=by simp[hx]
            rw[←hl',List.getElem?_take] at hx'
            rw[List.getElem?_take] at hu
            split at hu
            · rename_i hj
              rw[if_pos hj] at hx'
              rw[List.getElem?_drop] at hu hx'
              have:=(hc (lo*sz+j) u (.c x) (by simpa using hu) hx').1
              cases this with
              |c _ _ hp=>exact hp.mono hS2
            · cases hu
      · exact plain
    · exact plain
  · exact plain
 |cnil A q e sz lo ex hz=>
  show RV _ ι w _ (Q7b H q e sz lo 0 0 ex)
  have plain:RV (fun _=>True) ι w (.slice A 0 0) (.cut q e sz lo 0 0 ex):=.cnil A q e sz lo ex hz
  unfold Q7b
  split
  · split
    · rename_i l hl
      split
      · rename_i hn
        have:l=[]:=List.eq_nil_of_length_eq_zero (by omega)
        subst this
        exact .c _ _ (.sl false sz A 0 0 [] [] (Nat.le_refl _) (Nat.zero_le _) (fun _=>rfl) (fun e=>by cases e) rfl (by simp) (fun h=>absurd rfl h) fun j u x hu=>by cases hu)
      · exact plain
    · exact plain
  · exact plain
 |ep b o us cs hl hne hb' h4 h5=>exact .ep b o us cs hl hne trivial h4 fun j u x hu hx=>(h5 j u x hu hx).mono hS2
 |fn f us cs hl _ ih=>
  refine .fn f us _ (by rw[Q3o];exact hl) fun j u y hu hy=>?_
  rw[Q4c,Option.map_eq_some_iff] at hy
  obtain⟨x,hx',rfl⟩:=hy
  exact ih j u x hu hx'
 |fnb f us cs hl _ ih=>
  refine .fnb f us _ (by rw[Q3o];exact hl) fun j u y hu hy=>?_
  rw[Q4c,Option.map_eq_some_iff] at hy
  obtain⟨x,hx',rfl⟩:=hy
  exact ih j u x hu hx'
 |amp b X clk ks us cs hb' hh hk hu hl _ ih=>
  refine .amp b X clk ks us _ trivial hh hk hu (by rw[Q3o];exact hl) fun j u y hu hy=>?_
  rw[Q4c,Option.map_eq_some_iff] at hy
  obtain⟨x,hx',rfl⟩:=hy
  exact ih j u x hu hx'
mutual
def AV.flat:AV→Bool
 |.any=>true
 |.c (.v _)=>true
 |.agg cs=>AV.flatL cs
 |.tup cs=>AV.flatL cs
 |_=>false
def AV.flatL:List AV→Bool
 |[]=>true
 |x::l=>AV.flat x&&AV.flatL l
end
theorem Q8w:∀{l:List AV},AV.flatL l=true→∀(j:Nat) (x:AV),l[j]? = some x→AV.flat x=true
 |[],_,j,x,hx=>by simp at hx
 |y::l,h,j,x,hx=>by
  unfold AV.flatL at h
  rw[Bool.and_eq_true] at h
  cases j with
  |zero=>simp at hx;subst hx;exact h.1
  |succ j=>exact Q8w h.2 j x (by simpa using hx)
theorem RV.of_flat{S S':Nat→Prop}{ι ι':Nat→Nat×Nat×Nat}{w w':World}{v:Value}{x:AV}(h:RV S ι w v x):AV.flat x=true→RV S' ι' w' v x:=by
 induction h with
 |any v=>exact fun _=>.any _
 |c v p hp=>
  intro hx
  cases hp with
  |v _ h=>exact .c _ _ (.v _ h)
  |sl=>cases hx
  |mp=>cases hx
 |agg us cs hl h1 _ ih=>exact fun hx=>.agg us cs hl h1 fun j u x hu hx'=>ih j u x hu hx' (Q8w (by unfold AV.flat at hx;exact hx) j x hx')
 |tup us cs hl _ ih=>exact fun hx=>.tup us cs hl fun j u x hu hx'=>ih j u x hu hx' (Q8w (by unfold AV.flat at hx;exact hx) j x hx')
 |_=>intro hx;cases hx
section
variable {P:Program} {o:Oper} {σ : St} {K:St→Prop} {f:FuncId} {fn:Func} {cargs:List AV} {res:AV} {fo:Operand} {cas:Array Operand} {ts:Array TypeId} {caps:List AV}
theorem Q5o(hF:Fn P f cargs [] res [])(ho:o.op = .call {callee:=.value fo,args:=cas,argTypes:=ts})(hfo:Q0v fo=true)(has:cas.toList.all Q0v=true)(hf:σ.ev fo = .fn f caps)
 (hfn:P.funcs[f]? = some fn) (hname:(fn.name == "runtime.NumGoroutine")=false) (hbody:fn.body.isNone=false)
 (hargs:AV.viewL σ.H (cas.toList.map σ.ev++caps)=cargs) (hflat:AV.flat res=true) (hK:K (σ.put o.dst res)):OpA P o σ K:=by
 intro E ι a w hc K' Q hK'
 have hfv:=hc.ev fo hfo
 rw[hf] at hfv
 generalize hfe:a.eval fo=fv at hfv
 cases hfv with
 |fn _ us _ hul hus=>
  have hvs:∀(j:Nat) (v:Value) (y:AV),(cas.toList.map a.eval++us)[j]? = some v→(cas.toList.map σ.ev++caps)[j]? = some y→RV (Sx E ι σ.H) ι w v y:=fun j v y hv hy=>by
   rw[List.getElem?_append] at hv hy
   simp only[List.length_map] at hv hy
   split at hv
   · rename_i hj
     rw[if_pos hj] at hy
     rw[List.getElem?_map,Option.map_eq_some_iff] at hv hy
     obtain⟨x1,hx1,rfl⟩:=hv
     obtain⟨x2,hx2,rfl⟩:=hy
     rw[hx1] at hx2;cases hx2
     exact hc.ev x1 (List.all_eq_true.1 has x1 (List.mem_of_getElem? hx1))
   · rename_i hj
     rw[if_neg hj] at hy
     exact hus _ v y hv hy
  have hlen:(cas.toList.map a.eval++us).length=cargs.length:=by rw[←hargs,Q3o];simp[hul]
  have hcall:=hF {w:=w,S:=fun _=>True,ι:=ι,D:=[],hD:=fun r hr=>(by cases hr),hG:=hc.glob0} (cas.toList.map a.eval++us) rfl (fun r cs b hr=>(by cases hr)) ⟨fun r cs hr=>(by cases hr),fun r q cs ds hr=>(by cases hr)⟩ hlen (fun j v x hv hx=>by
   rw[←hargs,Q4c,Option.map_eq_some_iff] at hx
   obtain⟨y,hy,rfl⟩:=hx
   exact(hvs j v y hv hy).view hc.heap.blk)
  have hrun:(execOp a.eval o).run P w = .ok (.enter f (cas.toList.map a.eval++us).toArray) w:=by
   have h1:cas.map a.eval=(cas.toList.map a.eval).toArray:=by rw[←Array.toList_map]
   have hen:=Q5h hfn hname hbody ((cas.toList.map a.eval).toArray++us.toArray) w
   simp only[List.append_toArray] at hen
   simp only[execOp,ho,resolve,hfe,Deferred.ofValue,h1,Sem.run_bind,Sem.run_pure,Result.andThen_ok,invoke,Array.empty_append,List.append_toArray,List.nil_append,hen]
  unfold Oper.wp
  rw[hrun,Oper.upon_enter]
  refine hcall.mono fun e w'=>?_
  rintro ⟨v,ι',rfl,hres,_,hk⟩
  simp only
  have hblk:∀b,b<w.heap.size→w'.heap[b]? = w.heap[b]?:=fun b hb=>hk.block b hb fun r hr=>by cases hr
  have hR:∀{v:Value} {x:AV},RV (Sx E ι σ.H) ι w v x→RV (Sx E ι σ.H) ι w' v x:=fun hv=>hv.mono (fun b hb hlt=>⟨hb,hblk b hlt⟩) fun _ _=>rfl
  have hcn:Conc E ι σ a w':=by
   refine⟨hc.defers.mono fun b hb hlt=>⟨hb,hblk b hlt⟩,hc.size,fun i=>hR (hc.tmp i),⟨fun r cs hr=>?_,hc.heap.inj⟩,⟨hk.os.trans hc.keep.os,hk.tape.trans hc.keep.tape,hk.output.trans hc.keep.output,?_,fun b hb hbD=>?_,hc.keep.mine⟩⟩
   · rcases hc.heap.blk r cs hr with h0|⟨cur,hh,hs,hl,hcur,hone1⟩
     · exact .inl h0
     · exact .inr ⟨cur,by rw[hblk _ (Array.getElem?_eq_some_iff.1 hh).1];exact hh,hs,hl,fun j u x hu hx=>⟨hR (hcur j u x hu hx).1,(hcur j u x hu hx).2⟩,hone1⟩
   · have h1:=hc.keep.size
     have h2:w.heap.size≤w'.heap.size:=hk.size
     omega
   · have h1:=hc.keep.size
     rw[hblk b (by omega)];exact hc.keep.block b hb hbD
  exact hK' ι _ _ _ hK (hcn.put o.dst (hres.of_flat hflat))
mutual
def AV.rows:AV→List Nat
 |.agg cs=>AV.rowsL cs
 |.tup cs=>AV.rowsL cs
 |.row r _ _ _=>[r]
 |.cut r _ _ _ _ _ _=>[r]
 |.fn _ cs=>AV.rowsL cs
 |.fnb _ cs=>AV.rowsL cs
 |.amp _ _ cs=>AV.rowsL cs
 |_=>[]
def AV.rowsL:List AV→List Nat
 |[]=>[]
 |x::l=>AV.rows x++AV.rowsL l
end
mutual
theorem X5d{H H':List (Nat×List AV)}:∀(x:AV),(∀r∈AV.rows x,hget H' r=hget H r)→AV.view H' x=AV.view H x
 |.any,_=>rfl
 |.c _,_=>rfl
 |.agg cs,h=>by unfold AV.view;rw[Q3i cs (fun r hr=>h r (by unfold AV.rows;exact hr))]
 |.tup cs,h=>by unfold AV.view;rw[Q3i cs (fun r hr=>h r (by unfold AV.rows;exact hr))]
 |.ptr _ _,_=>rfl
 |.row r e sz n,h=>by unfold AV.view Q3w;rw[h r (by simp[AV.rows])]
 |.cut r e sz lo n c ex,h=>by unfold AV.view Q7b;rw[h r (by simp[AV.rows])]
 |.ep _,_=>rfl
 |.fn f cs,h=>by unfold AV.view;rw[Q3i cs (fun r hr=>h r (by unfold AV.rows;exact hr))]
 |.fnb f cs,h=>by unfold AV.view;rw[Q3i cs (fun r hr=>h r (by unfold AV.rows;exact hr))]
 |.amp b ks cs,h=>by unfold AV.view;rw[Q3i cs (fun r hr=>h r (by unfold AV.rows;exact hr))]
theorem Q3i{H H':List (Nat×List AV)}:∀(l:List AV),(∀r∈AV.rowsL l,hget H' r=hget H r)→AV.viewL H' l=AV.viewL H l
 |[],_=>rfl
 |x::l,h=>by
  unfold AV.viewL
  rw[X5d x (fun r hr=>h r (by unfold AV.rowsL;exact List.mem_append_left _ hr)),Q3i l (fun r hr=>h r (by unfold AV.rowsL;exact List.mem_append_right _ hr))]
end
theorem X1t{rd:List Nat}(hF:Fn P f cargs [] res [])(ho:o.op = .call {callee:=.value fo,args:=cas,argTypes:=ts})(hfo:Q0v fo=true)(has:cas.toList.all Q0v=true)(hf:σ.ev fo = .fn f caps)
 (hfn:P.funcs[f]? = some fn) (hname:(fn.name == "runtime.NumGoroutine")=false) (hbody:fn.body.isNone=false)
 (hargs:AV.viewL σ.H (cas.toList.map σ.ev++caps)=cargs) (hflat:AV.flat res=true) (hrd:AV.rowsL (cas.toList.map σ.ev++caps)=rd):OpF P o σ.ev (hget σ.H) res rd []:=
 fun τ hA hQ=>by
  have hA':∀x∈fo::cas.toList,τ.ev x = σ.ev x:=fun x hx=>hA x (by rw[ho];simpa [Op.operands,Call.operands] using hx)
  have hmap:cas.toList.map τ.ev=cas.toList.map σ.ev:=List.map_congr_left fun x hx=>hA' x (by simp[hx])
  refine Q5o hF ho hfo has (by rw[hA' fo (by simp)];exact hf) hfn hname hbody (by rw[←hargs,hmap];exact Q3i _ fun r hr=>hQ r (by rw[←hrd];exact hr)) hflat ?_
  cases o.dst<;>rfl
end
def leT:List AV→List AV→Prop
 |[],[]=>True
 |x::a,y::b=>(y = .any∨x=y)∧leT a b
 |_,_=>False
def leH(H:List (Nat×List AV)):List (Nat×List AV)→Prop
 |[]=>True
 |(k,cs)::l=>hget H k=some cs∧leH H l
theorem Q2j:∀{a b:List AV},leT a b→a.length=b.length
 |[],[],_=>rfl
 |x::a,y::b,h=>by simp[Q2j h.2]
 |[],_::_,h=>h.elim
 |_::_,[],h=>h.elim
theorem Q3l:∀{a b:List AV},leT a b→∀i,(a.getD i .any).le (b.getD i .any)
 |[],[],_,i=>AV.le_of rfl
 |x::a,y::b,h,0=>h.1.elim (fun e=>by show x.le y;rw[e];exact AV.le_any x) AV.le_of
 |x::a,y::b,h,i+1=>by
  have:=Q3l h.2 i
  simpa [List.getD_eq_getElem?_getD] using this
 |[],_::_,h,_=>h.elim
 |_::_,[],h,_=>h.elim
theorem Q0y{H:List (Nat×List AV)}:∀{l:List (Nat×List AV)},leH H l→∀r cs,hget l r=some cs→hget H r=some cs
 |(k,ds)::l,h,r,cs,hr=>by
  unfold hget at hr
  split at hr
  · rename_i hk;cases hr;subst hk;exact h.1
  · exact Q0y h.2 r cs hr
theorem St.le_of{σ τ : St}(h:leT σ.T τ.T)(hH:leH σ.H τ.H):σ.le τ:=⟨Q2j h,Q3l h,Q0y hH⟩
theorem Q5a{P:Program}{c:Code}{σ : St}{Φ : Exit→St→Prop}(n:Nat)(I:Nat→St)(h0:σ.le (I 0))
 (round:∀i,i≤n→∀Ψ : Exit→St→Prop,(∀σ',i+1≤n→σ'.le (I (i+1))→Ψ .normal σ')→(∀ex σ',ex≠.normal→Φ ex σ'→Ψ ex σ')→evC P c (I i) Ψ):evC P (.loop c) σ Φ:=
 Q2v (α:={i:Nat // i≤n}) (fun x=>I x.1) (fun x=>n-x.1) ⟨0,Nat.zero_le _⟩ h0 fun x Ψ h1 h2=>
  round x.1 x.2 Ψ (fun σ' hlt hle=>h1 σ' ⟨x.1+1,hlt⟩ (by have:=x.2;simp only;omega) hle) h2
section
variable {α : Type} {f:α→List PV} {sz:Nat} (hf:∀x,(f x).length=sz)
include hf
theorem Q1u:∀(l:List α),(l.flatMap f).length=l.length*sz
 |[]=>by simp
 |x::l=>by simp[Q1u l,hf,Nat.add_mul,Nat.add_comm]
theorem X2l:∀(l:List α) (i:Nat),(l.flatMap f).drop (i*sz)=(l.drop i).flatMap f
 |l,0=>by simp
 |[],i+1=>by simp
 |x::l,i+1=>by
  rw[List.flatMap_cons,List.drop_append,hf,show(i+1)*sz-sz=i*sz by rw[Nat.add_mul];omega,List.drop_eq_nil_of_le (by rw[hf,Nat.add_mul];omega),List.nil_append,X2l l i];rfl
theorem X2k:∀(l:List α) (i:Nat),(l.flatMap f).take (i*sz)=(l.take i).flatMap f
 |l,0=>by simp
 |[],i+1=>by simp
 |x::l,i+1=>by
  rw[List.flatMap_cons,List.take_append,hf,show(i+1)*sz-sz=i*sz by rw[Nat.add_mul];omega,List.take_of_length_le (by rw[hf,Nat.add_mul];omega),X2k l i];rfl
theorem Q4y{l:List α}{i:Nat}{y:α}(h:l[i]? = some y):((l.flatMap f).drop (i*sz)).take sz=f y:=by
 rw[X2l hf]
 obtain⟨h1,h2⟩:=List.getElem?_eq_some_iff.1 h
 rw[List.drop_eq_getElem_cons h1,h2,List.flatMap_cons,List.take_append,List.take_of_length_le (by rw[hf];exact Nat.le_refl _),hf,Nat.sub_self,List.take_zero,List.append_nil]
end
theorem opA_isnil{P:Program}{o:Oper}{σ : St}{K:St→Prop}{op:BinOp}{t t' sz n:Nat}{ex:Bool}{cs:List PV}{x:Operand}(hop:op = .eql∨op = .neq)(ho:o.op = .binOp op t x (.const (.slice none 0 0)) t')(ht:(slcT P t).isSome=true)(hx:Q0v x=true)(h1:σ.ev x = .c (.sl ex sz n cs))
 (hK:∀b:Bool,(b=true→n=0)→K (σ.put o.dst (.c (.v (.bool (if op = .eql then b else !b)))))):OpA P o σ K:=by
 intro E ι a w hc K' Q hK'
 have hxv:=hc.ev x hx
 rw[h1] at hxv
 generalize he:a.eval x=v at hxv
 cases hxv with
 |c _ _ hp=>
  cases hp with
  |sl _ _ A _ c us _ g1 g2 g3=>
   obtain⟨e,hu⟩:∃e,P.underlying t=some (.slice e):=by
    unfold slcT at ht
    cases hu:P.underlying t with
    |none=>simp[hu] at ht
    |some d=>cases d<;>simp[hu] at ht;exact⟨_,rfl⟩
   have heq:(Op.equal t (.slice A n c) (.slice none 0 0)).run P w = .ok A.isNone w:=by
    unfold Op.equal
    rw[show Op.maxDepth=9999+1 from rfl]
    unfold Op.equalIn
    rw[Sem.run_bind,run_underlying hu,Result.andThen_ok]
    cases A<;>rfl
   have g1':binOp .eql t (.slice A n c) (.slice none 0 0)=(do pure (.bool (←Op.equal t (.slice A n c) (.slice none 0 0)))):=rfl
   have g2':binOp .neq t (.slice A n c) (.slice none 0 0)=(do pure (.bool (!(←Op.equal t (.slice A n c) (.slice none 0 0))))):=rfl
   have hn:A.isNone=true→n=0:=fun h=>by
    have:=g3 (by simpa using h)
    omega
   have key:(execOp a.eval o).run P w = .ok (.value (.bool (if op = .eql then A.isNone else !A.isNone))) w:=by
    have hg:(eqGuard op t x (.const (.slice none 0 0)) (.slice A n c) (.slice none 0 0)).run P w = .ok () w:=Q3k rfl (by simp) t _ _ w
    have e2:a.eval (.const (.slice none 0 0)) = .slice none 0 0:=rfl
    rcases hop with rfl|rfl
    · simp only[execOp,ho,he,e2,Sem.run_bind,hg,Result.andThen_ok,g1',heq,Sem.run_pure,if_true]
    · simp only[execOp,ho,he,e2,Sem.run_bind,hg,Result.andThen_ok,g2',heq,Sem.run_pure,reduceCtorEq,if_false]
   unfold Oper.wp
   rw[key]
   exact hK' _ _ _ _ (hK _ hn) (hc.put o.dst (.c _ _ (.v _ rfl)))
theorem Q8x{P:Program}{o:Oper}{σ : St}{K:St→Prop}{op:BinOp}{t t' sz n:Nat}{ex:Bool}{cs:List PV}{x:Operand}(ho:o.op = .binOp op t x (.const (.slice none 0 0)) t')(h1:σ.ev x = .c (.sl ex sz n cs))(hop:op = .eql∨op = .neq)(ht:(slcT P t).isSome=true)(hx:Q0v x=true)
 (hK:∀b:Bool,(b=true→n=0)→K (σ.put o.dst (.c (.v (.bool (if op = .eql then b else !b)))))):evO P o σ K:=by
 unfold evO
 rw[ho]
 simp only[h1]
 exact⟨hx,rfl,opA_isnil hop ho ht hx h1 hK⟩
theorem Q7l{P:Program}{o:Oper}{σ : St}{K:St→Prop}{op:BinOp}{t t':Nat}{x:Operand}(ho:o.op = .binOp op t x (.const (.slice none 0 0)) t')(h1:σ.ev x = .c (.v (.slice none 0 0)))(hop:op = .eql∨op = .neq)(ht:(slcT P t).isSome=true)(hx:Q0v x=true)
 (hK:K (σ.put o.dst (.c (.v (.bool (if op = .eql then true else false)))))):OpA P o σ K:=by
 intro E ι a w hc K' Q hK'
 have hxv:=hc.ev x hx
 rw[h1] at hxv
 obtain⟨he,_⟩:=hxv.v_inv
 obtain⟨e,hu⟩:∃e,P.underlying t=some (.slice e):=by
  unfold slcT at ht
  cases hu:P.underlying t with
  |none=>simp[hu] at ht
  |some d=>cases d<;>simp[hu] at ht;exact⟨_,rfl⟩
 have heq:(Op.equal t (.slice none 0 0) (.slice none 0 0)).run P w = .ok true w:=by
  unfold Op.equal
  rw[show Op.maxDepth=9999+1 from rfl]
  unfold Op.equalIn
  rw[Sem.run_bind,run_underlying hu,Result.andThen_ok]
  rfl
 have g1':binOp .eql t (.slice none 0 0) (.slice none 0 0)=(do pure (.bool (←Op.equal t (.slice none 0 0) (.slice none 0 0)))):=rfl
 have g2':binOp .neq t (.slice none 0 0) (.slice none 0 0)=(do pure (.bool (!(←Op.equal t (.slice none 0 0) (.slice none 0 0))))):=rfl
 have key:(execOp a.eval o).run P w = .ok (.value (.bool (if op = .eql then true else false))) w:=by
  have hg:(eqGuard op t x (.const (.slice none 0 0)) (.slice none 0 0) (.slice none 0 0)).run P w = .ok () w:=Q3k rfl (by simp) t _ _ w
  have e2:a.eval (.const (.slice none 0 0)) = .slice none 0 0:=rfl
  rcases hop with rfl|rfl
  · simp only[execOp,ho,he,e2,Sem.run_bind,hg,Result.andThen_ok,g1',heq,Sem.run_pure,if_true]
  · simp only[execOp,ho,he,e2,Sem.run_bind,hg,Result.andThen_ok,g2',heq,Sem.run_pure,reduceCtorEq,if_false]
    rfl
 unfold Oper.wp
 rw[key]
 exact hK' _ _ _ _ hK (hc.put o.dst (.c _ _ (.v _ rfl)))
theorem X3j{P:Program}{o:Oper}{σ : St}{K:St→Prop}{t sz:Nat}{x lo:Operand}(ho:o.op = .slice t x (some lo) none none)(hx:Q0v x=true)(hlo:Q0v lo=true)(h1:σ.ev x = .c (.v (.slice none 0 0)))(hs:(slcT P t).map (fun p=>p.2.1)=some sz)(hl:σ.ev lo = .c (.v (.int .i64 0)))
 (hK:K (σ.put o.dst .any)):OpA P o σ K:=by
 obtain⟨e,by_,hs⟩:=Q7e hs
 have hput:∀y,(σ.put o.dst y).le (σ.put o.dst .any):=fun y=>by
  cases hd:o.dst with
  |none=>exact⟨rfl,fun i=>AV.le_refl _,fun r cs h=>h⟩
  |some d=>
   refine⟨by simp[St.put],fun i=>?_,fun r cs h=>h⟩
   show AV.le ((σ.T.set d y).getD i .any) ((σ.T.set d .any).getD i .any)
   rw[List.getD_eq_getElem?_getD,List.getD_eq_getElem?_getD]
   by_cases hi:d=i
   · subst hi
     by_cases hlt:d < σ.T.length
     · rw[List.getElem?_set_self hlt,List.getElem?_set_self hlt];exact AV.le_any _
     · rw[List.getElem?_eq_none (by rw[List.length_set];exact Nat.le_of_not_lt hlt),List.getElem?_eq_none (by rw[List.length_set];exact Nat.le_of_not_lt hlt)];exact AV.le_refl _
   · rw[List.getElem?_set_ne hi,List.getElem?_set_ne hi];exact AV.le_refl _
 intro E ι a w hc K' Q hK'
 exact X1u (K:=fun σ'=>σ'.le (σ.put o.dst .any)) ho hx (by simpa using hlo) rfl rfl hs (n:=0) (ex:=true) (cs:=[]) (by rw[h1];exact AV.le_nil true sz) (l:=0) (h:=0) (m:=0) (by simp[bnd,hl]) rfl rfl (by simp) (by simp) (hput _) E ι a w hc K' Q fun ι' σ' a' w' hk hc'=>hK' ι' _ a' w' hK (hc'.le hk)
def leL:List AV→List AV→Prop
 |[],[]=>True
 |x::a,y::b=>x.le y∧leL a b
 |_,_=>False
theorem X0q:∀{a b:List AV},leL a b→a.length=b.length∧∀(j:Nat) (x y:AV),a[j]? = some x→b[j]? = some y→x.le y
 |[],[],_=>⟨rfl,fun j x y hx=>by cases hx⟩
 |x::a,y::b,h=>by
  obtain⟨h1,h2⟩:=X0q h.2
  refine⟨by simp[h1],fun j u v hu hv=>?_⟩
  cases j with
  |zero=>simp at hu hv;subst hu hv;exact h.1
  |succ j=>exact h2 j u v (by simpa using hu) (by simpa using hv)
 |[],_::_,h=>h.elim
 |_::_,[],h=>h.elim
theorem Fn.args{P:Program}{f:FuncId}{args args':List AV}{H0 H1:List (Nat×List AV)}{res:AV}(h:Fn P f args H0 res H1)(hle:leL args' args):Fn P f args' H0 res H1:=by
 obtain⟨h1,h2⟩:=X0q hle
 intro E vs hD hS hH hl hv
 refine h E vs hD hS hH (hl.trans h1) fun j v x hj hx=>?_
 have:j<args'.length:=by rw[h1];exact(List.getElem?_eq_some_iff.1 hx).1
 exact h2 j _ x (List.getElem?_eq_getElem this) hx _ _ _ _ (hv j v _ hj (List.getElem?_eq_getElem this))
theorem ndI{a b:Prop}(x:a)(y:b):a∧b:=⟨x,y⟩
theorem evz:type_of% (And.intro @ofV.eq_1<|And.intro @ofV.eq_2<|And.intro @ofV.eq_3<|And.intro @AV.cells.eq_1<|And.intro @AV.cells.eq_2<|And.intro @AV.cells.eq_3<|And.intro @AV.cells.eq_4<|And.intro @Q5l.eq_1<|And.intro @Q5l.eq_2<|And.intro @bop.eq_1<|And.intro @bop.eq_2<|And.intro @bop.eq_3<|And.intro @bop.eq_4<|And.intro @bop.eq_5<|And.intro @bop.eq_6<|And.intro @bop.eq_7<|And.intro @bop.eq_8<|And.intro @bop.eq_9<|And.intro @bop.eq_10<|And.intro @bop.eq_11<|And.intro @bop.eq_12<|And.intro @bop.eq_13<|And.intro @bop.eq_14<|And.intro @bop.eq_15<|And.intro @bop.eq_16<|And.intro @bop.eq_17<|And.intro @bop.eq_18<|And.intro @bop.eq_19<|And.intro @bnd.eq_1<|And.intro @bnd.eq_2<|And.intro @Q9i.eq_1<|And.intro @lenA.eq_1<|And.intro @lenA.eq_2<|And.intro @lenA.eq_3<|And.intro @lenA.eq_4<|And.intro @lenA.eq_5<|And.intro @St.src.eq_1<|And.intro @St.src.eq_2<|And.intro @St.src.eq_3<|And.intro @St.src.eq_4<|And.intro @St.dst.eq_1<|And.intro @St.dst.eq_2<|And.intro @St.dst.eq_3<|And.intro @ne_eq.{1}<|And.intro @cond_true.{1}<|And.intro @cond_false.{1}<|And.intro @beq_self_eq_true.{0}<|And.intro @St.ev.eq_1<|And.intro @St.ev.eq_2<|And.intro @St.ev.eq_3<|And.intro @St.ev.eq_4<|And.intro @St.put.eq_1<|And.intro @St.put.eq_2<|And.intro @Q0v.eq_1<|And.intro @Q0v.eq_2<|And.intro @hget.eq_1<|And.intro @hget.eq_2<|And.intro @hput.eq_1<|And.intro @hput.eq_2<|And.intro @hdel.eq_1<|And.intro @hdel.eq_2<|And.intro @Q9h.eq_1<|And.intro @Q9h.eq_2<|And.intro @spl.eq_1<|And.intro @AV.refs.eq_1<|And.intro @AV.refs.eq_2<|And.intro @AV.refs.eq_3<|And.intro @AV.refs.eq_4<|And.intro @AV.refs.eq_5<|And.intro @AV.refs.eq_6<|And.intro @AV.refs.eq_7<|And.intro @AV.refs.eq_8<|And.intro @AV.refsL.eq_1<|And.intro @AV.refsL.eq_2<|And.intro @Q0z<|And.intro @Q5i<|And.intro @Value.oneCell'.eq_1<|And.intro @Value.oneCell'.eq_2<|And.intro @Value.oneCell'.eq_3<|And.intro @eqAV.eq_1<|And.intro @eqAV.eq_2<|And.intro @eqAV.eq_3<|And.intro @Q6z.eq_1<|And.intro @Q6z.eq_2<|And.intro @Q4e.eq_1<|And.intro @Q4e.eq_2<|And.intro @X5f.eq_1<|And.intro @X5f.eq_2<|And.intro @List.getD_cons_zero.{0}<|And.intro @List.getD_cons_succ.{0}<|And.intro @List.set.eq_1.{0}<|And.intro @List.set.eq_2.{0}<|And.intro @List.set.eq_3.{0}<|And.intro @List.map_cons.{0,0}<|And.intro @List.map_nil.{0,0}<|And.intro @List.all_cons.{0}<|And.intro @List.all_nil.{0}<|And.intro @List.length_cons.{0}<|And.intro @List.length_nil.{0}<|And.intro @List.take.eq_1.{0}<|And.intro @List.take.eq_2.{0}<|And.intro @List.take.eq_3.{0}<|And.intro @List.drop.eq_1.{0}<|And.intro @List.drop.eq_2.{0}<|And.intro @List.drop.eq_3.{0}<|And.intro @List.getElem?_cons_zero.{0}<|And.intro @List.getElem?_cons_succ.{0}<|And.intro @List.cons_append.{0}<|And.intro @List.nil_append.{0}<|And.intro @List.replicate.eq_1.{0}<|And.intro @List.replicate.eq_2.{0}<|And.intro @List.flatMap_cons.{0,0}<|And.intro @List.flatMap_nil.{0,0}<|And.intro @List.append_nil.{0}<|And.intro @Option.toList.eq_1.{0}<|And.intro @Option.toList.eq_2.{0}<|And.intro @Bool.or_false<|And.intro @Bool.false_or<|And.intro @Bool.and_true<|And.intro @Bool.true_and<|And.intro @Bool.not_false<|And.intro @Bool.not_true<|And.intro @Bool.or_true<|And.intro @Bool.true_or<|And.intro @true_and<|And.intro @and_true<|And.intro @Option.some.injEq.{0}<|And.intro @or_true<|And.intro @true_or<|And.intro @or_false<|And.intro @false_or<|And.intro @not_false_eq_true<|And.intro @not_true_eq_false<|And.intro @Option.map_some.{0,0}<|And.intro @Option.map_none.{0,0}<|And.intro @Option.isSome_some.{0}<|And.intro @Option.isSome_none.{0}<|And.intro @Int.ofNat_eq_natCast<|And.intro @Int.toNat_natCast<|And.intro @Nat.zero_add<|And.intro @Nat.add_zero<|And.intro @Nat.sub_zero<|And.intro @Nat.zero_mul<|And.intro @Nat.mul_zero<|And.intro @implies_true.{0}<|And.intro @false_implies<|And.intro @Bool.false_eq_true<|True.intro):=And.intro @ofV.eq_1<|And.intro @ofV.eq_2<|And.intro @ofV.eq_3<|And.intro @AV.cells.eq_1<|And.intro @AV.cells.eq_2<|And.intro @AV.cells.eq_3<|And.intro @AV.cells.eq_4<|And.intro @Q5l.eq_1<|And.intro @Q5l.eq_2<|And.intro @bop.eq_1<|And.intro @bop.eq_2<|And.intro @bop.eq_3<|And.intro @bop.eq_4<|And.intro @bop.eq_5<|And.intro @bop.eq_6<|And.intro @bop.eq_7<|And.intro @bop.eq_8<|And.intro @bop.eq_9<|And.intro @bop.eq_10<|And.intro @bop.eq_11<|And.intro @bop.eq_12<|And.intro @bop.eq_13<|And.intro @bop.eq_14<|And.intro @bop.eq_15<|And.intro @bop.eq_16<|And.intro @bop.eq_17<|And.intro @bop.eq_18<|And.intro @bop.eq_19<|And.intro @bnd.eq_1<|And.intro @bnd.eq_2<|And.intro @Q9i.eq_1<|And.intro @lenA.eq_1<|And.intro @lenA.eq_2<|And.intro @lenA.eq_3<|And.intro @lenA.eq_4<|And.intro @lenA.eq_5<|And.intro @St.src.eq_1<|And.intro @St.src.eq_2<|And.intro @St.src.eq_3<|And.intro @St.src.eq_4<|And.intro @St.dst.eq_1<|And.intro @St.dst.eq_2<|And.intro @St.dst.eq_3<|And.intro @ne_eq.{1}<|And.intro @cond_true.{1}<|And.intro @cond_false.{1}<|And.intro @beq_self_eq_true.{0}<|And.intro @St.ev.eq_1<|And.intro @St.ev.eq_2<|And.intro @St.ev.eq_3<|And.intro @St.ev.eq_4<|And.intro @St.put.eq_1<|And.intro @St.put.eq_2<|And.intro @Q0v.eq_1<|And.intro @Q0v.eq_2<|And.intro @hget.eq_1<|And.intro @hget.eq_2<|And.intro @hput.eq_1<|And.intro @hput.eq_2<|And.intro @hdel.eq_1<|And.intro @hdel.eq_2<|And.intro @Q9h.eq_1<|And.intro @Q9h.eq_2<|And.intro @spl.eq_1<|And.intro @AV.refs.eq_1<|And.intro @AV.refs.eq_2<|And.intro @AV.refs.eq_3<|And.intro @AV.refs.eq_4<|And.intro @AV.refs.eq_5<|And.intro @AV.refs.eq_6<|And.intro @AV.refs.eq_7<|And.intro @AV.refs.eq_8<|And.intro @AV.refsL.eq_1<|And.intro @AV.refsL.eq_2<|And.intro @Q0z<|And.intro @Q5i<|And.intro @Value.oneCell'.eq_1<|And.intro @Value.oneCell'.eq_2<|And.intro @Value.oneCell'.eq_3<|And.intro @eqAV.eq_1<|And.intro @eqAV.eq_2<|And.intro @eqAV.eq_3<|And.intro @Q6z.eq_1<|And.intro @Q6z.eq_2<|And.intro @Q4e.eq_1<|And.intro @Q4e.eq_2<|And.intro @X5f.eq_1<|And.intro @X5f.eq_2<|And.intro @List.getD_cons_zero.{0}<|And.intro @List.getD_cons_succ.{0}<|And.intro @List.set.eq_1.{0}<|And.intro @List.set.eq_2.{0}<|And.intro @List.set.eq_3.{0}<|And.intro @List.map_cons.{0,0}<|And.intro @List.map_nil.{0,0}<|And.intro @List.all_cons.{0}<|And.intro @List.all_nil.{0}<|And.intro @List.length_cons.{0}<|And.intro @List.length_nil.{0}<|And.intro @List.take.eq_1.{0}<|And.intro @List.take.eq_2.{0}<|And.intro @List.take.eq_3.{0}<|And.intro @List.drop.eq_1.{0}<|And.intro @List.drop.eq_2.{0}<|And.intro @List.drop.eq_3.{0}<|And.intro @List.getElem?_cons_zero.{0}<|And.intro @List.getElem?_cons_succ.{0}<|And.intro @List.cons_append.{0}<|And.intro @List.nil_append.{0}<|And.intro @List.replicate.eq_1.{0}<|And.intro @List.replicate.eq_2.{0}<|And.intro @List.flatMap_cons.{0,0}<|And.intro @List.flatMap_nil.{0,0}<|And.intro @List.append_nil.{0}<|And.intro @Option.toList.eq_1.{0}<|And.intro @Option.toList.eq_2.{0}<|And.intro @Bool.or_false<|And.intro @Bool.false_or<|And.intro @Bool.and_true<|And.intro @Bool.true_and<|And.intro @Bool.not_false<|And.intro @Bool.not_true<|And.intro @Bool.or_true<|And.intro @Bool.true_or<|And.intro @true_and<|And.intro @and_true<|And.intro @Option.some.injEq.{0}<|And.intro @or_true<|And.intro @true_or<|And.intro @or_false<|And.intro @false_or<|And.intro @not_false_eq_true<|And.intro @not_true_eq_false<|And.intro @Option.map_some.{0,0}<|And.intro @Option.map_none.{0,0}<|And.intro @Option.isSome_some.{0}<|And.intro @Option.isSome_none.{0}<|And.intro @Int.ofNat_eq_natCast<|And.intro @Int.toNat_natCast<|And.intro @Nat.zero_add<|And.intro @Nat.add_zero<|And.intro @Nat.sub_zero<|And.intro @Nat.zero_mul<|And.intro @Nat.mul_zero<|And.intro @implies_true.{0}<|And.intro @false_implies<|And.intro @Bool.false_eq_true<|True.intro
end
section
open Go.RowKit
def Ext(P:Program)(f:FuncId)(args:List Value)(res:AV):Prop:=
 ∀w:World,∃r,(callFunc f args.toArray).run P w = .ok (.value r) w∧∀(S:Nat→Prop) (ι : Nat→Nat×Nat×Nat) (w':World),RV S ι w' r res
def AV.ones:List AV→Option (List Value)
 |[]=>some []
 |.c (.v x)::l=>(AV.ones l).map (x :: ·)
 |_=>none
theorem ones_eq:∀{l:List AV} {vs:List Value},AV.ones l=some vs→l=vs.map fun v=>.c (.v v)
 |[],vs,h=>by cases h;rfl
 |.c (.v x)::l,vs,h=>by
  simp only[AV.ones,Option.map_eq_some_iff] at h
  obtain⟨ws,h',rfl⟩:=h
  rw[ones_eq h'];rfl
 |.c (.sl _ _ _ _)::_,_,h=>by cases h
 |.any::_,_,h=>by cases h
 |.agg _::_,_,h=>by cases h
 |.tup _::_,_,h=>by cases h
 |.ptr _ _::_,_,h=>by cases h
 |.row _ _ _ _::_,_,h=>by cases h
 |.cut _ _ _ _ _ _ _::_,_,h=>by cases h
 |.ep _::_,_,h=>by cases h
 |.fn _ _::_,_,h=>by cases h
 |.fnb _ _::_,_,h=>by cases h
 |.amp _ _ _::_,_,h=>by cases h
section
variable {P:Program} {o:Oper} {σ : St} {K:St→Prop} {f:FuncId} {vs:List Value} {res:AV} {fo:Operand} {cas:Array Operand} {ts:Array TypeId}
theorem Q4w(hF:Ext P f vs res)(ho:o.op = .call {callee:=.value fo,args:=cas,argTypes:=ts})(hfo:Q0v fo=true)(has:cas.toList.all Q0v=true)(hf:σ.ev fo = .fn f [])
 (hargs:AV.ones (cas.toList.map σ.ev)=some vs) (hK:K (σ.put o.dst res)):OpA P o σ K:=
 Q1y _ hK fun E ι a w h=>by
  have hfv:=h.ev fo hfo
  rw[hf] at hfv
  generalize hfe:a.eval fo=fv at hfv
  cases hfv with
  |fn _ us _ hul hus=>
   obtain rfl:=List.eq_nil_of_length_eq_zero hul
   obtain⟨r,hr,hv⟩:=hF w
   refine⟨r,?_,hv _ _ _⟩
   have hev:cas.toList.map a.eval=vs:=by
    have h1:=ones_eq hargs
    refine List.ext_getElem? fun j=>?_
    have h2:(cas.toList.map σ.ev)[j]? = (vs.map fun v=>AV.c (.v v))[j]?:=by rw[h1]
    rw[List.getElem?_map,List.getElem?_map] at h2
    rw[List.getElem?_map]
    cases hx:cas.toList[j]? with
    |none=>
     rw[hx] at h2
     cases hv':vs[j]? with
     |none=>rfl
     |some v=>rw[hv'] at h2;cases h2
    |some x=>
     rw[hx] at h2
     cases hv':vs[j]? with
     |none=>rw[hv'] at h2;cases h2
     |some v=>
      rw[hv'] at h2
      simp only[Option.map_some,Option.some.injEq] at h2
      have h3:=h.ev x (List.all_eq_true.1 has x (List.mem_of_getElem? hx))
      rw[h2] at h3
      simp only[Option.map_some,Option.some.injEq]
      exact h3.v_inv.1
   have h1:cas.map a.eval=vs.toArray:=by rw[←hev,←Array.toList_map]
   simp only[execOp,ho,resolve,hfe,Deferred.ofValue,h1,Sem.run_bind,Sem.run_pure,Result.andThen_ok,invoke,Array.empty_append,List.append_toArray,List.nil_append,List.append_nil,hr]
theorem Q5m(hF:Ext P f vs res)(ho:o.op = .call {callee:=.value fo,args:=cas,argTypes:=ts})(hfo:Q0v fo=true)(has:cas.toList.all Q0v=true)(hf:σ.ev fo = .fn f [])
 (hargs:AV.ones (cas.toList.map σ.ev)=some vs):OpF P o σ.ev (hget σ.H) res [] []:=
 fun τ hA hQ=>by
  have hA':∀x∈fo::cas.toList,τ.ev x = σ.ev x:=fun x hx=>hA x (by rw[ho];simpa [Op.operands,Call.operands] using hx)
  have hmap:cas.toList.map τ.ev=cas.toList.map σ.ev:=List.map_congr_left fun x hx=>hA' x (by simp[hx])
  refine Q4w hF ho hfo has (by rw[hA' fo (by simp)];exact hf) (by rw[hmap];exact hargs) ?_
  cases o.dst<;>rfl
end
theorem ext_of {P:Program} {f:FuncId} {fn:Func} {e:Array Value→Sem Value} {vs:List Value} {r:Value} {res:AV} (hf:P.funcs[f]? = some fn) (hname:(fn.name == "runtime.NumGoroutine")=false)
 (hb:fn.body.isNone=true) (hn:Extern.findNext fn=none) (he:Extern.find fn=some e) (hr:∀w,(e vs.toArray).run P w = .ok r w) (hv:∀(S:Nat→Prop) (ι : Nat→Nat×Nat×Nat) (w':World),RV S ι w' r res):Ext P f vs res:=
 fun w=>⟨r,by rw[run_callFunc_extern hf hname hb hn he,hr w];rfl,hv⟩
def smI(x y c:Int):Int:=(x+y+c)%18446744073709551616
def cyI(x y c:Int):Int:=(x+y+c)/18446744073709551616
theorem add64_ext {P:Program} {f:FuncId} {fn:Func} (hf:P.funcs[f]? = some fn) (hname:(fn.name == "runtime.NumGoroutine")=false)
 (hb:fn.body.isNone=true) (hn:Extern.findNext fn=none) (he:Extern.find fn=some add64Entry) (x y c:Int) (hx:0≤x) (hy:0≤y) (hc0:0≤c) (hc:c≤1) :
 Ext P f [.int .u64 x,.int .u64 y,.int .u64 c] (.tup [.c (.v (.int .u64 (smI x y c))),.c (.v (.int .u64 (cyI x y c)))]):=
 ext_of hf hname hb hn he (fun w=>run_add64 x y c hx hy hc0 hc w) fun S ι w'=>.tup [_,_] [_,_] rfl fun j u x hu hx=>by
  rcases j with _|_|j
  · cases hu;cases hx;exact .c _ _ (.v _ rfl)
  · cases hu;cases hx;exact .c _ _ (.v _ rfl)
  · cases hu
open Go.RowKit Go.Lib
section
variable {P:Program} {w:World}
end
theorem RV.row_cut{S:Nat→Prop}{ι : Nat→Nat×Nat×Nat}{w:World}{v:Value}{r e sz n:Nat}(h:RV S ι w v (.row r e sz n)):∃c,n≤c∧c≤maxLen∧RV S ι w v (.cut r e sz 0 n c true):=by
 cases h with
 |row _ _ _ _ c h1 h2 h3 h4 h0=>
  refine⟨c,h1,h2,?_⟩
  have:=RV.cut (S:=S) (ι:=ι) (w:=w) r e sz 0 n c true h1 h2 (by rw[Nat.zero_add];omega) (fun _=>by rw[Nat.zero_add];exact h3) h4 h0
  rwa [Nat.zero_mul] at this
 |rnil A _ _ _ h=>exact⟨0,Nat.le_refl _,Nat.zero_le _,.cnil A r e sz 0 true fun _ _=>h⟩
def AV.part:AV→Option (Nat×Nat×Nat×Nat×Nat)
 |.row r e sz n=>some (r,e,sz,0,n)
 |.cut r e sz lo n _ _=>some (r,e,sz,lo,n)
 |_=>none
theorem RV.part{S:Nat→Prop}{ι : Nat→Nat×Nat×Nat}{w:World}{v:Value}{x:AV}{r e sz lo n:Nat}(h:RV S ι w v x)(hp:x.part=some (r,e,sz,lo,n)) :
 ∃A c,v = .slice A n c∧n≤c∧c≤maxLen∧(0<n→A=some ⟨(ι r).1,lo*sz,none⟩∧(lo+n)*sz≤(ι r).2.1∧(ι r).2.1≠0):=by
 cases h with
 |row _ _ _ _ c h1 h2 h3 h4 h0=>
  cases hp
  refine⟨_,c,rfl,h1,h2,fun _=>⟨by rw[Nat.zero_mul],?_,h0⟩⟩
  rw[Nat.zero_add,←h3];exact Nat.mul_le_mul_right _ h1
 |rnil A=>cases hp;exact⟨A,0,rfl,Nat.le_refl _,Nat.zero_le _,fun h=>absurd h (by omega)⟩
 |cut _ _ _ _ _ c _ h1 h2 h3 hx h4 h0=>
  cases hp
  exact⟨_,c,rfl,h1,h2,fun _=>⟨rfl,Nat.le_trans (Nat.mul_le_mul_right _ (by omega)) h3,h0⟩⟩
 |cnil A=>cases hp;exact⟨A,0,rfl,Nat.le_refl _,Nat.zero_le _,fun h=>absurd h (by omega)⟩
 |_=>cases hp
section
variable {E:Env} {ι : Nat→Nat×Nat×Nat} {σ : St} {a:Act} {w:World}
end
section
variable {P:Program} {o:Oper} {σ : St} {K:St→Prop}
theorem X1l{t e sz by_:Nat}(h:slcT P t=some (e,sz,by_)):P.underlying t=some (.slice e)∧∃i,P.info? e=some i∧i.size=sz∧i.bytes=by_:=by
 unfold slcT at h
 split at h
 · rename_i e' hu
   split at h
   · rename_i i hi
     simp only[Option.some.injEq,Prod.mk.injEq] at h
     obtain⟨rfl,rfl,rfl⟩:=h
     exact⟨hu,i,hi,rfl,rfl⟩
   · cases h
 · cases h
end
open Go.RowKit Go.Lib
section
variable {P:Program} {o:Oper} {σ : St} {K:St→Prop}
theorem Q9j{ev:Operand→AV}{ea:Operand→Value}{lo hi mx:Option Operand}{n c:Nat}{l h m:Int}{w:World}
 (bv:∀(op:Option Operand) (dflt:Nat) (q:Int),(op=lo∨op=hi∨op=mx)→bnd ev dflt op=some q→(op=none∧q=dflt)∨∃x k,op=some x∧ea x = .int k q)
 (hl:bnd ev 0 lo=some l) (hh:bnd ev n hi=some h) (hm:bnd ev c mx=some m) (hmi:mx.isSome=true→hi.isSome=true) (hb:0≤l∧l≤h∧h≤m∧m≤c) :
 (Instr.sliceBounds true n c (lo.map ea) (hi.map ea) (mx.map ea)).run P w = .ok (l.toNat,h.toNat,m.toNat) w:=by
 obtain⟨b1,b2,b3,b4⟩:=hb
 rcases bv mx c m (.inr (.inr rfl)) hm with⟨rfl,rfl⟩|⟨xm,km,rfl,em⟩
 · rcases bv hi n h (.inr (.inl rfl)) hh with⟨rfl,rfl⟩|⟨xh,kh,rfl,eh⟩
   · rcases bv lo 0 l (.inl rfl) hl with⟨rfl,rfl⟩|⟨xl,kl,rfl,el⟩
     · simp[Instr.sliceBounds]
     · simp[Instr.sliceBounds,el,Q1w (P:=P) (m:=l) (y:=n) ⟨b1,by omega⟩]
   · have hbh:=fun code=>Q1w (P:=P) (k:=kh) (m:=h) (y:=c) (code:=code) ⟨by omega,by omega⟩ w
     rcases bv lo 0 l (.inl rfl) hl with⟨rfl,rfl⟩|⟨xl,kl,rfl,el⟩
     · simp[Instr.sliceBounds,eh,hbh]
     · simp[Instr.sliceBounds,eh,el,hbh,Q1w (P:=P) (m:=l) (y:=h.toNat) ⟨b1,by omega⟩]
 · have hbm:=fun code=>Q1w (P:=P) (k:=km) (m:=m) (y:=c) (code:=code) ⟨by omega,by omega⟩ w
   rcases bv hi n h (.inr (.inl rfl)) hh with⟨rfl,rfl⟩|⟨xh,kh,rfl,eh⟩
   · have:=hmi rfl;cases this
   · have hbh:=fun code=>Q1w (P:=P) (k:=kh) (m:=h) (y:=m.toNat) (code:=code) ⟨by omega,by omega⟩ w
     rcases bv lo 0 l (.inl rfl) hl with⟨rfl,rfl⟩|⟨xl,kl,rfl,el⟩
     · simp[Instr.sliceBounds,em,eh,hbm,hbh]
     · simp[Instr.sliceBounds,em,eh,el,hbm,hbh,Q1w (P:=P) (m:=l) (y:=h.toNat) ⟨b1,by omega⟩]
theorem Conc.bv{E:Env}{ι : Nat→Nat×Nat×Nat}{a:Act}{w:World}(hc:Conc E ι σ a w){lo hi mx:Option Operand}(hlo:lo.toList.all Q0v=true)(hhi:hi.toList.all Q0v=true)(hmx:mx.toList.all Q0v=true) :
 ∀(op:Option Operand) (dflt:Nat) (q:Int),(op=lo∨op=hi∨op=mx)→bnd σ.ev dflt op=some q→(op=none∧q=dflt)∨∃x k,op=some x∧a.eval x = .int k q:=fun op dflt q hop hq=>by
 have hok:op.toList.all Q0v=true:=by rcases hop with rfl|rfl|rfl<;>assumption
 cases op with
 |none=>simp[bnd] at hq;exact .inl ⟨rfl,hq.symm⟩
 |some x=>
  unfold bnd at hq
  simp only at hq
  split at hq
  · rename_i k m' hev
    cases hq
    have:=hc.ev x (by simpa using hok)
    rw[hev] at this
    exact .inr ⟨x,k,rfl,this.v_inv.1⟩
  · cases hq
theorem X0k{t e sz r lo0 n c:Nat}{ex:Bool}{x:Operand}{lo hi mx:Option Operand}{l h m:Int}(ho:o.op = .slice t x lo hi mx)(hx:Q0v x=true)(hlo:lo.toList.all Q0v=true)(hhi:hi.toList.all Q0v=true)(hmx:mx.toList.all Q0v=true)(hs:(slcT P t).map (fun p=>p.2.1)=some sz)
 (h1:σ.ev x = .cut r e sz lo0 n c ex) (hl:bnd σ.ev 0 lo=some l) (hh:bnd σ.ev n hi=some h) (hm:bnd σ.ev c mx=some m) (hmi:mx.isSome=true→hi.isSome=true) (hb:0≤l∧l≤h∧h≤m∧m≤c)
 (hK:K (σ.put o.dst (.cut r e sz (lo0+l.toNat) (h.toNat-l.toNat) (m.toNat-l.toNat) (ex && !mx.isSome)))):OpA P o σ K:=
 Q1y _ hK fun E ι a w hc=>by
  have hxv:=hc.ev x hx
  rw[h1] at hxv
  generalize he:a.eval x=v at hxv
  obtain⟨e0,by_,hs⟩:=Q7e hs
  obtain⟨hu,i,hi',hsz,_⟩:=X1l hs
  have hsize:(sizeOf e0).run P w = .ok sz w:=Q3j (by simp[szT,hi',hsz]) w
  have hrunb:=Q9j (P:=P) (w:=w) (hc.bv hlo hhi hmx) hl hh hm hmi hb
  obtain⟨b1,b2,b3,b4⟩:=hb
  have run:∀{A:Option Addr},v = .slice A n c→(execOp a.eval o).run P w = .ok (.value (.slice (if m.toNat=l.toNat then A else A.map (·.add (l.toNat*sz))) (h.toNat-l.toNat) (m.toNat-l.toNat))) w:=fun {A} hv=>by
   subst hv
   simp only[execOp,ho,he,Instr.sliceAt,Sem.run_bind,run_underlying hu,Result.andThen_ok,Instr.slice,hrunb,hsize,Sem.run_pure]
  have mxn:mx=none→m=c:=fun e=>by subst e;simp[bnd] at hm;exact hm.symm
  cases hxv with
  |cut _ _ _ _ _ _ _ g1 g2 g3 gx g4 g0=>
   refine⟨_,run rfl,?_⟩
   by_cases hml:m.toNat=l.toNat
   · rw[if_pos hml]
     have e1:h.toNat-l.toNat=0:=by omega
     have e2:m.toNat-l.toNat=0:=by omega
     rw[e1,e2]
     refine .cnil _ r e sz _ _ fun hex h0=>?_
     simp only[Bool.and_eq_true,Bool.not_eq_true',Option.isSome_eq_false_iff,Option.isNone_iff_eq_none] at hex
     have:=mxn hex.2
     have hq:=gx hex.1
     rw[show lo0+c=0 by omega,Nat.zero_mul] at hq
     exact hq.symm
   · rw[if_neg hml]
     have e1:(lo0+l.toNat)*sz=lo0*sz+l.toNat*sz:=Nat.add_mul _ _ _
     have:=RV.cut (S:=Sx E ι σ.H) (ι:=ι) (w:=w) r e sz (lo0+l.toNat) (h.toNat-l.toNat) (m.toNat-l.toNat) (ex && !mx.isSome) (by omega) (by omega)
      (Nat.le_trans (Nat.mul_le_mul_right _ (by omega)) g3) (fun hex=>by
        simp only[Bool.and_eq_true,Bool.not_eq_true',Option.isSome_eq_false_iff,Option.isNone_iff_eq_none] at hex
        have:=mxn hex.2
        rw[show lo0+l.toNat+(m.toNat-l.toNat)=lo0+c by omega];exact gx hex.1) g4 g0
     rw[e1] at this
     simpa [Q2r] using this
  |cnil A _ _ _ _ _ g=>
   refine⟨_,run rfl,?_⟩
   have e0:l.toNat=0:=by omega
   have e1:h.toNat=0:=by omega
   have e2:m.toNat=0:=by omega
   rw[e0,e1,e2]
   simp only[Nat.sub_self,if_true,Nat.add_zero]
   exact .cnil _ r e sz _ _ fun hex h0=>g (by simpa using (Bool.and_eq_true _ _▸hex:_∧_).1) h0
theorem X0j{t e sz r n:Nat}{x:Operand}{lo hi mx:Option Operand}{l h m:Int}(ho:o.op = .slice t x lo hi mx)(hx:Q0v x=true)(hlo:lo.toList.all Q0v=true)(hhi:hi.toList.all Q0v=true)(hmx:mx.toList.all Q0v=true)(hs:(slcT P t).map (fun p=>p.2.1)=some sz)
 (h1:σ.ev x = .row r e sz n) (hl:bnd σ.ev 0 lo=some l) (hh:bnd σ.ev n hi=some h) (hm:bnd σ.ev n mx=some m) (hmi:mx.isSome=true→hi.isSome=true) (hb:0≤l∧l≤h∧h≤m∧m≤n)
 (hK:∀q:Nat,h.toNat-l.toNat≤q→(mx.isSome=true→q=m.toNat-l.toNat)→K (σ.put o.dst (.cut r e sz l.toNat (h.toNat-l.toNat) q (!mx.isSome)))):OpA P o σ K:=by
 intro E ι a w hc K' Q hK'
 obtain⟨c,hc1,hc2,hcv⟩:=(show RV (Sx E ι σ.H) ι w (a.eval x) (.row r e sz n) by rw[←h1];exact hc.ev x hx).row_cut
 obtain⟨b1,b2,b3,b4⟩:=hb
 obtain⟨e0,by_,hs⟩:=Q7e hs
 obtain⟨hu,i,hi',hsz,_⟩:=X1l hs
 have hsize:(sizeOf e0).run P w = .ok sz w:=Q3j (by simp[szT,hi',hsz]) w
 obtain⟨m',hm',hmm,hmn⟩:∃m':Int,bnd σ.ev c mx=some m'∧(h≤m'∧m'≤c)∧(mx.isSome=true→m'=m):=by
  cases mx with
  |none=>exact⟨c,rfl,⟨by omega,by omega⟩,fun h=>by cases h⟩
  |some y=>exact⟨m,hm,⟨b3,by omega⟩,fun _=>rfl⟩
 have mxn:mx=none→m'=c:=fun e=>by subst e;simp[bnd] at hm';exact hm'.symm
 have hrunb:=Q9j (P:=P) (w:=w) (hc.bv hlo hhi hmx) hl hh hm' hmi ⟨b1,b2,hmm.1,hmm.2⟩
 generalize he:a.eval x=v at hcv
 have run:∀{A:Option Addr},v = .slice A n c→(execOp a.eval o).run P w = .ok (.value (.slice (if m'.toNat=l.toNat then A else A.map (·.add (l.toNat*sz))) (h.toNat-l.toNat) (m'.toNat-l.toNat))) w:=fun {A} hv=>by
  subst hv
  simp only[execOp,ho,he,Instr.sliceAt,Sem.run_bind,run_underlying hu,Result.andThen_ok,Instr.slice,hrunb,hsize,Sem.run_pure]
 have fin:∀{u:Value},(execOp a.eval o).run P w = .ok (.value u) w→RV (Sx E ι σ.H) ι w u (.cut r e sz l.toNat (h.toNat-l.toNat) (m'.toNat-l.toNat) (!mx.isSome))→o.wp P a w K' Q:=fun {u} hr hv=>by
  unfold Oper.wp
  rw[hr]
  exact hK' ι _ _ _ (hK (m'.toNat-l.toNat) (by omega) (fun h=>by rw[hmn h])) (hc.put o.dst hv)
 cases hcv with
 |cut _ _ _ _ _ _ _ g1 g2 g3 gx g4 g0=>
  have gx':=gx rfl
  refine fin (run rfl) ?_
  rw[Nat.zero_add] at g3 gx'
  by_cases hml:m'.toNat=l.toNat
  · rw[if_pos hml]
    have e1:h.toNat-l.toNat=0:=by omega
    have e2:m'.toNat-l.toNat=0:=by omega
    rw[e1,e2]
    refine .cnil _ r e sz _ _ fun hex h0=>?_
    simp only[Bool.not_eq_true',Option.isSome_eq_false_iff,Option.isNone_iff_eq_none] at hex
    have:=mxn hex
    rw[←gx',show c=0 by omega,Nat.zero_mul]
  · rw[if_neg hml]
    have:=RV.cut (S:=Sx E ι σ.H) (ι:=ι) (w:=w) r e sz l.toNat (h.toNat-l.toNat) (m'.toNat-l.toNat) (!mx.isSome) (by omega) (by omega)
     (Nat.le_trans (Nat.mul_le_mul_right _ (by omega)) g3) (fun hex=>by
       simp only[Bool.not_eq_true',Option.isSome_eq_false_iff,Option.isNone_iff_eq_none] at hex
       have:=mxn hex
       rw[show l.toNat+(m'.toNat-l.toNat)=c by omega];exact gx') g4 g0
    simpa [Q2r] using this
 |cnil A _ _ _ _ _ g=>
  refine fin (run rfl) ?_
  have e0:l.toNat=0:=by omega
  have e1:h.toNat=0:=by omega
  have e2:m'.toNat=0:=by omega
  rw[e0,e1,e2]
  simp only[Nat.sub_self,if_true]
  exact .cnil _ r e sz _ _ fun hex h0=>g rfl rfl
end
end
section
open Go.RowKit Go.Lib
section
variable {P:Program} {o:Oper} {σ : St} {K:St→Prop}
theorem OpA.nilrow_after(i d e sz:Nat)(h:OpA P o σ fun σ1=>σ1.T.getD i .any = .c (.v (.slice none 0 0))∧i < σ1.T.length∧σ1.free d=true∧d<1000∧K ⟨σ1.T.set i (.row d e sz 0),hput σ1.H d []⟩):OpA P o σ K:=
 fun E ι a w hc K' Q hK'=>h E ι a w hc K' Q fun ι' σ' a' w' ⟨h1,h0,hf,hd,h2⟩ hc'=>by
  have hv:=hc'.tmp i
  rw[h1] at hv
  obtain⟨hv,_⟩:=hv.v_inv
  have hg:=hc'.grow (w':=w') hf hd (World.grownBy.refl w' none) none (fun b hb=>by cases hb) (0,0,e) (cs:=[]) (fun h=>absurd rfl h) rfl (.inl ⟨rfl,rfl⟩)
  refine hK' _ _ a' w' h2 ⟨hg.defers,by simpa using hg.size,fun j=>?_,hg.heap,hg.keep⟩
  by_cases hj:j=i
  · subst hj
    have:(σ'.T.set j (.row d e sz 0)).getD j .any = .row d e sz 0:=by simp[List.getD,List.getElem?_set,h0]
    show RV _ _ w' _ ((σ'.T.set j (.row d e sz 0)).getD j .any)
    rw[this,hv];exact .rnil none d e sz (by rw[Q2a])
  · have:(σ'.T.set i (.row d e sz 0)).getD j .any = σ'.T.getD j .any:=by simp[List.getD,List.getElem?_set,Ne.symm hj]
    show RV _ _ w' _ ((σ'.T.set i (.row d e sz 0)).getD j .any)
    rw[this];exact hg.tmp j
end
@[simp] theorem refsL_any (d k:Nat):AV.refsL d (List.replicate k AV.any)=false:=by
  induction k with
  |zero=>rfl
  |succ k ih=>simp[List.replicate_succ,AV.refsL,AV.refs,ih]
theorem X1p{d:Nat}{l m:List AV}(h:AV.refsL d l=false)(hs:∀x∈m,x∈l):AV.refsL d m=false:=by
 induction m with
 |nil=>rfl
 |cons x m ih=>
  unfold AV.refsL
  rw[ih fun y hy=>hs y (by simp[hy]),Bool.or_false]
  obtain⟨j,hj⟩:=List.mem_iff_getElem?.1 (hs x (by simp))
  exact Q3b h j x hj
@[simp] theorem refsL_take {d k:Nat} {l:List AV} (h:AV.refsL d l=false):AV.refsL d (l.take k)=false:=X1p h fun x hx=>List.mem_of_mem_take hx
@[simp] theorem refsL_drop {d k:Nat} {l:List AV} (h:AV.refsL d l=false):AV.refsL d (l.drop k)=false:=X1p h fun x hx=>List.mem_of_mem_drop hx
theorem Blk.more{S:Nat→Prop}{ι : Nat→Nat×Nat×Nat}{w:World}{r:Nat}{cs:List AV}(h:Blk S ι w r cs)(k:Nat)(hk:cs.length+k≤(ι r).2.1):Blk S ι w r (cs++List.replicate k .any):=by
 rcases h with⟨h0,rfl⟩|⟨cur,hh,hs,hl,hc,hone1⟩
 · obtain rfl:k=0:=by omega
   exact .inl ⟨h0,rfl⟩
 · refine .inr ⟨cur,hh,hs,by simp;omega,fun j u x hu hx=>?_,hone1⟩
   rw[List.getElem?_append] at hx
   split at hx
   · exact hc j u x hu hx
   · rw[List.getElem?_replicate] at hx
     split at hx
     · cases hx;exact⟨.any _,hone1 u (by simpa using List.mem_of_getElem? (l:=cur.toList) (by simpa using hu))⟩
     · cases hx
theorem Fn.frz{P:Program}{f:FuncId}{args:List AV}{H0:List (Nat×List AV)}{d e sz n:Nat}{pcs:List PV}(h:Fn P f args H0 (.row d e sz n) [(d,pcs.map .c)])(hl:pcs.length=n*sz):Fn P f args H0 (.c (.sl false sz n pcs)) []:=by
 intro E vs hD hS hH hlen hargs
 refine(h E vs hD hS hH hlen hargs).mono fun e w'=>?_
 rintro ⟨v,ι',rfl,hres,hcH,hk⟩
 have hg:hget [(d,pcs.map AV.c)] d=some (pcs.map AV.c):=by simp[Q3g]
 have hS1:∀b,Sx E ι' [(d,pcs.map .c)] b→b<w'.heap.size→Sx E ι' [] b:=fun b hb _=>⟨hb.1,fun r cs hr=>by cases hr⟩
 have hM:(ι' d).2.1≠0→Sx E ι' [] (ι' d).1:=fun hz=>⟨.inr (by
  by_cases hm:d∈E.D
  · have m1:=(hk.mine d _ hg).1 hm
    rw[m1] at hz ⊢;exact .inr ⟨d,hm,hz,rfl⟩
  · exact(hk.mine d _ hg).2 hm hz),fun r cs hr=>by cases hr⟩
 have hres2:=hres.frz hS1 (hcH.blk d _ hg) hM
 simp only[AV.frz,if_true,if_pos hl.symm] at hres2
 exact⟨v,ι',rfl,hres2,⟨fun r cs hr=>(by cases hr),fun r q cs ds hr=>(by cases hr)⟩,⟨hk.os,hk.tape,hk.output,hk.size,hk.block,fun r cs hr=>(by cases hr)⟩⟩
theorem Blk.pre{S:Nat→Prop}{ι : Nat→Nat×Nat×Nat}{w:World}{r:Nat}{cs ds:List AV}(h:Blk S ι w r (cs++ds)):Blk S ι w r cs:=by
 rcases h with⟨h0,he⟩|⟨cur,hh,hs,hl,hc,hone1⟩
 · exact .inl ⟨h0,(List.append_eq_nil_iff.1 he).1⟩
 · exact .inr ⟨cur,hh,hs,by simp at hl;omega,fun j u x hu hx=>hc j u x hu (by rw[List.getElem?_append_left (List.getElem?_eq_some_iff.1 hx).1];exact hx),hone1⟩
theorem Fn.weaken{P:Program}{f:FuncId}{args:List AV}{H0 H1 H2:List (Nat×List AV)}{res res':AV}(h:Fn P f args H0 res H1)(hle:res.le res')(hH:∀r cs,hget H2 r=some cs→∃ds,hget H1 r=some (cs++ds)):Fn P f args H0 res' H2:=by
 intro E vs hD hS hH' hlen hargs
 refine(h E vs hD hS hH' hlen hargs).mono fun e w'=>?_
 rintro ⟨v,ι',rfl,hres,hcH,hk⟩
 have hSx:∀b,Sx E ι' H1 b→b<w'.heap.size→Sx E ι' H2 b∧w'.heap[b]? = w'.heap[b]?:=fun b ⟨h1,h2⟩ _=>⟨⟨h1,fun r cs hr=>by obtain⟨ds,h⟩:=hH r cs hr;exact h2 r _ h⟩,rfl⟩
 refine⟨v,ι',rfl,hle _ _ _ _ (hres.mono hSx fun _ _=>rfl),⟨fun r cs hr=>?_,fun r q cs ds hr hq=>?_⟩,⟨hk.os,hk.tape,hk.output,hk.size,hk.block,fun r cs hr=>?_⟩⟩
 · obtain⟨ds,hr1⟩:=hH r cs hr
   rcases(hcH.blk r _ hr1).pre with h0|⟨cur,hh,hs,hl,hc,hone1⟩
   · exact .inl h0
   · exact .inr ⟨cur,hh,hs,hl,fun j u x hu hx=>⟨(hc j u x hu hx).1.mono hSx fun _ _=>rfl,(hc j u x hu hx).2⟩,hone1⟩
 · obtain⟨ds',hr1⟩:=hH r cs hr
   obtain⟨es',hq1⟩:=hH q ds hq
   exact hcH.inj r q _ _ hr1 hq1
 · obtain⟨ds,hr1⟩:=hH r cs hr
   exact hk.mine r _ hr1
@[simp] theorem renL_app (ρ : Nat→Nat) (l r:List AV):AV.renL ρ (l++r)=AV.renL ρ l++AV.renL ρ r:=by
  induction l with
  |nil=>rfl
  |cons x l ih=>simp[AV.renL,ih]
open Go.RowKit Go.Lib
def St.to(σ τ : St):Prop:=∀(E:Env) (ι : Nat→Nat×Nat×Nat) (a:Act) (w:World),Conc E ι σ a w→∃ι',Conc E ι' τ a w
theorem St.to.of_le{σ τ : St}(h:σ.le τ):σ.to τ:=fun E ι a w hc=>⟨ι,hc.le h⟩
theorem St.to.trans{σ τ ρ : St}(h:σ.to τ)(k:τ.to ρ):σ.to ρ:=fun E ι a w hc=>by
 obtain⟨ι',hc'⟩:=h E ι a w hc
 exact k E ι' a w hc'
theorem St.to.frz{σ : St}(r:Nat){pcs:List PV}(hr:hget σ.H r=some (pcs.map .c)):σ.to (σ.frz r pcs):=fun E ι a w hc=>⟨ι,hc.frz hr⟩
theorem St.to.nilrow{σ : St}(i d e sz:Nat)(h1:σ.T.getD i .any = .c (.v (.slice none 0 0)))(h0:i < σ.T.length)(hf:σ.free d=true)(hd:d<1000):σ.to ⟨σ.T.set i (.row d e sz 0),hput σ.H d []⟩:=fun E ι a w hc'=>by
 have hv:=hc'.tmp i
 rw[h1] at hv
 obtain⟨hv,_⟩:=hv.v_inv
 have hg:=hc'.grow (w':=w) hf hd (World.grownBy.refl w none) none (fun b hb=>by cases hb) (0,0,e) (cs:=[]) (fun h=>absurd rfl h) rfl (.inl ⟨rfl,rfl⟩)
 refine⟨_,hg.defers,by simpa using hg.size,fun j=>?_,hg.heap,hg.keep⟩
 by_cases hj:j=i
 · subst hj
   have:(σ.T.set j (.row d e sz 0)).getD j .any = .row d e sz 0:=by simp[List.getD,List.getElem?_set,h0]
   show RV _ _ w _ ((σ.T.set j (.row d e sz 0)).getD j .any)
   rw[this,hv];exact .rnil none d e sz (by rw[Q2a])
 · have:(σ.T.set i (.row d e sz 0)).getD j .any = σ.T.getD j .any:=by simp[List.getD,List.getElem?_set,Ne.symm hj]
   show RV _ _ w _ ((σ.T.set i (.row d e sz 0)).getD j .any)
   rw[this];exact hg.tmp j
theorem X3n{N:List Nat}{l:List AV}(h:AV.inNL N l=true)(i:Nat):AV.inN N (l.getD i .any)=true:=by
 rw[List.getD_eq_getElem?_getD]
 cases hi:l[i]? with
 |none=>rfl
 |some x=>exact Q3x h i x hi
theorem Q9l{ρ κ : Nat→Nat}{N:List Nat}(hk:∀r∈N,κ (ρ r)=r):∀{H:List (Nat×List AV)} {q:Nat} {ds:List AV},(∀r∈H.map (·.1),r∈N)→hget (renH ρ H) q=some ds→∃r cs,r∈N∧q = ρ r∧κ q=r∧hget H r=some cs∧ds=AV.renL ρ cs
 |(k,cs)::H,q,ds,hN,h=>by
  unfold renH at h
  rw[Q3g] at h
  split at h
  · rename_i e
    subst e;cases h
    have hm:=hN k (by simp)
    exact⟨k,cs,hm,rfl,hk k hm,by rw[Q3g,if_pos rfl],rfl⟩
  · rename_i hne
    obtain⟨r,cs',hm,rfl,h2,h3,h4⟩:=Q9l hk (H:=H) (fun r hr=>hN r (by simp only[List.map_cons,List.mem_cons];exact .inr hr)) h
    exact⟨r,cs',hm,rfl,h2,by rw[Q3g,if_neg (fun e=>hne (by rw[e]))];exact h3,h4⟩
theorem St.to.rn{σ : St}(ρ κ : Nat→Nat)(N:List Nat)(hT:AV.inNL N σ.T=true)(hHk:∀r∈σ.H.map (·.1),r∈N)(hH:inH N σ.H=true)(hk:∀r∈N,κ (ρ r)=r)(hD:∀r∈N,ρ r=r∨ρ r<1000):σ.to ⟨AV.renL ρ σ.T,renH ρ σ.H⟩:=fun E ι a w hc=>by
 have hN:∀r∈N,(fun q=>ι (κ q)) (ρ r) = ι r:=fun r hr=>by simp only;rw[hk r hr]
 have back:∀q ds,hget (renH ρ σ.H) q=some ds→∃r cs,r∈N∧q = ρ r∧κ q=r∧hget σ.H r=some cs∧ds=AV.renL ρ cs:=fun q ds hq=>Q9l hk hHk hq
 have hS:∀b,Sx E ι σ.H b→b<w.heap.size→Sx E (fun q=>ι (κ q)) (renH ρ σ.H) b∧w.heap[b]? = w.heap[b]?:=fun b ⟨h1,h2⟩ _=>⟨⟨h1,fun q ds hq hz=>by
  obtain⟨r,cs,_,_,hkq,hr,_⟩:=back q ds hq
  simp only[hkq] at hz ⊢
  exact h2 r cs hr hz⟩,rfl⟩
 have hR:∀{v:Value} {x:AV},RV (Sx E ι σ.H) ι w v x→AV.inN N x=true→RV (Sx E (fun q=>ι (κ q)) (renH ρ σ.H)) (fun q=>ι (κ q)) w v (AV.ren ρ x):=fun hv hx=>RV.reren (ι:=fun q=>ι (κ q)) (κ:=ι) (ρ:=ρ) hN (hv.mono hS fun _ _=>rfl) hx
 refine⟨fun q=>ι (κ q),hc.defers.mono hS,by rw[Q2b];exact hc.size,fun i=>?_,⟨fun q ds hq=>?_,fun q q' ds es hq hq' hne hz1 hz2=>?_⟩,⟨hc.keep.os,hc.keep.tape,hc.keep.output,hc.keep.size,hc.keep.block,fun q ds hq=>?_⟩⟩
 · have:(AV.renL ρ σ.T).getD i .any=AV.ren ρ (σ.T.getD i .any):=by
    rw[List.getD_eq_getElem?_getD,List.getD_eq_getElem?_getD,Q2w]
    cases σ.T[i]? <;> rfl
   show RV _ _ w _ ((AV.renL ρ σ.T).getD i .any)
   rw[this]
   exact hR (hc.tmp i) (X3n hT i)
 · obtain⟨r,cs,hm,rfl,hkq,hr,rfl⟩:=back q ds hq
   rcases hc.heap.blk r cs hr with⟨h0,rfl⟩|⟨cur,hh,hs,hl,hcc,hone1⟩
   · exact .inl ⟨by simp only[hkq];exact h0,rfl⟩
   · refine .inr ⟨cur,by simp only[hkq];exact hh,by simp only[hkq];exact hs,by rw[Q2b];exact hl,fun j u y hu hy=>?_,hone1⟩
     rw[Q2w,Option.map_eq_some_iff] at hy
     obtain⟨x,hx,rfl⟩:=hy
     exact⟨hR (hcc j u x hu hx).1 (Q3x (X3o hH r cs hr) j x hx),(hcc j u x hu hx).2⟩
 · obtain⟨r,cs,_,rfl,hkq,hr,_⟩:=back q ds hq
   obtain⟨r',cs',_,rfl,hkq',hr',_⟩:=back q' es hq'
   simp only[hkq] at hz1 ⊢
   simp only[hkq'] at hz2 ⊢
   exact hc.heap.inj r r' cs cs' hr hr' (fun e=>hne (by rw[e])) hz1 hz2
 · obtain⟨r,cs,hm,rfl,hkq,hr,_⟩:=back q ds hq
   obtain⟨m1,m2⟩:=hc.keep.mine r cs hr
   simp only[hkq]
   rcases hD r hm with e|e2
   · rw[e];exact⟨m1,m2⟩
   · refine⟨fun h=>by have:=E.hD _ h;omega,fun _ hz=>?_⟩
     by_cases hr2:r∈E.D
     · have m:=m1 hr2
       rw[m] at hz ⊢;exact .inr ⟨r,hr2,hz,rfl⟩
     · exact m2 hr2 hz
section
variable {P:Program}
theorem AW.to{c:Code}{σ τ : St}{Φ : Exit→St→Prop}(h:σ.to τ)(k:AW P c τ Φ):AW P c σ Φ:=fun E ι a w hc=>by
 obtain⟨ι',hc'⟩:=h E ι a w hc
 exact k E ι' a w hc'
theorem OpA.to{o:Oper}{σ τ : St}{K:St→Prop}(h:σ.to τ)(k:OpA P o τ K):OpA P o σ K:=fun E ι a w hc=>by
 obtain⟨ι',hc'⟩:=h E ι a w hc
 exact k E ι' a w hc'
theorem OpA.then{o:Oper}{σ : St}{K:St→Prop}(h:OpA P o σ fun σ1=>∃τ,σ1.to τ∧K τ):OpA P o σ K:=
 fun E ι a w hc K' Q hK'=>h E ι a w hc K' Q fun ι' σ' a' w' ⟨τ,ht,hk⟩ hc'=>by
  obtain⟨ι'',hc''⟩:=ht E ι' a' w' hc'
  exact hK' ι'' τ a' w' hk hc''
theorem X4u{ops:Array Oper}{rest:List Oper}{o:Oper}{σ τ : St}{K:St→Prop}(hg:o.guard=none)(ht:σ.to τ)(h:evL P ops (o::rest) τ K):evL P ops (o::rest) σ K:=by
 unfold evL at h ⊢
 rw[hg] at h ⊢
 exact OpA.to ht h
theorem AW.loopT{c:Code}{σ : St}{Φ : Exit→St→Prop}{α : Type}(I:α→St)(μ : α→Nat)(x0:α)(h0:σ.to (I x0))
 (round:∀x,evC P c (I x) fun ex σ'=>match ex with | .normal=>∃y,μ y < μ x∧σ'.to (I y)|ex=>Φ ex σ'):AW P (.loop c) σ Φ:=by
 intro E ι a w hc b k cs
 have key:∀n x ι a w,μ x=n→Conc E ι (I x) a w→∃e a' w',(∃ι' σ',Conc E ι' σ' a' w'∧Φ e σ')∧Arrives P (lone (b.at a (.code c :: .inLoop c::k)) cs w) b k cs e a' w':=by
  intro n
  induction n using Nat.strongRecOn with
  |_ n ih=>
   intro x ι a w hn hI
   obtain⟨e,a₁,w₁,⟨ι₁,σ₁,hc₁,hq⟩,harr⟩:=Q2g c (I x) _ (round x) E ι a w hI b (.inLoop c::k) cs
   cases e with
   |normal=>
    obtain⟨y,hlt,hle⟩:=hq
    obtain⟨ι2,hc2⟩:=hle E ι₁ a₁ w₁ hc₁
    obtain⟨e₂,a₂,w₂,hq₂,harr₂⟩:=ih (μ y) (hn▸hlt) y ι2 a₁ w₁ rfl hc2
    exact⟨e₂,a₂,w₂,hq₂,.of_steps (Steps.trans harr (.one step_inLoop)) harr₂⟩
   |exit id=>exact⟨_,a₁,w₁,⟨ι₁,σ₁,hc₁,hq⟩,.pass (x:=.inLoop c) rfl (fun _ _=>.inl (by simp)) harr⟩
   |goto l=>exact⟨_,a₁,w₁,⟨ι₁,σ₁,hc₁,hq⟩,.pass (x:=.inLoop c) rfl (fun _ _=>.inl (by simp)) harr⟩
   |ret=>exact⟨_,a₁,w₁,⟨ι₁,σ₁,hc₁,hq⟩,.pass (x:=.inLoop c) rfl (fun _ _=>.inl (by simp)) harr⟩
   |panic ch=>exact⟨_,a₁,w₁,⟨ι₁,σ₁,hc₁,hq⟩,.pass (x:=.inLoop c) rfl (fun _ _=>.inl (by simp)) harr⟩
   |outgrown=>exact⟨_,a₁,w₁,⟨ι₁,σ₁,hc₁,hq⟩,.pass (x:=.inLoop c) rfl (fun _ _=>.inl (by simp)) harr⟩
 obtain⟨ι0,hc0⟩:=h0 E ι a w hc
 obtain⟨e,a',w',hq,harr⟩:=key _ x0 ι0 a w rfl hc0
 exact⟨e,a',w',hq,.of_steps (.one step_loop) harr⟩
theorem evC_loopT{c:Code}{σ : St}{Φ : Exit→St→Prop}{α : Type}(I:α→St)(μ : α→Nat)(x0:α)(h0:σ.to (I x0))
 (round:∀x,∀Ψ : Exit→St→Prop,(∀σ' y,μ y < μ x→σ'.to (I y)→Ψ .normal σ')→(∀ex σ',ex≠.normal→Φ ex σ'→Ψ ex σ')→evC P c (I x) Ψ):evC P (.loop c) σ Φ:=by
 unfold evC
 refine AW.loopT I μ x0 h0 fun x=>round x _ (fun σ' y hlt hle=>⟨y,hlt,hle⟩) fun ex σ' hne h=>?_
 cases ex<;>first|exact absurd rfl hne|exact h
theorem Q5u{c:Code}{σ : St}{Φ : Exit→St→Prop}(n:Nat)(I:Nat→St)(h0:σ.to (I 0))
 (round:∀i,i≤n→∀Ψ : Exit→St→Prop,(∀σ',i+1≤n→σ'.to (I (i+1))→Ψ .normal σ')→(∀ex σ',ex≠.normal→Φ ex σ'→Ψ ex σ')→evC P c (I i) Ψ):evC P (.loop c) σ Φ:=
 evC_loopT (α:={i:Nat // i≤n}) (fun x=>I x.1) (fun x=>n-x.1) ⟨0,Nat.zero_le _⟩ h0 fun x Ψ h1 h2=>
  round x.1 x.2 Ψ (fun σ' hlt hle=>h1 σ' ⟨x.1+1,hlt⟩ (by have:=x.2;simp only;omega) hle) h2
end
theorem Conc.alloc{E:Env}{ι : Nat→Nat×Nat×Nat}{σ : St}{a:Act}{w:World}(h:Conc E ι σ a w)(o:Obj):Conc E ι σ a (w.alloc o):=by
 have hb:∀b,b<w.heap.size→(w.alloc o).heap[b]? = w.heap[b]?:=fun b hb=>Below.heap_alloc _ _ _ hb
 have hS:∀b,Sx E ι σ.H b→b<w.heap.size→Sx E ι σ.H b∧(w.alloc o).heap[b]? = w.heap[b]?:=fun b h1 h2=>⟨h1,hb b h2⟩
 have hR:∀{v:Value} {x:AV},RV (Sx E ι σ.H) ι w v x→RV (Sx E ι σ.H) ι (w.alloc o) v x:=fun hv=>hv.mono hS fun _ _=>rfl
 have hsz:(w.alloc o).heap.size=w.heap.size+1:=World.size_alloc ..
 refine⟨h.defers.mono hS,h.size,fun i=>hR (h.tmp i),⟨fun r cs hr=>?_,h.heap.inj⟩,⟨h.keep.os,h.keep.tape,h.keep.output,by have:=h.keep.size;omega,fun b hb' hbD=>?_,h.keep.mine⟩⟩
 · rcases h.heap.blk r cs hr with h0|⟨cur,hh,hs,hlen,hc,hone1⟩
   · exact .inl h0
   · exact .inr ⟨cur,(hb _ (Array.getElem?_eq_some_iff.1 hh).1).trans hh,hs,hlen,fun j u x hu hx=>⟨hR (hc j u x hu hx).1,(hc j u x hu hx).2⟩,hone1⟩
 · have:=h.keep.size
   rw[hb b (by omega)];exact h.keep.block b hb' hbD
theorem Fn.to{P:Program}{f:FuncId}{args:List AV}{H0 H1 H2:List (Nat×List AV)}{res res':AV}(h:Fn P f args H0 res H1)(k:St.to ⟨[res],H1⟩ ⟨[res'],H2⟩):Fn P f args H0 res' H2:=by
 intro E vs hD hS hH hlen hargs
 refine(h E vs hD hS hH hlen hargs).mono fun e w'=>?_
 rintro ⟨v,ι',rfl,hres,hcH,hk⟩
 have hc:Conc E ι' ⟨[res],H1⟩ {tmps:=#[v],defers:=[]} w':=by
  refine⟨Marks.nil,rfl,fun i=>?_,hcH,hk⟩
  cases i with
  |zero=>exact hres
  |succ i=>exact .any _
 obtain⟨ι'',hc'⟩:=k E ι' _ w' hc
 exact⟨v,ι'',rfl,hc'.tmp 0,hc'.heap,hc'.keep⟩
theorem Fn.frzN{P:Program}{f:FuncId}{args:List AV}{H0 H1:List (Nat×List AV)}{res:AV}{d:Nat}{pcs:List PV}(h:Fn P f args H0 res H1)(hd:hget H1 d=some (pcs.map .c)):Fn P f args H0 (AV.frz d pcs res) (frzH d pcs H1):=
 h.to (St.to.frz (σ:=⟨[res],H1⟩) d hd)
theorem AV.le_agg{a b:List AV}(h:leL a b):(AV.agg a).le (.agg b):=fun S ι w v hv=>by
 obtain⟨g1,g2⟩:=X0q h
 cases hv with
 |agg us _ hl h1 hg=>
  refine .agg us _ (by rw[hl,g1]) h1 fun j u y hu hy=>?_
  have hj:=(List.getElem?_eq_some_iff.1 hy).1
  rw[←g1] at hj
  exact g2 j _ y (List.getElem?_eq_getElem hj) hy S ι w u (hg j u _ hu (List.getElem?_eq_getElem hj))
def Ef.sim(e e':Ef):Prop:=e.rd=e'.rd∧e.wn=e'.wn∧e.nw=e'.nw∧∀d,e.names d=e'.names d
theorem Ef.sim_refl(e:Ef):e.sim e:=⟨rfl,rfl,rfl,fun _=>rfl⟩
theorem Ef.sim_row{v:AV}{rd nw:List Nat}{k:Nat}{X:List AV}(h:∀d,AV.refsL d X=false):Ef.sim ⟨v,rd,[(k,X)],nw⟩ ⟨v,rd,[(k,[])],nw⟩:=⟨rfl,rfl,rfl,fun d=>by unfold Ef.names;simp[h,AV.refsL]⟩
inductive Sims:List Ef→List Ef→Prop
 |nil:Sims [] []
 |cons {e e':Ef} {es es':List Ef}:e.sim e'→Sims es es'→Sims (e::es) (e'::es')
theorem Sims.snoc{es es':List Ef}{e e':Ef}(h:Sims es es')(hs:e.sim e'):Sims (es++[e]) (es'++[e']):=by
 induction h with
 |nil=>exact .cons hs .nil
 |cons h _ ih=>exact .cons h ih
theorem Sims.rev{es es':List Ef}(h:Sims es es'):Sims es.reverse es'.reverse:=by
 induction h with
 |nil=>exact .nil
 |cons h _ ih=>rw[List.reverse_cons,List.reverse_cons];exact ih.snoc h
theorem Sims.opt{es es':List Ef}(h:Sims es es'):∀i:Nat,(es[i]? = none∧es'[i]? = none)∨∃e e':Ef,es[i]? = some e∧es'[i]? = some e'∧Ef.sim e e':=by
 induction h with
 |nil=>exact fun i=>.inl ⟨by simp,by simp⟩
 |cons h _ ih=>
  intro i
  cases i with
  |zero=>exact .inr ⟨_,_,rfl,rfl,h⟩
  |succ i=>simpa using ih i
theorem Q1f{l:List Oper}{es es':List Ef}(h:Sims es es')(k:Q4s l es'.reverse=true):Q4s l es.reverse=true:=by
 have ho:=h.rev.opt
 generalize es.reverse=a at ho ⊢
 generalize es'.reverse=b at ho k
 have e1:X0s l a=X0s l b:=by
  unfold X0s
  congr 1
  funext i
  rcases ho i with⟨h1,h2⟩|⟨e,e',h1,h2,hs⟩
  · rw[h1,h2]
  · rw[h1,h2]
    simp only
    rw[hs.2.2.1]
    congr 1
    funext d
    congr 2
    funext j
    congr 1
    rcases ho j with⟨g1,g2⟩|⟨f,f',g1,g2,gs⟩
    · rw[g1,g2]
    · rw[g1,g2]
      simp only
      rw[gs.2.2.2]
 unfold Q4s at k ⊢
 rw[e1]
 rw[←k]
 congr 2
 funext i
 congr 1
 funext j
 congr 1
 rcases ho i with⟨h1,h2⟩|⟨e,e',h1,h2,hs⟩
 · rw[h1,h2]
   cases l[i]? <;> cases l[j]? <;> rfl
 · rcases ho j with⟨g1,g2⟩|⟨f,f',g1,g2,gs⟩
   · rw[h1,h2,g1,g2]
     cases l[i]? <;> cases l[j]? <;> rfl
   · rw[h1,h2,g1,g2]
     cases l[i]? <;> cases l[j]? <;> simp only
     unfold Q5b
     rw[hs.1,hs.2.1,gs.1,gs.2.1]
theorem Q4r{P:Program}{σ : St}{Φ : Exit→St→Prop}{l:Nat}(h:Φ .normal σ):evC P (.label l) σ Φ:=by
 unfold evC
 exact fun E ι a w hc=>wp_label ⟨ι,σ,hc,h⟩
theorem Q4q{P:Program}{c:Code}{σ : St}{Φ : Exit→St→Prop}(h:∀Ψ : Exit→St→Prop,(∀σ',Φ .normal σ'→Ψ .normal σ')→(∀ex σ',(∀j,ex = .goto j→False)→Φ ex σ'→Ψ ex σ')→evC P c σ Ψ):evC P (.scope c) σ Φ:=by
 unfold evC
 intro E ι a w hc
 refine wp_scope_straight ?_
 refine wp_mono (Q2g c σ _ (h (fun ex σ'=>(∀j,ex = .goto j→False)∧Φ ex σ') (fun σ' h=>⟨fun j hj=>(by cases hj),h⟩) fun ex σ' hg h=>⟨hg,h⟩) E ι a w hc) fun ex a' w'=>?_
 rintro ⟨ι',σ',hc',hg,hΦ⟩
 cases ex<;>first|exact⟨ι',σ',hc',hΦ⟩|exact(hg _ rfl).elim
theorem Fn.law{P:Program}{f:FuncId}{args:List AV}{b:Bool}(hF:Fn P f args [] (.c (.v (.bool b))) []){vs:List Value}{w:World}(hlen:vs.length=args.length)(hargs:∀(j:Nat) (v:Value) (x:AV),vs[j]? = some v→args[j]? = some x→RV (fun _=>True) (fun _=>(0,0,0)) w v x)(hG:GlobOK w (fun _=>True) (fun _=>(0,0,0)) []:=by first|assumption|exact fun g cs h=>by simp[X5l,globs,globsV] at h) :
 Calls P f vs.toArray w (RetT w b):=by
 refine(hF {w:=w,S:=fun _=>True,ι:=fun _=>(0,0,0),D:=[],hD:=fun r hr=>(by cases hr),hG:=hG} vs rfl (fun r cs b hr=>(by cases hr)) ⟨fun r cs hr=>(by cases hr),fun r q cs ds hr=>(by cases hr)⟩ hlen hargs).mono fun e w'=>?_
 rintro ⟨v,ι',rfl,hres,_,hk⟩
 obtain⟨rfl,_⟩:=hres.v_inv
 exact⟨rfl,hk.os,hk.tape,hk.output,hk.size,fun k hk'=>hk.block k hk' fun r hr=>by cases hr⟩
end
end Go.Proofs.Ytbmcdemnnbndeaa
