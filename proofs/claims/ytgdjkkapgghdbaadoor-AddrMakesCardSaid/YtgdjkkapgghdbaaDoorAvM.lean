/-
  A call over abstract states. No program in sight.
-/
import Derived.Test.YtgdjkkapgghdbaaDoorAvI
namespace Go.Proofs.YtgdjkkapgghdbaaDoor
open Go.RowKit
set_option linter.unusedSimpArgs false
set_option linter.unusedVariables false

def hputs (H : List (Nat × List AV)) : List (Nat × List AV) → List (Nat × List AV)
  | [] => H
  | (k, cs) :: l => hput (hputs H l) k cs
def hdels (H : List (Nat × List AV)) : List (Nat × List AV) → List (Nat × List AV)
  | [] => H
  | (k, _) :: l => hdel (hdels H l) k
def renH (ρ : Nat → Nat) : List (Nat × List AV) → List (Nat × List AV)
  | [] => []
  | (k, cs) :: l => (ρ k, AV.renL ρ cs) :: renH ρ l
theorem hget_cons (k : Nat) (cs : List AV) (l : List (Nat × List AV)) (q : Nat) : hget ((k, cs) :: l) q = if k = q then some cs else hget l q := rfl
theorem hget_puts (H : List (Nat × List AV)) : ∀ (l : List (Nat × List AV)) (q : Nat), hget (hputs H l) q = match hget l q with | some cs => some cs | none => hget H q
  | [], q => rfl
  | (k, cs) :: l, q => by
    show hget (hput (hputs H l) k cs) q = _
    rw [hget_put, hget_puts H l q, hget_cons]
    by_cases h : k = q
    · subst h; simp
    · rw [if_neg (by omega), if_neg h]
theorem hget_dels (H : List (Nat × List AV)) : ∀ (l : List (Nat × List AV)) (q : Nat), hget (hdels H l) q = match hget l q with | some _ => none | none => hget H q
  | [], q => rfl
  | (k, cs) :: l, q => by
    show hget (hdel (hdels H l) k) q = _
    rw [hget_del, hget_dels H l q, hget_cons]
    by_cases h : k = q
    · subst h; simp
    · rw [if_neg (by omega), if_neg h]
theorem hget_keys : ∀ {H : List (Nat × List AV)} {r : Nat} {cs : List AV}, hget H r = some cs → r ∈ H.map (·.1)
  | (k, ds) :: H, r, cs, h => by
    unfold hget at h
    split at h
    · rename_i e; simp [e]
    · simp [hget_keys h]
theorem hget_of_key : ∀ {H : List (Nat × List AV)} {r : Nat}, r ∈ H.map (·.1) → ∃ cs, hget H r = some cs
  | (k, ds) :: H, r, h => by
    unfold hget
    split
    · exact ⟨ds, rfl⟩
    · rename_i e
      simp only [List.map_cons, List.mem_cons] at h
      rcases h with h | h
      · exact absurd h.symm e
      · exact hget_of_key h
theorem hget_ren {ρ : Nat → Nat} {N : List Nat} (hinj : ∀ r ∈ N, ∀ q ∈ N, ρ r = ρ q → r = q) : ∀ {H : List (Nat × List AV)}, (∀ r ∈ H.map (·.1), r ∈ N) → ∀ r ∈ N, hget (renH ρ H) (ρ r) = (hget H r).map (AV.renL ρ)
  | [], _, r, _ => rfl
  | (k, cs) :: H, hN, r, hr => by
    have hk := hN k (by simp)
    have ih := hget_ren hinj (H := H) (fun q hq => hN q (by simp only [List.map_cons, List.mem_cons]; exact .inr hq)) r hr
    unfold renH hget
    by_cases h : k = r
    · subst h; simp
    · rw [if_neg (fun e => h (hinj k hk r hr e)), if_neg h, ih]
theorem hget_ren_inv {ρ : Nat → Nat} : ∀ {H : List (Nat × List AV)} {q : Nat} {ds : List AV}, hget (renH ρ H) q = some ds → ∃ r ∈ H.map (·.1), q = ρ r
  | (k, cs) :: H, q, ds, h => by
    unfold renH hget at h
    split at h
    · rename_i e; exact ⟨k, by simp, e.symm⟩
    · obtain ⟨r, hr, e⟩ := hget_ren_inv h
      exact ⟨r, by simp only [List.map_cons, List.mem_cons]; exact .inr hr, e⟩

def argOk (ρ : Nat → Nat) (x y : AV) : Prop := x = .any ∨ y = AV.ren ρ x
def argsOk (ρ : Nat → Nat) : List AV → List AV → Prop
  | [], [] => True
  | x :: xs, y :: ys => argOk ρ x y ∧ argsOk ρ xs ys
  | _, _ => False
theorem argsOk_get {ρ : Nat → Nat} : ∀ {xs ys : List AV}, argsOk ρ xs ys → xs.length = ys.length ∧ ∀ (j : Nat) (x y : AV), xs[j]? = some x → ys[j]? = some y → argOk ρ x y
  | [], [], _ => ⟨rfl, fun j x y hx => by cases hx⟩
  | x :: xs, y :: ys, h => by
    obtain ⟨h1, h2⟩ := h
    obtain ⟨h3, h4⟩ := argsOk_get h2
    refine ⟨by simp [h3], fun j a b ha hb => ?_⟩
    cases j with
    | zero => simp at ha hb; subst ha hb; exact h1
    | succ j => exact h4 j a b (by simpa using ha) (by simpa using hb)
def newOk (σ : St) (ρ : Nat → Nat) (H0 : List (Nat × List AV)) : List (Nat × List AV) → Prop
  | [] => True
  | (k, _) :: l => ((H0.map (·.1)).contains k = true ∨ (σ.free (ρ k) = true ∧ ρ k < 1000)) ∧ newOk σ ρ H0 l
theorem newOk_get {σ : St} {ρ : Nat → Nat} {H0 : List (Nat × List AV)} : ∀ {l : List (Nat × List AV)}, newOk σ ρ H0 l → ∀ r ∈ l.map (·.1), r ∈ H0.map (·.1) ∨ (σ.free (ρ r) = true ∧ ρ r < 1000)
  | (k, cs) :: l, h, r, hr => by
    simp only [List.map_cons, List.mem_cons] at hr
    rcases hr with rfl | hr
    · rcases h.1 with h | h
      · exact .inl (by simpa using h)
      · exact .inr h
    · exact newOk_get h.2 r hr
def inH (N : List Nat) : List (Nat × List AV) → Bool
  | [] => true
  | (_, cs) :: l => AV.inNL N cs && inH N l
theorem inH_get {N : List Nat} : ∀ {H : List (Nat × List AV)}, inH N H = true → ∀ r cs, hget H r = some cs → AV.inNL N cs = true
  | (k, ds) :: H, h, r, cs, hr => by
    unfold inH at h
    rw [Bool.and_eq_true] at h
    unfold hget at hr
    split at hr
    · cases hr; exact h.1
    · exact inH_get h.2 r cs hr
theorem Conc.enter {E : Env} {ι : Nat → Nat × Nat × Nat} {σ : St} {a : Act} {w : World} (hc : Conc E ι σ a w) {H0 : List (Nat × List AV)} (ρ : Nat → Nat) (hH0' : ∀ r cs, hget H0 r = some cs → hget σ.H (ρ r) = some (AV.renL ρ cs))
    (hinj : ∀ r ∈ H0.map (·.1), ∀ q ∈ H0.map (·.1), ρ r = ρ q → r = q) : ConcH (Sx E ι σ.H) (fun r => ι (ρ r)) H0 w := by
  refine ⟨fun r cs hr => ?_, fun r q cs ds hr hq hne hz1 hz2 => hc.heap.inj (ρ r) (ρ q) _ _ (hH0' r cs hr) (hH0' q ds hq) (fun e => hne (hinj r (hget_keys hr) q (hget_keys hq) e)) hz1 hz2⟩
  rcases hc.heap.blk (ρ r) _ (hH0' r cs hr) with ⟨h0, he⟩ | ⟨cur, hh, hs, hl, hcur, hone1⟩
  · refine .inl ⟨h0, ?_⟩
    have := congrArg List.length he
    rw [renL_length] at this
    exact List.eq_nil_of_length_eq_zero this
  · rw [renL_length] at hl
    exact .inr ⟨cur, hh, hs, hl, fun j u x hu hx => ⟨(hcur j u (AV.ren ρ x) hu (by rw [renL_get, hx]; rfl)).1.unren x rfl, (hcur j u (AV.ren ρ x) hu (by rw [renL_get, hx]; rfl)).2⟩, hone1⟩
theorem Conc.back {E : Env} {ι : Nat → Nat × Nat × Nat} {σ : St} {a : Act} {w : World} (hc : Conc E ι σ a w) {H0 H1 : List (Nat × List AV)} {res : AV} (ρ : Nat → Nat) (hD0' : ∀ r ∈ H0.map (·.1), 1000 ≤ r) (hH0' : ∀ r cs, hget H0 r = some cs → hget σ.H (ρ r) = some (AV.renL ρ cs))
    (hinj : ∀ r ∈ H0.map (·.1) ++ H1.map (·.1), ∀ q ∈ H0.map (·.1) ++ H1.map (·.1), ρ r = ρ q → r = q) (hnew : newOk σ ρ H0 H1) (hin : AV.inN (H1.map (·.1)) res = true) (hinH : inH (H1.map (·.1)) H1 = true)
    {E' : Env} {hG0' : GlobOK w (Sx E ι σ.H) (fun r => ι (ρ r)) (H0.map (·.1))} (hE' : E' = { w := w, S := Sx E ι σ.H, ι := fun r => ι (ρ r), D := H0.map (·.1), hD := hD0', hG := hG0' }) {v : Value} {ι' : Nat → Nat × Nat × Nat} {w' : World} (hres : RV (Sx E' ι' H1) ι' w' v res) (hcH : ConcH (Sx E' ι' H1) ι' H1 w') (hk : Keep E' ι' H1 w') :
    ∃ ι2, Conc E ι2 ⟨σ.T, hputs (hdels σ.H (renH ρ H0)) (renH ρ H1)⟩ a w' ∧ RV (Sx E ι2 (hputs (hdels σ.H (renH ρ H0)) (renH ρ H1))) ι2 w' v (AV.ren ρ res) := by
    obtain ⟨N, hN⟩ : ∃ N, N = H0.map (·.1) ++ H1.map (·.1) := ⟨_, rfl⟩
    rw [← hN] at hinj
    have hN0 : ∀ r ∈ H0.map (·.1), r ∈ N := fun r hr => by rw [hN]; exact List.mem_append_left _ hr
    have hN1 : ∀ r ∈ H1.map (·.1), r ∈ N := fun r hr => by rw [hN]; exact List.mem_append_right _ hr
    have hwE : E'.w = w := by rw [hE']
    -- the new naming
    obtain ⟨ι2, hι2⟩ : ∃ ι2 : Nat → Nat × Nat × Nat, ι2 = fun q => match (H1.map (·.1)).find? (fun r => ρ r == q) with | some r => ι' r | none => ι q := ⟨_, rfl⟩
    have hι1 : ∀ r ∈ H1.map (·.1), ι2 (ρ r) = ι' r := fun r hr => by
      rw [hι2]
      simp only
      cases hfd : (H1.map (·.1)).find? (fun r' => ρ r' == ρ r) with
      | none =>
        have := List.find?_eq_none.1 hfd r hr
        simp at this
      | some r' =>
        have h1 := List.find?_some hfd
        have h2 := List.mem_of_find?_eq_some hfd
        have : r' = r := hinj r' (hN1 r' h2) r (hN1 r hr) (by simpa using h1)
        rw [this]
    have hιn : ∀ q, (∀ r ∈ H1.map (·.1), ρ r ≠ q) → ι2 q = ι q := fun q hq => by
      rw [hι2]
      simp only
      cases hfd : (H1.map (·.1)).find? (fun r' => ρ r' == q) with
      | none => rfl
      | some r' => exact absurd (by simpa using List.find?_some hfd) (hq r' (List.mem_of_find?_eq_some hfd))
    have hmine := hk.mine
    have hD' : E'.D = H0.map (·.1) := by rw [hE']
    have hEι : ∀ r, E'.ι r = ι (ρ r) := fun r => by rw [hE']
    -- what is named behind the call
    obtain ⟨H2, hH2⟩ : ∃ H2, H2 = hputs (hdels σ.H (renH ρ H0)) (renH ρ H1) := ⟨_, rfl⟩
    rw [← hH2]
    have hget2 : ∀ q ds, hget H2 q = some ds → (∃ r ∈ H1.map (·.1), q = ρ r ∧ ∃ cs, hget H1 r = some cs ∧ ds = AV.renL ρ cs) ∨ ((∀ r ∈ N, ρ r ≠ q) ∧ hget σ.H q = some ds) := fun q ds hq => by
      rw [hH2, hget_puts] at hq
      cases h1 : hget (renH ρ H1) q with
      | some es =>
        rw [h1] at hq
        cases hq
        obtain ⟨r, hr, rfl⟩ := hget_ren_inv h1
        rw [hget_ren hinj hN1 r (hN1 r hr), Option.map_eq_some_iff] at h1
        obtain ⟨cs, hcs, rfl⟩ := h1
        exact .inl ⟨r, hr, rfl, cs, hcs, rfl⟩
      | none =>
        rw [h1] at hq
        simp only at hq
        rw [hget_dels] at hq
        cases h0 : hget (renH ρ H0) q with
        | some es => rw [h0] at hq; cases hq
        | none =>
          rw [h0] at hq
          refine .inr ⟨fun r hr e => ?_, hq⟩
          subst e
          rw [hN] at hr
          rcases List.mem_append.1 hr with hr | hr
          · rw [hget_ren hinj hN0 r (hN0 r hr), Option.map_eq_none_iff] at h0
            obtain ⟨cs, hcs⟩ := hget_of_key hr
            rw [h0] at hcs; cases hcs
          · rw [hget_ren hinj hN1 r (hN1 r hr), Option.map_eq_none_iff] at h1
            obtain ⟨cs, hcs⟩ := hget_of_key hr
            rw [h1] at hcs; cases hcs
    have hSz : w.heap.size ≤ w'.heap.size := by have := hk.size; rwa [hwE] at this
    have hblk0 : ∀ b, b < w.heap.size → (∀ r ∈ H0.map (·.1), (ι (ρ r)).2.1 ≠ 0 → (ι (ρ r)).1 ≠ b) → w'.heap[b]? = w.heap[b]? := fun b hb hne => by
      have := hk.block b (by rw [hwE]; exact hb) fun r hr => by rw [hD'] at hr; rw [hEι]; exact hne r hr
      rwa [hwE] at this
    have hMine : ∀ b, Mine E' b → w.heap.size ≤ b ∨ ∃ q ∈ H0.map (·.1), (ι (ρ q)).2.1 ≠ 0 ∧ (ι (ρ q)).1 = b := fun b hb => by
      rcases hb with hb | ⟨q, hq, hz, hb⟩
      · rw [hwE] at hb; exact .inl hb
      · rw [hD'] at hq; rw [hEι] at hz hb; exact .inr ⟨q, hq, hz, hb⟩
    have hMineE : ∀ b, Mine E' b → Mine E b := fun b hb => by
      rcases hMine b hb with hb | ⟨q, hq, hz, hb⟩
      · have := hc.keep.size; exact .inl (by omega)
      · obtain ⟨cs0, hcs0⟩ := hget_of_key hq
        obtain ⟨m1, m2⟩ := hc.keep.mine (ρ q) _ (hH0' q cs0 hcs0)
        by_cases hm : ρ q ∈ E.D
        · rw [m1 hm] at hz hb; exact .inr ⟨ρ q, hm, hz, hb⟩
        · rw [← hb]; exact m2 hm hz
    have hnewge : ∀ r ∈ H1.map (·.1), r ∉ H0.map (·.1) → (ι' r).2.1 ≠ 0 → Mine E' (ι' r).1 := fun r hr hn hz => by
      obtain ⟨cs, hcs⟩ := hget_of_key hr
      exact (hmine r cs hcs).2 (by rw [hD']; exact hn) hz
    have hold : ∀ r ∈ H1.map (·.1), r ∈ H0.map (·.1) → ι' r = ι (ρ r) := fun r hr hn => by
      obtain ⟨cs, hcs⟩ := hget_of_key hr
      rw [(hmine r cs hcs).1 (by rw [hD']; exact hn), hEι]
    have hfresh : ∀ r ∈ H1.map (·.1), r ∉ H0.map (·.1) → σ.free (ρ r) = true ∧ ρ r < 1000 := fun r hr hn => (newOk_get hnew r hr).resolve_left hn
    -- blocks that only are read
    have hSc : ∀ b, Sx E' ι' H1 b → Sx E ι2 H2 b := fun b ⟨h1, h2⟩ => by
      refine ⟨?_, fun q ds hq hz => ?_⟩
      · rcases h1 with h1 | h1
        · rw [hE'] at h1; exact h1.1
        · exact .inr (hMineE b h1)
      · rcases hget2 q ds hq with ⟨r, hr, rfl, cs, hcs, rfl⟩ | ⟨hne, hq'⟩
        · rw [hι1 r hr] at hz ⊢; exact h2 r cs hcs hz
        · rw [hιn q (fun r hr => hne r (hN1 r hr))] at hz ⊢
          rcases h1 with h1 | h1
          · rw [hE'] at h1; exact h1.2 q ds hq' hz
          · rcases hMine b h1 with h1 | ⟨q0, hq0, hz0, h1⟩
            · have := (hc.heap.blk q ds hq').lt hz; omega
            · obtain ⟨cs0, hcs0⟩ := hget_of_key hq0
              rw [← h1]; exact hc.heap.inj q (ρ q0) _ _ hq' (hH0' q0 cs0 hcs0) (fun e => hne q0 (hN0 q0 hq0) e.symm) hz hz0
    have hSo : ∀ b, Sx E ι σ.H b → b < w.heap.size → Sx E ι2 H2 b ∧ w'.heap[b]? = w.heap[b]? := fun b hb hlt => by
      refine ⟨⟨hb.1, fun q ds hq hz => ?_⟩, hblk0 b hlt fun r hr hz => ?_⟩
      · rcases hget2 q ds hq with ⟨r, hr, rfl, cs, hcs, rfl⟩ | ⟨hne, hq'⟩
        · rw [hι1 r hr] at hz ⊢
          by_cases hr0 : r ∈ H0.map (·.1)
          · rw [hold r hr hr0] at hz ⊢
            obtain ⟨cs0, hcs0⟩ := hget_of_key hr0
            exact hb.2 (ρ r) _ (hH0' r cs0 hcs0) hz
          · rcases hMine _ (hnewge r hr hr0 hz) with h1 | ⟨q0, hq0, hz0, h1⟩
            · omega
            · obtain ⟨cs0, hcs0⟩ := hget_of_key hq0
              rw [← h1]; exact hb.2 (ρ q0) _ (hH0' q0 cs0 hcs0) hz0
        · rw [hιn q (fun r hr => hne r (hN1 r hr))] at hz ⊢
          exact hb.2 q ds hq' hz
      · obtain ⟨cs0, hcs0⟩ := hget_of_key hr
        exact hb.2 (ρ r) _ (hH0' r cs0 hcs0) hz
    have hRc : ∀ {v : Value} {x : AV}, RV (Sx E' ι' H1) ι' w' v x → AV.inN (H1.map (·.1)) x = true → RV (Sx E ι2 H2) ι2 w' v (AV.ren ρ x) := fun hv hx =>
      (hv.mono (S' := Sx E ι2 H2) (fun b hb _ => ⟨hSc b hb, rfl⟩) fun _ _ => rfl).reren hι1 hx
    have hRo : ∀ {v : Value} {y : AV}, RV (Sx E ι σ.H) ι w v y → (∀ r ∈ H1.map (·.1), r ∉ H0.map (·.1) → AV.refs (ρ r) y = false) → RV (Sx E ι2 H2) ι2 w' v y := fun hv hx =>
      hv.mono hSo fun q hq => by
        by_cases hm : ∃ r ∈ H1.map (·.1), ρ r = q
        · obtain ⟨r, hr, rfl⟩ := hm
          by_cases hr0 : r ∈ H0.map (·.1)
          · rw [hι1 r hr, hold r hr hr0]
          · rw [hx r hr hr0] at hq; cases hq
        · exact hιn q fun r hr e => hm ⟨r, hr, e⟩
    suffices hcn : Conc E ι2 ⟨σ.T, H2⟩ a w' from ⟨ι2, hcn, hRc hres hin⟩
    refine ⟨hc.defers.mono hSo, hc.size, fun i => ?_, ⟨fun q ds hq => ?_, fun q q' ds es hq hq' hne hz1 hz2 => ?_⟩, ⟨?_, ?_, ?_, ?_, fun b hb hbD => ?_, fun q ds hq => ?_⟩⟩
    · refine hRo (hc.tmp i) fun r hr hr0 => ?_
      have hfr := (hfresh r hr hr0).1
      unfold St.free at hfr
      simp only [Bool.and_eq_true, Bool.not_eq_true'] at hfr
      rw [List.getD_eq_getElem?_getD]
      cases hi : σ.T[i]? with
      | none => rfl
      | some x => exact refsL_get hfr.1 i x hi
    · rcases hget2 q ds hq with ⟨r, hr, rfl, cs, hcs, rfl⟩ | ⟨hne, hq'⟩
      · rcases hcH.blk r cs hcs with ⟨h0, rfl⟩ | ⟨cur, hh, hs, hl, hcur, hone1⟩
        · exact .inl ⟨by rw [hι1 r hr]; exact h0, rfl⟩
        · refine .inr ⟨cur, by rw [hι1 r hr]; exact hh, by rw [hι1 r hr]; exact hs, by rw [renL_length]; exact hl, fun j u y hu hy => ?_, hone1⟩
          rw [renL_get, Option.map_eq_some_iff] at hy
          obtain ⟨x, hx, rfl⟩ := hy
          exact ⟨hRc (hcur j u x hu hx).1 (inNL_get (inH_get hinH r cs hcs) j x hx), (hcur j u x hu hx).2⟩
      · have eq := hιn q fun r hr => hne r (hN1 r hr)
        rcases hc.heap.blk q ds hq' with ⟨h0, he⟩ | ⟨cur, hh, hs, hl, hcur, hone1⟩
        · exact .inl ⟨by rw [eq]; exact h0, he⟩
        · by_cases hz : (ι q).2.1 = 0
          · exact .inl ⟨by rw [eq]; exact hz, List.eq_nil_of_length_eq_zero (by omega)⟩
          · have hlt := (hc.heap.blk q ds hq').lt hz
            have hsame := hblk0 (ι q).1 hlt fun r hr hz' => by
              obtain ⟨cs0, hcs0⟩ := hget_of_key hr
              exact hc.heap.inj (ρ r) q _ _ (hH0' r cs0 hcs0) hq' (hne r (hN0 r hr)) hz' hz
            refine .inr ⟨cur, by rw [eq, hsame]; exact hh, by rw [eq]; exact hs, hl, fun j u y hu hy => ⟨hRo (hcur j u y hu hy).1 fun r hr hr0 => ?_, (hcur j u y hu hy).2⟩, hone1⟩
            have hfr := (hfresh r hr hr0).1
            unfold St.free at hfr
            simp only [Bool.and_eq_true, Bool.not_eq_true'] at hfr
            exact refsL_get (freeH_get hfr.2 q ds hq').2 j y hy
    · rcases hget2 q ds hq with ⟨r, hr, rfl, cs, hcs, rfl⟩ | ⟨hn1, hq1⟩
      · rcases hget2 q' es hq' with ⟨r', hr', rfl, cs', hcs', rfl⟩ | ⟨hn2, hq2⟩
        · rw [hι1 r hr] at hz1 ⊢
          rw [hι1 r' hr'] at hz2 ⊢
          exact hcH.inj r r' cs cs' hcs hcs' (fun e => hne (by rw [e])) hz1 hz2
        · have eq2 := hιn q' fun r hr => hn2 r (hN1 r hr)
          rw [hι1 r hr] at hz1 ⊢
          rw [eq2] at hz2 ⊢
          by_cases hr0 : r ∈ H0.map (·.1)
          · rw [hold r hr hr0] at hz1 ⊢
            obtain ⟨cs0, hcs0⟩ := hget_of_key hr0
            exact hc.heap.inj (ρ r) q' _ _ (hH0' r cs0 hcs0) hq2 (hn2 r (hN0 r hr0)) hz1 hz2
          · rcases hMine _ (hnewge r hr hr0 hz1) with h1 | ⟨q0, hq0, hz0, h1⟩
            · have := (hc.heap.blk q' es hq2).lt hz2
              omega
            · obtain ⟨cs0, hcs0⟩ := hget_of_key hq0
              rw [← h1]; exact hc.heap.inj (ρ q0) q' _ _ (hH0' q0 cs0 hcs0) hq2 (hn2 q0 (hN0 q0 hq0)) hz0 hz2
      · have eq1 := hιn q fun r hr => hn1 r (hN1 r hr)
        rw [eq1] at hz1 ⊢
        rcases hget2 q' es hq' with ⟨r', hr', rfl, cs', hcs', rfl⟩ | ⟨hn2, hq2⟩
        · rw [hι1 r' hr'] at hz2 ⊢
          by_cases hr0 : r' ∈ H0.map (·.1)
          · rw [hold r' hr' hr0] at hz2 ⊢
            obtain ⟨cs0, hcs0⟩ := hget_of_key hr0
            exact hc.heap.inj q (ρ r') _ _ hq1 (hH0' r' cs0 hcs0) (fun e => hn1 r' (hN0 r' hr0) e.symm) hz1 hz2
          · rcases hMine _ (hnewge r' hr' hr0 hz2) with h1 | ⟨q0, hq0, hz0, h1⟩
            · have := (hc.heap.blk q ds hq1).lt hz1
              omega
            · obtain ⟨cs0, hcs0⟩ := hget_of_key hq0
              rw [← h1]; exact hc.heap.inj q (ρ q0) _ _ hq1 (hH0' q0 cs0 hcs0) (fun e => hn1 q0 (hN0 q0 hq0) e.symm) hz1 hz0
        · have eq2 := hιn q' fun r hr => hn2 r (hN1 r hr)
          rw [eq2] at hz2 ⊢
          exact hc.heap.inj q q' ds es hq1 hq2 hne hz1 hz2
    · have := hk.os; rw [hwE] at this; exact this.trans hc.keep.os
    · have := hk.tape; rw [hwE] at this; exact this.trans hc.keep.tape
    · have := hk.output; rw [hwE] at this; exact this.trans hc.keep.output
    · have := hc.keep.size; omega
    · have hs := hc.keep.size
      rw [hblk0 b (by omega) fun r hr hz => ?_]
      · exact hc.keep.block b hb hbD
      · obtain ⟨cs0, hcs0⟩ := hget_of_key hr
        obtain ⟨m1, m2⟩ := hc.keep.mine (ρ r) _ (hH0' r cs0 hcs0)
        by_cases hm : ρ r ∈ E.D
        · rw [m1 hm] at hz ⊢; exact hbD (ρ r) hm hz
        · rcases m2 hm hz with h1 | ⟨q0, hq0, hz0, h1⟩
          · omega
          · intro e; exact hbD q0 hq0 hz0 (h1.trans e)
    · rcases hget2 q ds hq with ⟨r, hr, rfl, cs, hcs, rfl⟩ | ⟨hne, hq'⟩
      · rw [hι1 r hr]
        by_cases hr0 : r ∈ H0.map (·.1)
        · rw [hold r hr hr0]
          obtain ⟨cs0, hcs0⟩ := hget_of_key hr0
          exact hc.keep.mine (ρ r) _ (hH0' r cs0 hcs0)
        · refine ⟨fun hm => ?_, fun _ hz => ?_⟩
          · have := E.hD _ hm
            have := (hfresh r hr hr0).2
            omega
          · exact hMineE _ (hnewge r hr hr0 hz)
      · rw [hιn q fun r hr => hne r (hN1 r hr)]
        exact hc.keep.mine q ds hq'
theorem opA_call {P : Program} {o : Oper} {σ : St} {K : St → Prop} {f : FuncId} {fn : Func} {cargs : List AV} {H0 H1 : List (Nat × List AV)} {res : AV} (hF : Fn P f cargs H0 res H1) (ρ : Nat → Nat)
    {fo : Operand} {cas : Array Operand} {ts : Array TypeId} {caps : List AV} (ho : o.op = .call { callee := .value fo, args := cas, argTypes := ts }) (hfo : okConst fo = true) (has : cas.toList.all okConst = true) (hf : σ.ev fo = .fn f caps)
    (hfn : P.funcs[f]? = some fn) (hname : (fn.name == "runtime.NumGoroutine") = false) (hbody : fn.body.isNone = false)
    (hD0 : H0.all (fun x => decide (1000 ≤ x.1)) = true) (hargs : argsOk ρ cargs (cas.toList.map σ.ev ++ caps)) (hH0 : ∀ r ∈ H0.map (·.1), hget σ.H (ρ r) = (hget H0 r).map (AV.renL ρ)) (hinj : ∀ r ∈ H0.map (·.1) ++ H1.map (·.1), ∀ q ∈ H0.map (·.1) ++ H1.map (·.1), ρ r = ρ q → r = q)
    (hnew : newOk σ ρ H0 H1) (hin : AV.inN (H1.map (·.1)) res = true) (hinH : inH (H1.map (·.1)) H1 = true)
    (hK : K ((St.mk σ.T (hputs (hdels σ.H (renH ρ H0)) (renH ρ H1))).put o.dst (AV.ren ρ res))) : OpA P o σ K := by
  intro E ι a w hc K' Q hK'
  -- the function's value
  have hfv := hc.ev fo hfo
  rw [hf] at hfv
  generalize hfe : a.eval fo = fv at hfv
  cases hfv with
  | fn _ us _ hul hus =>
    -- the callee's entry
    have hSx : ∀ b, Sx E ι σ.H b → b < w.heap.size → Sx E ι σ.H b ∧ w.heap[b]? = w.heap[b]? := fun b hb _ => ⟨hb, rfl⟩
    have hD0' : ∀ r ∈ H0.map (·.1), 1000 ≤ r := fun r hr => by
      obtain ⟨x, hx, rfl⟩ := List.mem_map.1 hr
      have := List.all_eq_true.1 hD0 x hx
      simpa using this
    have hvs : ∀ (j : Nat) (v : Value) (y : AV), (cas.toList.map a.eval ++ us)[j]? = some v → (cas.toList.map σ.ev ++ caps)[j]? = some y → RV (Sx E ι σ.H) ι w v y := fun j v y hv hy => by
      rw [List.getElem?_append] at hv hy
      simp only [List.length_map] at hv hy
      split at hv
      · rename_i hj
        rw [if_pos hj] at hy
        rw [List.getElem?_map, Option.map_eq_some_iff] at hv hy
        obtain ⟨x1, hx1, rfl⟩ := hv
        obtain ⟨x2, hx2, rfl⟩ := hy
        rw [hx1] at hx2; cases hx2
        exact hc.ev x1 (List.all_eq_true.1 has x1 (List.mem_of_getElem? hx1))
      · rename_i hj
        rw [if_neg hj] at hy
        exact hus _ v y hv hy
    obtain ⟨hal, hag⟩ := argsOk_get hargs
    have hlen : (cas.toList.map a.eval ++ us).length = cargs.length := by rw [hal]; simp [hul]
    -- the callee's own
    have hH0' : ∀ r cs, hget H0 r = some cs → hget σ.H (ρ r) = some (AV.renL ρ cs) := fun r cs hr => by rw [hH0 r (hget_keys hr), hr]; rfl
    obtain ⟨E', hE'⟩ : ∃ E' : Env, E' = { w := w, S := Sx E ι σ.H, ι := fun r => ι (ρ r), D := H0.map (·.1), hD := hD0', hG := hc.glob hH0' } := ⟨_, rfl⟩
    have hconcH : ConcH E'.S E'.ι H0 E'.w := by
      subst hE'
      exact hc.enter ρ hH0' fun r hr q hq => hinj r (List.mem_append_left _ hr) q (List.mem_append_left _ hq)
    have hcall := hF E' (cas.toList.map a.eval ++ us) (by rw [hE']) (fun r cs b hr hz hS => by
      subst hE'
      exact hS.2 (ρ r) _ (hH0' r cs hr) hz) hconcH hlen (fun j v x hv hx => by
      subst hE'
      have hlt := (List.getElem?_eq_some_iff.1 hv).1
      have hy : (cas.toList.map σ.ev ++ caps)[j]? = some ((cas.toList.map σ.ev ++ caps)[j]'(by rw [← hal, ← hlen]; exact hlt)) := List.getElem?_eq_getElem _
      rcases hag j x _ hx hy with rfl | e
      · exact .any _
      · exact (hvs j v _ hv hy).unren x e)
    have hwE : E'.w = w := by rw [hE']
    rw [hwE] at hcall
    -- the run of the operation
    have hrun : (execOp a.eval o).run P w = .ok (.enter f (cas.toList.map a.eval ++ us).toArray) w := by
      have h1 : cas.map a.eval = (cas.toList.map a.eval).toArray := by rw [← Array.toList_map]
      have hen := run_enter hfn hname hbody ((cas.toList.map a.eval).toArray ++ us.toArray) w
      simp only [List.append_toArray] at hen
      simp only [execOp, ho, resolve, hfe, Deferred.ofValue, h1, Sem.run_bind, Sem.run_pure, Result.andThen_ok, invoke, Array.empty_append, List.append_toArray, List.nil_append, hen]
    unfold Oper.wp
    rw [hrun, Oper.upon_enter]
    refine hcall.mono fun e w' => ?_
    rintro ⟨v, ι', rfl, hres, hcH, hk⟩
    simp only
    obtain ⟨ι2, hcn, hrv⟩ := hc.back ρ hD0' hH0' hinj hnew hin hinH hE' hres hcH hk
    exact hK' ι2 _ _ _ hK (hcn.put o.dst hrv)
section
variable {P : Program} {ops : Array Oper} {o : Oper} {rest : List Oper} {σ : St} {K : St → Prop} {Φ : Exit → St → Prop}
theorem evL_nil (h : K σ) : evL P ops [] σ K := h
theorem evL_one (hg : o.guard = none) (h : ∀ K', (∀ σ', evL P ops rest σ' K → K' σ') → evO P o σ K') : evL P ops (o :: rest) σ K := by
  unfold evL
  rw [hg]
  exact evO_sound (h _ fun _ h => h)
theorem evL_op (hg : o.guard = none) (h : ∀ K', (∀ σ', evL P ops rest σ' K → K' σ') → OpA P o σ K') : evL P ops (o :: rest) σ K := by
  unfold evL
  rw [hg]
  exact h _ fun _ h => h
theorem evL_grd {j d : Nat} {want b : Bool} (hg : o.guard = some (j, want)) (hd : (ops[j]?).bind (·.dst) = some d) (hb : σ.T.getD d .any = .c (.v (.bool b)))
    (h1 : b = want → ∀ K', (∀ σ', evL P ops rest σ' K → K' σ') → evO P o (σ.put (some d) (.c (.v (.bool want)))) K')
    (h2 : b = !want → evL P ops rest ((σ.put (some d) (.c (.v (.bool !want)))).put o.dst (.tup [])) K) : evL P ops (o :: rest) σ K := by
  unfold evL
  simp only [hg, hd, hb]
  exact ⟨fun e => evO_sound (h1 e _ fun _ h => h), h2⟩
theorem evL_unmet {j d : Nat} {want : Bool} (hg : o.guard = some (j, want)) (hd : (ops[j]?).bind (·.dst) = some d) (hb : σ.T.getD d .any = .tup []) (h : evL P ops rest (σ.put o.dst (.tup [])) K) : evL P ops (o :: rest) σ K := by
  unfold evL
  simp only [hg, hd, hb]
  exact h
theorem evC_region {id : Nat} {l : List Oper} (h : ∀ K, (∀ σ', Φ .normal σ' → K σ') → evL P l.toArray l σ K) : evC P (.region id l.toArray false) σ Φ := by
  unfold evC
  exact h _ fun _ h => h
theorem evC_seq {x y : Code} (h : ∀ Ψ : Exit → St → Prop, (∀ σ', evC P y σ' Φ → Ψ .normal σ') → (∀ ex σ', ex ≠ .normal → Φ ex σ' → Ψ ex σ') → evC P x σ Ψ) : evC P (.seq x y) σ Φ := by
  unfold evC
  refine h _ (fun _ h => h) fun ex σ' hne h => ?_
  cases ex <;> first | exact absurd rfl hne | exact h
theorem evC_block {id : Nat} {x : Code} (h : ∀ Ψ : Exit → St → Prop, (∀ σ', Φ .normal σ' → Ψ (.exit id) σ') → (∀ ex σ', (∀ j, ex = .exit j → j ≠ id) → Φ ex σ' → Ψ ex σ') → evC P x σ Ψ) : evC P (.block id x) σ Φ := by
  unfold evC
  refine h _ (fun _ h => ?_) fun ex σ' hne h => ?_
  · simp only [if_true]; exact h
  · cases ex <;> first | exact h | (simp only; rw [if_neg (hne _ rfl)]; exact h)
theorem evC_cond {c : Operand} {x y : Code} {t : Bool} (hc : okConst c = true) (ht : σ.ev c = .c (.v (.bool t))) (h1 : t = true → evC P x σ Φ) (h2 : t = false → evC P y σ Φ) : evC P (.cond c x y) σ Φ := by
  unfold evC
  rw [ht]
  exact ⟨hc, h1, h2⟩
theorem evC_exit {id : Nat} (h : Φ (.exit id) σ) : evC P (.exit id) σ Φ := h
theorem evC_ret (h : Φ .ret σ) : evC P .ret σ Φ := h
theorem evC_skip (h : Φ .normal σ) : evC P .skip σ Φ := h
theorem evC_loop {c : Code} {α : Type} (I : α → St) (μ : α → Nat) (x0 : α) (h0 : σ.le (I x0))
    (round : ∀ x, ∀ Ψ : Exit → St → Prop, (∀ σ' y, μ y < μ x → σ'.le (I y) → Ψ .normal σ') → (∀ ex σ', ex ≠ .normal → Φ ex σ' → Ψ ex σ') → evC P c (I x) Ψ) : evC P (.loop c) σ Φ := by
  unfold evC
  refine AW.loop I μ x0 h0 fun x => round x _ (fun σ' y hlt hle => ⟨y, hlt, hle⟩) fun ex σ' hne h => ?_
  cases ex <;> first | exact absurd rfl hne | exact h
end

mutual
theorem ren_free (ρ : Nat → Nat) : ∀ (x : AV), AV.inN [] x = true → AV.ren ρ x = x
  | .any, _ => rfl
  | .c _, _ => rfl
  | .agg cs, h => by unfold AV.ren; rw [renL_free ρ cs (by unfold AV.inN at h; exact h)]
  | .tup cs, h => by unfold AV.ren; rw [renL_free ρ cs (by unfold AV.inN at h; exact h)]
  | .ptr r off, h => by simp [AV.inN] at h
  | .row r e sz n, h => by simp [AV.inN] at h
  | .cut r e sz lo n c ex, h => by simp [AV.inN] at h
  | .ep _, _ => rfl
  | .fn f cs, h => by unfold AV.ren; rw [renL_free ρ cs (by unfold AV.inN at h; exact h)]
theorem renL_free (ρ : Nat → Nat) : ∀ (l : List AV), AV.inNL [] l = true → AV.renL ρ l = l
  | [], _ => rfl
  | x :: l, h => by
    unfold AV.inNL at h
    rw [Bool.and_eq_true] at h
    unfold AV.renL
    rw [ren_free ρ x h.1, renL_free ρ l h.2]
end
theorem argsOk_refl (ρ : Nat → Nat) : ∀ {l : List AV}, AV.inNL [] l = true → argsOk ρ l l
  | [], _ => trivial
  | x :: l, h => by
    unfold AV.inNL at h
    rw [Bool.and_eq_true] at h
    exact ⟨.inr (ren_free ρ x h.1).symm, argsOk_refl ρ h.2⟩
section
variable {P : Program} {o : Oper} {σ : St} {K : St → Prop} {f : FuncId} {fn : Func} {cargs : List AV} {res : AV} {fo : Operand} {cas : Array Operand} {ts : Array TypeId} {caps : List AV}
theorem opA_call0 (hF : Fn P f cargs [] res []) (ho : o.op = .call { callee := .value fo, args := cas, argTypes := ts }) (hfo : okConst fo = true) (has : cas.toList.all okConst = true) (hf : σ.ev fo = .fn f caps)
    (hfn : P.funcs[f]? = some fn) (hname : (fn.name == "runtime.NumGoroutine") = false) (hbody : fn.body.isNone = false)
    (hargs : cas.toList.map σ.ev ++ caps = cargs) (hno : AV.inNL [] cargs = true) (hin : AV.inN [] res = true)
    (hK : K (σ.put o.dst res)) : OpA P o σ K :=
  opA_call hF id ho hfo has hf hfn hname hbody rfl (by rw [hargs]; exact argsOk_refl id hno) (fun r hr => by cases hr) (fun r hr => by cases hr) trivial hin rfl (by
    rw [ren_free id res hin]
    exact hK)
end

/-! a block of which only is read from now on -/
mutual
def AV.frz (r : Nat) (pcs : List PV) : AV → AV
  | .any => .any
  | .c x => .c x
  | .agg cs => .agg (AV.frzL r pcs cs)
  | .tup cs => .tup (AV.frzL r pcs cs)
  | .ptr q off => if q = r then (if off < pcs.length then .ep (pcs.drop off) else .any) else .ptr q off
  | .row q e sz n => if q = r then (if n * sz = pcs.length then .c (.sl false sz n pcs) else .any) else .row q e sz n
  | .cut q e sz lo n m ex => if q = r then (if (lo + n) * sz ≤ pcs.length then .c (.sl false sz n ((pcs.drop (lo * sz)).take (n * sz))) else .any) else .cut q e sz lo n m ex
  | .ep cs => .ep cs
  | .fn f cs => .fn f (AV.frzL r pcs cs)
def AV.frzL (r : Nat) (pcs : List PV) : List AV → List AV
  | [] => []
  | x :: l => AV.frz r pcs x :: AV.frzL r pcs l
end
theorem frzL_get (r : Nat) (pcs : List PV) : ∀ (l : List AV) (j : Nat), (AV.frzL r pcs l)[j]? = (l[j]?).map (AV.frz r pcs)
  | [], j => by simp [AV.frzL]
  | x :: l, 0 => by simp [AV.frzL]
  | x :: l, j + 1 => by simpa [AV.frzL] using frzL_get r pcs l j
theorem frzL_length (r : Nat) (pcs : List PV) (l : List AV) : (AV.frzL r pcs l).length = l.length := by
  induction l with
  | nil => rfl
  | cons x l ih => simp [AV.frzL, ih]
@[simp] theorem frzL_map (r : Nat) (pcs l : List PV) : AV.frzL r pcs (l.map .c) = l.map .c := by
  induction l with
  | nil => rfl
  | cons x l ih => simp [AV.frzL, AV.frz, ih]
def frzH (r : Nat) (pcs : List PV) : List (Nat × List AV) → List (Nat × List AV)
  | [] => []
  | (k, cs) :: H => if k = r then frzH r pcs H else (k, AV.frzL r pcs cs) :: frzH r pcs H
theorem hget_frz (r : Nat) (pcs : List PV) : ∀ (H : List (Nat × List AV)) (q : Nat), hget (frzH r pcs H) q = if q = r then none else (hget H q).map (AV.frzL r pcs)
  | [], q => by simp [frzH, hget]
  | (k, cs) :: H, q => by
    unfold frzH
    by_cases hk : k = r
    · rw [if_pos hk, hget_frz r pcs H q, hget_cons]
      by_cases hq : q = r
      · rw [if_pos hq, if_pos hq]
      · rw [if_neg hq, if_neg hq, if_neg (by omega)]
    · rw [if_neg hk, hget_cons, hget_cons, hget_frz r pcs H q]
      by_cases hkq : k = q
      · subst hkq; rw [if_pos rfl, if_neg hk, if_pos rfl]; rfl
      · rw [if_neg hkq, if_neg hkq]
def St.frz (σ : St) (r : Nat) (pcs : List PV) : St := ⟨AV.frzL r pcs σ.T, frzH r pcs σ.H⟩
section
variable {E : Env} {ι : Nat → Nat × Nat × Nat} {σ : St} {a : Act} {w : World}
theorem RV.frz {S S' : Nat → Prop} {r : Nat} {pcs : List PV} (hS : ∀ b, S b → b < w.heap.size → S' b) (hb : Blk S ι w r (pcs.map .c)) (hr : (ι r).2.1 ≠ 0 → S' (ι r).1) {v : Value} {x : AV} (h : RV S ι w v x) : RV S' ι w v (AV.frz r pcs x) := by
  have hS2 : ∀ b, S b → b < w.heap.size → S' b ∧ w.heap[b]? = w.heap[b]? := fun b h1 h2 => ⟨hS b h1 h2, rfl⟩
  induction h with
  | any v => exact .any _
  | c v p hp => exact .c _ _ (hp.mono hS2)
  | agg us cs hl h1 _ ih =>
    refine .agg us _ (by rw [frzL_length]; exact hl) h1 fun j u y hu hy => ?_
    rw [frzL_get, Option.map_eq_some_iff] at hy
    obtain ⟨x, hx', rfl⟩ := hy
    exact ih j u x hu hx'
  | tup us cs hl _ ih =>
    refine .tup us _ (by rw [frzL_length]; exact hl) fun j u y hu hy => ?_
    rw [frzL_get, Option.map_eq_some_iff] at hy
    obtain ⟨x, hx', rfl⟩ := hy
    exact ih j u x hu hx'
  | ptr q off =>
    unfold AV.frz
    split
    · rename_i e'; subst e'
      split
      · rename_i hn
        rcases hb with ⟨_, hz⟩ | ⟨cur, hh, hs, hl, hc, hone1⟩
        · rw [List.map_eq_nil_iff] at hz; subst hz; simp at hn
        · simp only [List.length_map] at hl
          refine .ep (ι q).1 off ((cur.toList.take pcs.length).drop off) (pcs.drop off) (by simp; omega) (fun h => ?_) (hr (by omega)) (fun j u hu => ?_) fun j u x hu hx => ?_
          · have := congrArg List.length h
            simp at this; omega
          · rw [List.getElem?_drop, List.getElem?_take] at hu
            split at hu
            · simp only [World.cell?, hh]; simpa using hu
            · cases hu
          · rw [List.getElem?_drop, List.getElem?_take] at hu
            rw [List.getElem?_drop] at hx
            split at hu
            · have := (hc (off + j) u (.c x) (by simpa using hu) (by simp [hx])).1
              cases this with
              | c _ _ hp => exact hp.mono hS2
            · cases hu
      · exact .any _
    · exact .ptr q off
  | row q e sz n c h1 h2 h3 h4 h0 =>
    unfold AV.frz
    split
    · rename_i e'; subst e'
      split
      · rename_i hn
        rcases hb with ⟨hz, _⟩ | ⟨cur, hh, hs, hl, hc, hone1⟩
        · exact absurd hz h0
        · simp only [List.length_map] at hl
          refine .c _ _ (.sl false sz _ n c (cur.toList.take pcs.length) pcs h1 h2 (fun e => by cases e) (fun e => by cases e) (by simp; omega) hn.symm (fun _ => ⟨_, _, rfl, hr h0, fun j u hu => ?_⟩) fun j u x hu hx => ?_)
          · rw [List.getElem?_take] at hu
            split at hu
            · simp only [World.cell?, hh, Nat.zero_add]; simpa using hu
            · cases hu
          · rw [List.getElem?_take] at hu
            split at hu
            · have := (hc j u (.c x) (by simpa using hu) (by simp [hx])).1
              cases this with
              | c _ _ hp => exact hp.mono hS2
            · cases hu
      · exact .any _
    · exact .row q e sz n c h1 h2 h3 h4 h0
  | rnil A q e sz hz =>
    unfold AV.frz
    split
    · rename_i e'; subst e'
      split
      · rename_i hn
        have : pcs = [] := List.eq_nil_of_length_eq_zero (by omega)
        subst this
        exact .c _ _ (.sl false sz A 0 0 [] [] (Nat.le_refl _) (Nat.zero_le _) (fun _ => rfl) (fun e => by cases e) rfl hn.symm (fun h => absurd rfl h) fun j u x hu => by cases hu)
      · exact .any _
    · exact .rnil A q e sz hz
  | cut q e sz lo n c ex h1 h2 h3 hx4 h4 h0 =>
    unfold AV.frz
    split
    · rename_i e'; subst e'
      split
      · rename_i hn
        rcases hb with ⟨hz, _⟩ | ⟨cur, hh, hs, hl, hc, hone1⟩
        · exact absurd hz h0
        · simp only [List.length_map] at hl
          have e1 : (lo + n) * sz = lo * sz + n * sz := Nat.add_mul _ _ _
          refine .c _ _ (.sl false sz _ n c ((cur.toList.drop (lo * sz)).take (n * sz)) _ h1 h2 (fun e => by cases e) (fun e => by cases e) (by simp; omega) (by simp; omega) (fun _ => ⟨_, _, rfl, hr h0, fun j u hu => ?_⟩) fun j u x hu hx => ?_)
          · rw [List.getElem?_take] at hu
            split at hu
            · simp only [World.cell?, hh]; rw [List.getElem?_drop] at hu; simpa using hu
            · cases hu
          · rw [List.getElem?_take] at hu hx
            split at hu
            · rename_i hj
              rw [if_pos hj] at hx
              rw [List.getElem?_drop] at hu hx
              have := (hc (lo * sz + j) u (.c x) (by simpa using hu) (by simp [hx])).1
              cases this with
              | c _ _ hp => exact hp.mono hS2
            · cases hu
      · exact .any _
    · exact .cut q e sz lo n c ex h1 h2 h3 hx4 h4 h0
  | cnil A q e sz lo ex hz =>
    unfold AV.frz
    split
    · split
      · simp only [Nat.zero_mul, List.take_zero]
        exact .c _ _ (.sl false sz A 0 0 [] [] (Nat.le_refl _) (Nat.zero_le _) (fun _ => rfl) (fun e => by cases e) rfl (by simp) (fun h => absurd rfl h) fun j u x hu => by cases hu)
      · exact .any _
    · exact .cnil A q e sz lo ex hz
  | ep b o us cs hl hne hb' h4 h5 =>
    obtain ⟨u0, rest, hu0⟩ := List.exists_cons_of_ne_nil hne
    have hlt := block_lt_of_cell (h4 0 u0 (by rw [hu0]; rfl))
    exact .ep b o us cs hl hne (hS b hb' hlt) h4 fun j u x hu hx => (h5 j u x hu hx).mono hS2
  | fn f us cs hl _ ih =>
    refine .fn f us _ (by rw [frzL_length]; exact hl) fun j u y hu hy => ?_
    rw [frzL_get, Option.map_eq_some_iff] at hy
    obtain ⟨x, hx', rfl⟩ := hy
    exact ih j u x hu hx'
theorem Conc.frz (h : Conc E ι σ a w) {r : Nat} {pcs : List PV} (hr : hget σ.H r = some (pcs.map .c)) : Conc E ι (σ.frz r pcs) a w := by
  have hblk := h.heap.blk r _ hr
  have hS : ∀ b, Sx E ι σ.H b → b < w.heap.size → Sx E ι (frzH r pcs σ.H) b := fun b ⟨h1, h2⟩ _ => ⟨h1, fun q ds hq hz => by
    rw [hget_frz] at hq
    split at hq
    · cases hq
    · rw [Option.map_eq_some_iff] at hq
      obtain ⟨cs, hcs, _⟩ := hq
      exact h2 q cs hcs hz⟩
  have hrS : (ι r).2.1 ≠ 0 → Sx E ι (frzH r pcs σ.H) (ι r).1 := fun hz => by
    refine ⟨.inr (by
      by_cases hm : r ∈ E.D
      · have m1 := (h.keep.mine r _ hr).1 hm
        rw [m1] at hz ⊢; exact .inr ⟨r, hm, hz, rfl⟩
      · exact (h.keep.mine r _ hr).2 hm hz), fun q ds hq hz' => ?_⟩
    rw [hget_frz] at hq
    split at hq
    · cases hq
    · rename_i hne
      rw [Option.map_eq_some_iff] at hq
      obtain ⟨cs, hcs, _⟩ := hq
      exact h.heap.inj q r _ _ hcs hr hne hz' hz
  have hR : ∀ {v : Value} {x : AV}, RV (Sx E ι σ.H) ι w v x → RV (Sx E ι (frzH r pcs σ.H)) ι w v (AV.frz r pcs x) := fun hv => hv.frz hS hblk hrS
  refine ⟨h.defers.mono fun b h1 h2 => ⟨hS b h1 h2, rfl⟩, by show _ = (AV.frzL r pcs σ.T).length; rw [frzL_length]; exact h.size, fun i => ?_, ⟨fun q ds hq => ?_, fun q q' ds es hq hq' hne hz1 hz2 => ?_⟩, ⟨h.keep.os, h.keep.tape, h.keep.output, h.keep.size, h.keep.block, fun q ds hq => ?_⟩⟩
  · show RV _ ι w _ ((AV.frzL r pcs σ.T).getD i .any)
    have : (AV.frzL r pcs σ.T).getD i .any = AV.frz r pcs (σ.T.getD i .any) := by
      rw [List.getD_eq_getElem?_getD, List.getD_eq_getElem?_getD, frzL_get]
      cases σ.T[i]? <;> rfl
    rw [this]
    exact hR (h.tmp i)
  · have hq1 : hget (frzH r pcs σ.H) q = some ds := hq
    rw [hget_frz] at hq1
    split at hq1
    · cases hq1
    · rw [Option.map_eq_some_iff] at hq1
      obtain ⟨cs, hcs, rfl⟩ := hq1
      rcases h.heap.blk q cs hcs with ⟨h0, rfl⟩ | ⟨cur, hh, hs, hl, hc, hone1⟩
      · exact .inl ⟨h0, rfl⟩
      · refine .inr ⟨cur, hh, hs, by rw [frzL_length]; exact hl, fun j u y hu hy => ?_, hone1⟩
        rw [frzL_get, Option.map_eq_some_iff] at hy
        obtain ⟨x, hx, rfl⟩ := hy
        exact ⟨hR (hc j u x hu hx).1, (hc j u x hu hx).2⟩
  · have hq1 : hget (frzH r pcs σ.H) q = some ds := hq
    have hq2 : hget (frzH r pcs σ.H) q' = some es := hq'
    rw [hget_frz] at hq1 hq2
    split at hq1
    · cases hq1
    · split at hq2
      · cases hq2
      · rw [Option.map_eq_some_iff] at hq1 hq2
        obtain ⟨cs, hcs, _⟩ := hq1
        obtain ⟨cs', hcs', _⟩ := hq2
        exact h.heap.inj q q' cs cs' hcs hcs' hne hz1 hz2
  · have hq1 : hget (frzH r pcs σ.H) q = some ds := hq
    rw [hget_frz] at hq1
    split at hq1
    · cases hq1
    · rw [Option.map_eq_some_iff] at hq1
      obtain ⟨cs, hcs, _⟩ := hq1
      exact h.keep.mine q cs hcs
theorem OpA.frz {P : Program} {o : Oper} {K : St → Prop} (r : Nat) {pcs : List PV} (hr : hget σ.H r = some (pcs.map .c)) (h : OpA P o (σ.frz r pcs) K) : OpA P o σ K :=
  fun E ι a w hc => h E ι a w (hc.frz hr)
theorem AW.frz {P : Program} {c : Code} {Φ : Exit → St → Prop} (r : Nat) {pcs : List PV} (hr : hget σ.H r = some (pcs.map .c)) (h : AW P c (σ.frz r pcs) Φ) : AW P c σ Φ :=
  fun E ι a w hc => h E ι a w (hc.frz hr)
end
end Go.Proofs.YtgdjkkapgghdbaaDoor

