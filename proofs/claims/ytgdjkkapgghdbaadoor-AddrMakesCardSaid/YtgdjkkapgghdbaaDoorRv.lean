/-
  Arguments read by value: slices of slices, too. No program in sight.
-/
import Derived.Test.YtgdjkkapgghdbaaDoorRow
import Derived.Test.YtgdjkkapgghdbaaDoorAvW
namespace Go.Proofs.YtgdjkkapgghdbaaDoor
open Go.RowKit Go.ChangeShapes Go.WideShapes Go.ChangeAt Go.Deep
set_option linter.unusedVariables false
set_option linter.unusedSimpArgs false
def DecV {α : Type} (P : Program) (t : TypeId) (sz : Nat) (g : α → List PV) (Good : α → Prop) : Prop :=
  P.cellsOf t = sz ∧ ∀ (H : Type) (enc : TypeId × Value → H) (w : World) (base : Nat) (spare : Nat → Bool) (held : Bool) (fuel : Nat) (cs : List Value) (x : DataW H × List MemPlace),
    DataW.trod enc P w base spare held fuel t cs = some x → ∃ a, cs.length = sz ∧ (g a).length = sz ∧ (∀ (j : Nat) (u : Value) (y : PV), cs[j]? = some u → (g a)[j]? = some y → RVp (fun _ => True) w u y) ∧ Good a
theorem Dec.toV {α : Type} {P : Program} {t : TypeId} {sz : Nat} {f : α → List Value} {G : α → Prop} (h : Dec P t sz f G) (hf : ∀ a, (f a).length = sz) (ho : ∀ a, ∀ u ∈ f a, u.oneCell' = true) : DecV P t sz (fun a => (f a).map .v) G :=
  ⟨h.1, fun H enc w base spare held fuel cs x hx => by
    obtain ⟨a, rfl, ga⟩ := h.2 H enc w base spare held fuel cs x hx
    refine ⟨a, hf a, by simp [hf], fun j u y hu hy => ?_, ga⟩
    rw [List.getElem?_map, hu] at hy
    cases hy
    exact .v u (ho a u (List.mem_of_getElem? hu))⟩
theorem DecV.map {α β : Type} {P : Program} {t : TypeId} {sz : Nat} {g : α → List PV} {G : α → Prop} (h : DecV P t sz g G) {g' : β → List PV} {G' : β → Prop} (hg : ∀ a, G a → ∃ b, g a = g' b ∧ G' b) : DecV P t sz g' G' :=
  ⟨h.1, fun H enc w base spare held fuel cs x hx => by
    obtain ⟨a, h1, h2, h3, ga⟩ := h.2 H enc w base spare held fuel cs x hx
    obtain ⟨b, e, gb⟩ := hg a ga
    exact ⟨b, h1, by rw [← e]; exact h2, by rw [← e]; exact h3, gb⟩⟩
theorem decV_slice {α : Type} {P : Program} {t e : TypeId} {sz : Nat} {g : α → List PV} {G : α → Prop} (ht : P.underlying t = some (.slice e)) (hc : P.cellsOf t = 1) (he : DecV P e sz g G) (hs : 0 < sz) (hgl : ∀ a, (g a).length = sz) :
    DecV P t 1 (fun l : List α => [PV.sl false sz l.length (l.flatMap g)]) (fun l => l.length ≤ maxLen ∧ ∀ a ∈ l, G a) :=
  ⟨hc, fun H enc w base spare held fuel cs x hx => by
    rcases DataW.trod_slice ht hx with ⟨rfl, _⟩ | ⟨a, n, c, elems, rest, m, _, rfl, _, _, hl, hm, hel, hi, _, _⟩
    · refine ⟨[], rfl, rfl, fun j u y hu hy => ?_, Nat.zero_le _, by simp⟩
      cases j with
      | zero =>
        simp only [List.getElem?_cons_zero, Option.some.injEq] at hu hy
        subst hu hy
        exact .sl false sz none 0 0 [] [] (Nat.le_refl _) (Nat.zero_le _) (fun _ => rfl) (fun h => by cases h) rfl (by simp) (fun h => absurd rfl h) fun j u x hu => by cases hu
      | succ j => simp at hu
    · have key : ∀ i, i < n → ∃ b : α, G b ∧ ∃ us : List Value, us.length = sz ∧ (∀ j, j < sz → w.cell? (a.add (i * sz + j)) = us[j]?) ∧ ∀ (j : Nat) (u : Value) (y : PV), us[j]? = some u → (g b)[j]? = some y → RVp (fun _ => True) w u y := by
        intro i hin
        have h1 := hi i hin
        rw [List.getElem?_eq_getElem (by omega)] at h1
        obtain ⟨us, hcs, htr⟩ := Option.bind_eq_some_iff.1 h1
        rw [he.1] at hcs
        obtain ⟨b, hb1, hb2, hb3, hG⟩ := he.2 H enc w base spare held m us _ htr
        obtain ⟨_, hcl, hat⟩ := World.cells?_some hcs
        refine ⟨b, hG, us, hb1, fun j hj => ?_, hb3⟩
        rw [← Go.Deep.add_add, hat j hj]
      have key2 : ∃ l : List α, l.length = n ∧ ∀ i b, l[i]? = some b → G b ∧ ∃ us : List Value, us.length = sz ∧ (∀ j, j < sz → w.cell? (a.add (i * sz + j)) = us[j]?) ∧ ∀ (j : Nat) (u : Value) (y : PV), us[j]? = some u → (g b)[j]? = some y → RVp (fun _ => True) w u y :=
        choose_list (p := fun i b => G b ∧ ∃ us : List Value, us.length = sz ∧ (∀ j, j < sz → w.cell? (a.add (i * sz + j)) = us[j]?) ∧ ∀ (j : Nat) (u : Value) (y : PV), us[j]? = some u → (g b)[j]? = some y → RVp (fun _ => True) w u y) n key
      obtain ⟨l, hll, hp⟩ := key2
      have hcell : ∀ j, j < n * sz → ∃ u, w.cell? (a.add j) = some u ∧ ∀ y, (l.flatMap g)[j]? = some y → RVp (fun _ => True) w u y := fun j hjl => by
        have hq : j / sz < n := Nat.div_lt_of_lt_mul (by rw [Nat.mul_comm]; exact hjl)
        have hr : j % sz < sz := Nat.mod_lt _ hs
        have hj : j = j / sz * sz + j % sz := by rw [Nat.mul_comm]; exact (Nat.div_add_mod j sz).symm
        have hk : l[j / sz]? = some (l[j / sz]'(by omega)) := List.getElem?_eq_getElem (by omega)
        obtain ⟨_, us, hul, hc1, hrv⟩ := hp _ _ hk
        have h1 := hc1 _ hr
        rw [← hj, List.getElem?_eq_getElem (by omega)] at h1
        refine ⟨_, h1, fun y hy => hrv (j % sz) _ y (List.getElem?_eq_getElem (by omega)) ?_⟩
        have h2 := flat_at hgl hk
        have h3 : ((l.flatMap g).drop (j / sz * sz)).take sz = g (l[j / sz]'(by omega)) := h2
        rw [← h3, List.getElem?_take, if_pos hr, List.getElem?_drop, ← hj]
        exact hy
      have hus : ∃ us : List Value, us.length = n * sz ∧ ∀ j u, us[j]? = some u → w.cell? (a.add j) = some u ∧ ∀ y, (l.flatMap g)[j]? = some y → RVp (fun _ => True) w u y :=
        choose_list (p := fun j u => w.cell? (a.add j) = some u ∧ ∀ y, (l.flatMap g)[j]? = some y → RVp (fun _ => True) w u y) (n * sz) hcell
      obtain ⟨us, husl, hu⟩ := hus
      have hfl : (l.flatMap g).length = n * sz := by rw [flat_length hgl, hll]
      refine ⟨l, rfl, rfl, fun j u y hu0 hy => ?_, by omega, fun b hb => ?_⟩
      · cases j with
        | zero =>
          simp only [List.getElem?_cons_zero, Option.some.injEq] at hu0 hy
          subst hu0 hy
          rw [hll]
          refine .sl false sz (some a) n c us _ hl hm (fun h => by cases h) (fun h => by cases h) (by rw [husl, hfl]) hfl (fun hne => ?_) fun j u x hj hx => (hu j u hj).2 x hx
          obtain ⟨u0, rest0, hu0⟩ := List.exists_cons_of_ne_nil hne
          have hc0 := (hu 0 u0 (by rw [hu0]; rfl)).1
          rw [add_zero'] at hc0
          have hspot := World.cell?_spot hc0
          obtain ⟨ab, ao, asp⟩ := a
          simp only at hspot
          subst hspot
          exact ⟨ab, ao, rfl, trivial, fun j u hj => by have := (hu j u hj).1; rwa [add_none] at this⟩
        | succ j => simp at hu0
      · obtain ⟨i, hi'⟩ := List.mem_iff_getElem?.1 hb
        exact (hp i b hi').1⟩
theorem open_V {H : Type} {enc : TypeId × Value → H} {α : Type} {P : Program} {t : TypeId} {g : α → PV} {G : α → Prop} {w : World} {base : Nat} {spare : Nat → Bool} {held : Bool} {v : Value} {d : DataW H} {ps : List MemPlace} (h : DecV P t 1 (fun a => [g a]) G) (hv : v.cells.toList = [v]) (ht : DataW.Trod enc P w base spare held t v d ps) (ι : Nat → Nat × Nat × Nat) :
    ∃ a, RV (fun _ => True) ι w v (.c (g a)) ∧ G a := by
  obtain ⟨fuel, ht⟩ := ht
  obtain ⟨a, _, _, h3, ga⟩ := h.2 H enc w base spare held fuel _ _ ht
  exact ⟨a, .c _ _ (h3 0 v (g a) (by rw [hv]; rfl) rfl), ga⟩
theorem decV_int {P : Program} {t : TypeId} {k : IntKind} (ht : P.underlying t = some (.int k)) (hc : P.cellsOf t = 1) : DecV P t 1 (fun n : Int => [PV.v (.int k n)]) (fun n => (Lit.int k n).wf = true) :=
  ((dec_int ht hc).toV (fun _ => rfl) (fun a u hu => by simp at hu; subst hu; rfl)).map fun a ga => ⟨a, rfl, ga⟩
theorem decV_w4 {P : Program} {t e : TypeId} (ht : P.underlying t = some (.array 4 e)) (hc : P.cellsOf t = 4 * 1) (he : P.underlying e = some (.int .u64)) (hce : P.cellsOf e = 1) :
    DecV P t 4 (fun x : Int × Int × Int × Int => [PV.v (.int .u64 x.1), .v (.int .u64 x.2.1), .v (.int .u64 x.2.2.1), .v (.int .u64 x.2.2.2)]) (fun x => (0 ≤ x.1 ∧ x.1 ≤ 18446744073709551615) ∧ (0 ≤ x.2.1 ∧ x.2.1 ≤ 18446744073709551615) ∧ (0 ≤ x.2.2.1 ∧ x.2.2.1 ≤ 18446744073709551615) ∧ (0 ≤ x.2.2.2 ∧ x.2.2.2 ≤ 18446744073709551615)) :=
  ((dec_map (f' := fun x : Int × Int × Int × Int => [.int .u64 x.1, .int .u64 x.2.1, .int .u64 x.2.2.1, .int .u64 x.2.2.2]) (G' := fun x => (0 ≤ x.1 ∧ x.1 ≤ 18446744073709551615) ∧ (0 ≤ x.2.1 ∧ x.2.1 ≤ 18446744073709551615) ∧ (0 ≤ x.2.2.1 ∧ x.2.2.1 ≤ 18446744073709551615) ∧ (0 ≤ x.2.2.2 ∧ x.2.2.2 ≤ 18446744073709551615)) (dec_arr (n := 4) ht hc (by omega) (dec_u64 he hce) (fun _ => rfl)) fun l ⟨hl, hg⟩ => by
    match l, hl with
    | [x, y, z, u], _ =>
      have h1 := hg x (by simp)
      have h2 := hg y (by simp)
      have h3 := hg z (by simp)
      have h4 := hg u (by simp)
      exact ⟨(x, y, z, u), by simp [sts], ⟨by simp only; omega, by simp only; omega⟩, ⟨by simp only; omega, by simp only; omega⟩, ⟨by simp only; omega, by simp only; omega⟩, ⟨by simp only; omega, by simp only; omega⟩⟩).toV (fun _ => rfl) (fun a u hu => by simp at hu; rcases hu with rfl | rfl | rfl | rfl <;> rfl)).map fun a ga => ⟨a, rfl, ga⟩
open Go.RowKit Go.ChangeShapes Go.WideShapes Go.ChangeAt Go.Deep
theorem open_VA {H : Type} {enc : TypeId × Value → H} {α : Type} {P : Program} {t : TypeId} {sz : Nat} {g : α → List PV} {G : α → Prop} {w : World} {base : Nat} {spare : Nat → Bool} {held : Bool} {cs : Array Value} {d : DataW H} {ps : List MemPlace} (h : DecV P t sz g G) (ht : DataW.Trod enc P w base spare held t (.agg cs) d ps) (ι : Nat → Nat × Nat × Nat) :
    ∃ a, RV (fun _ => True) ι w (.agg cs) (.agg ((g a).map .c)) ∧ G a := by
  obtain ⟨fuel, ht⟩ := ht
  obtain ⟨a, a1, a2, a3, ga⟩ := h.2 H enc w base spare held fuel _ _ ht
  have e : (Value.agg cs).cells.toList = cs.toList := rfl
  rw [e] at a1 a3
  refine ⟨a, ?_, ga⟩
  have hc : cs = cs.toList.toArray := by simp
  rw [hc]
  have key : ∀ (j : Nat) (u : Value) (y : PV), cs.toList[j]? = some u → (g a)[j]? = some y → RVp (fun _ => True) w u y := a3
  refine .agg cs.toList _ (by rw [List.length_map, a1, a2]) (fun u hu => ?_) fun j u x hu hx => ?_
  · obtain ⟨j, hj⟩ := List.mem_iff_getElem?.1 hu
    have hlt := (List.getElem?_eq_some_iff.1 hj).1
    exact (key j u _ hj (List.getElem?_eq_getElem (by omega))).one
  · rw [List.getElem?_map, Option.map_eq_some_iff] at hx
    obtain ⟨y, hy, rfl⟩ := hx
    exact .c _ _ (key j u y hu hy)
end Go.Proofs.YtgdjkkapgghdbaaDoor

