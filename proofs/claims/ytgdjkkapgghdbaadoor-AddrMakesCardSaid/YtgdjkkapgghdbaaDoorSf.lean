/-
  From the library's sorting of a row, told by its worlds, to a contract of the reckoning. No program in sight.
-/
import Derived.Test.YtgdjkkapgghdbaaDoorAvI
import Derived.Shelf.SlSortCmp.NoneTotal
namespace Go.Proofs.YtgdjkkapgghdbaaDoor
open Go.RowKit
set_option linter.unusedVariables false
set_option linter.unusedSimpArgs false
theorem heap_sorted {α : Type} [Inhabited α] {enc : α → Value} {w : World} {blk m : Nat} {d : Array α} {os : Array Obj} {cur : Array Value} {t : TypeId} (hb : w.heap[blk]? = some (.cells cur t (0, 0))) :
    (sortWorld enc w blk 0 m d os).heap[blk]? = some (.cells (Sort.putCells enc 0 d cur) t (0, 0)) := by
  have hlt : blk < w.heap.size := (Array.getElem?_eq_some_iff.1 hb).1
  unfold sortWorld
  rw [Sort.heap_grow_old _ _ (by rw [Sort.size_putRow]; exact hlt)]
  show (w.heap.modify blk (Sort.onCells (Sort.putCells enc 0 d)))[blk]? = _
  rw [Array.getElem?_modify, if_pos rfl, hb]
  rfl
theorem heap_sorted_other {α : Type} [Inhabited α] {enc : α → Value} {w : World} {blk m b : Nat} {d : Array α} {os : Array Obj} (hlt : b < w.heap.size) (hne : blk ≠ b) :
    (sortWorld enc w blk 0 m d os).heap[b]? = w.heap[b]? := by
  unfold sortWorld
  rw [Sort.heap_grow_old _ _ (by rw [Sort.size_putRow]; exact hlt)]
  show (w.heap.modify blk (Sort.onCells (Sort.putCells enc 0 d)))[b]? = _
  rw [Array.getElem?_modify, if_neg hne]
theorem size_sorted {α : Type} [Inhabited α] {enc : α → Value} {w : World} {blk m : Nat} {d : Array α} {os : Array Obj} : w.heap.size ≤ (sortWorld enc w blk 0 m d os).heap.size := by
  unfold sortWorld
  rw [Sort.size_grow, Sort.size_putRow]
  exact Nat.le_add_right _ _
theorem frozen_none {w : World} {b : Nat} {cs : Array Value} {t : TypeId} (hb : w.heap[b]? = some (.cells cs t (0, 0))) (j : Nat) : w.frozen? ⟨b, j, none⟩ = false := by
  unfold World.frozen?
  rw [hb]
  simp
theorem cell_of {w : World} {b : Nat} {cs : Array Value} {t : TypeId} (hb : w.heap[b]? = some (.cells cs t (0, 0))) (j : Nat) : w.cell? ⟨b, j, none⟩ = cs[j]? := by
  unfold World.cell?
  rw [hb]
  rfl
theorem Fn.sorting {α : Type} [Inhabited α] {P : Program} {f g : FuncId} {e : TypeId} {enc : α → Value} (h1 : ∀ x, (enc x).oneCell' = true) (l l' : List α) (hlen : l'.length = l.length)
    (hS : ∀ (blk cap : Nat) (w : World), l ≠ [] → Sort.Holds enc w blk 0 l.toArray → blk < w.heap.size → Calls P f #[.slice (some ⟨blk, 0, none⟩) l.toArray.size cap, .func (.func g) #[] #[]] w fun e w' => e = .returned (.tuple #[]) ∧ ∃ n os, w' = sortWorld enc w blk 0 n l'.toArray os)
    (h0 : ∀ p cap w, Calls P f #[.slice p 0 cap, .func (.func g) #[] #[]] w fun e w' => e = .returned (.tuple #[]) ∧ w' = w) :
    Fn P f [.row 1000 e 1 l.length, .fn g []] [(1000, l.map fun x => .c (.v (enc x)))] (.tup []) [(1000, l'.map fun x => .c (.v (enc x)))] := by
  intro E vs hD hsep hH hvl hv
  obtain ⟨v0, v1, rfl⟩ : ∃ v0 v1, vs = [v0, v1] := by
    match vs, hvl with
    | [v0, v1], _ => exact ⟨v0, v1, rfl⟩
  have r0 := hv 0 v0 _ rfl rfl
  have r1 := hv 1 v1 _ rfl rfl
  have hmine : (∀ (q : Nat) cs, hget [(1000, l'.map fun x => AV.c (.v (enc x)))] q = some cs → (q ∈ E.D → E.ι q = E.ι q) ∧ (q ∉ E.D → (E.ι q).2.1 ≠ 0 → Mine E (E.ι q).1)) := fun q cs hq =>
    ⟨fun _ => rfl, fun hn _ => by
      rw [hD] at hn
      simp only [hget] at hq
      split at hq
      · rename_i e; subst e; simp at hn
      · cases hq⟩
  have hblk0 := hH.blk 1000 (l.map fun x => AV.c (.v (enc x))) (by simp [hget])
  cases r1 with
  | fn _ us _ hul hus =>
  obtain rfl := List.eq_nil_of_length_eq_zero hul
  -- no element
  have hnone : ∀ p c, l = [] → v0 = .slice p 0 c → Calls P f [v0, .func (.func g) #[] #[]].toArray E.w fun e w' => ∃ v ι', e = .returned v ∧ RV (Sx E ι' [(1000, l'.map fun x => AV.c (.v (enc x)))]) ι' w' v (.tup []) ∧ ConcH (Sx E ι' [(1000, l'.map fun x => AV.c (.v (enc x)))]) ι' [(1000, l'.map fun x => AV.c (.v (enc x)))] w' ∧ Keep E ι' [(1000, l'.map fun x => AV.c (.v (enc x)))] w' := by
    intro p c hl0 hv0
    subst hl0 hv0
    obtain rfl := List.eq_nil_of_length_eq_zero hlen
    refine (h0 p c E.w).mono ?_
    rintro e w' ⟨rfl, rfl⟩
    refine ⟨_, E.ι, rfl, .tup [] [] rfl (fun j u x hu => by cases hu), ⟨fun q cs hq => ?_, fun q q' cs ds hq hq' hne => ?_⟩, ⟨rfl, rfl, rfl, Nat.le_refl _, fun _ _ _ => rfl, hmine⟩⟩
    · simp only [hget] at hq
      split at hq
      · rename_i e; subst e; cases hq
        rcases hblk0 with hb | ⟨cur, hc1, hc2, hc3, hc4, hc5⟩
        · exact .inl hb
        · exact .inr ⟨cur, hc1, hc2, hc3, fun j u x hu hx => (by cases hx), hc5⟩
      · cases hq
    · simp only [hget] at hq hq'
      split at hq
      · split at hq'
        · omega
        · cases hq'
      · cases hq
  rcases Nat.eq_zero_or_pos l.length with hl0 | hl0
  · generalize hn : l.length = n at r0
    have hn0 : n = 0 := by omega
    cases r0 with
    | row _ _ _ _ c k1 k2 k3 k4 k0 => exact hnone _ _ (List.eq_nil_of_length_eq_zero hl0) (by rw [hn0])
    | rnil A _ _ _ k => exact hnone A 0 (List.eq_nil_of_length_eq_zero hl0) rfl
  · have hne : l ≠ [] := fun h => by rw [h] at hl0; exact Nat.lt_irrefl _ hl0
    generalize hn : l.length = n at r0
    cases r0 with
    | rnil A _ _ _ k => omega
    | row _ _ _ _ c k1 k2 k3 k4 k0 =>
      rcases hblk0 with hb | ⟨cur, hc1, hc2, hc3, hc4, hc5⟩
      · exact absurd hb.1 k0
      · rw [List.length_map] at hc3
        have hlt : (E.ι 1000).1 < E.w.heap.size := (Array.getElem?_eq_some_iff.1 hc1).1
        have hsz : l.toArray.size = n := by simp [hn]
        have hHo : Sort.Holds enc E.w (E.ι 1000).1 0 l.toArray := by
          intro j hj
          rw [hsz] at hj
          have hjc : j < cur.size := by omega
          refine ⟨?_, frozen_none hc1 _⟩
          rw [Nat.zero_add, cell_of hc1, Array.getElem?_eq_getElem hjc]
          obtain ⟨hrv, _⟩ := hc4 j _ (.c (.v (enc l[j]))) (Array.getElem?_eq_getElem hjc) (by rw [List.getElem?_map, List.getElem?_eq_getElem (by omega)]; rfl)
          generalize cur[j] = u at hrv ⊢
          cases hrv with
          | c _ _ hp =>
            cases hp with
            | v =>
              rw [getElem!_pos _ j (by simp; omega)]
              simp
        have hC := hS (E.ι 1000).1 c E.w hne hHo hlt
        rw [hsz] at hC
        refine hC.mono ?_
        rintro e w' ⟨rfl, m, os, rfl⟩
        have hnew := heap_sorted (enc := enc) (m := m) (d := l'.toArray) (os := os) hc1
        have hcs : (Sort.putCells enc 0 l'.toArray cur).size = cur.size := by simp [Sort.putCells]
        have hcell : ∀ (j : Nat) (u : Value), (Sort.putCells enc 0 l'.toArray cur)[j]? = some u → ∃ y, cur[j]? = some y ∧ u = if j < l'.length then enc l'.toArray[j]! else y := by
          intro j u hu
          have hj : j < cur.size := by rw [← hcs]; exact (Array.getElem?_eq_some_iff.1 hu).1
          refine ⟨_, Array.getElem?_eq_getElem hj, ?_⟩
          simp only [Sort.putCells, Array.getElem?_mapIdx, Array.getElem?_eq_getElem hj, Option.map_some, Option.some.injEq] at hu
          rw [← hu]
          simp
        refine ⟨_, E.ι, rfl, .tup [] [] rfl (fun j u x hu => by cases hu), ⟨fun q cs hq => ?_, fun q q' cs ds hq hq' hne' => ?_⟩, ⟨rfl, rfl, rfl, size_sorted, fun b hb hnb => ?_, hmine⟩⟩
        · simp only [hget] at hq
          split at hq
          · rename_i e; subst e; cases hq
            refine .inr ⟨_, hnew, by rw [hcs]; exact hc2, by rw [hcs, List.length_map]; omega, fun j u x hu hx => ?_, fun u hu => ?_⟩
            · obtain ⟨y, hy, rfl⟩ := hcell j u hu
              rw [List.getElem?_map, Option.map_eq_some_iff] at hx
              obtain ⟨z, hz, rfl⟩ := hx
              have hj := (List.getElem?_eq_some_iff.1 hz).1
              rw [if_pos hj]
              have : l'.toArray[j]! = z := by
                rw [getElem!_pos _ j (by simpa using hj)]
                simp
                exact (List.getElem?_eq_some_iff.1 hz).2
              rw [this]
              exact ⟨.c _ _ (.v _ (h1 z)), h1 z⟩
            · obtain ⟨j, hj⟩ := List.mem_iff_getElem?.1 hu
              rw [Array.getElem?_toList] at hj
              obtain ⟨y, hy, rfl⟩ := hcell j u hj
              split
              · exact h1 _
              · exact hc5 y (by
                  rw [← Array.getElem?_toList] at hy
                  exact List.mem_of_getElem? hy)
          · cases hq
        · simp only [hget] at hq hq'
          split at hq
          · split at hq'
            · omega
            · cases hq'
          · cases hq
        · exact heap_sorted_other hb (hnb 1000 (by rw [hD]; simp) k0)
end Go.Proofs.YtgdjkkapgghdbaaDoor

