/-
  Rows of bytes by value, and what the contracts that were walked at the cells say of them.
-/
import Derived.Test.YtagkcmoloceheaaDoorOctW
import Derived.Test.YtagkcmoloceheaaDoorAvO
import Derived.Test.YtagkcmoloceheaaDoorAvBn
import Derived.Test.YtagkcmoloceheaaDoorAvTy
namespace Go.Proofs.YtagkcmoloceheaaDoor
open Go.RowKit
set_option linter.unusedVariables false
set_option linter.unusedSimpArgs false
abbrev vi (k : IntKind) (n : Int) : AV := .c (.v (.int k n))
abbrev vb (b : Bool) : AV := .c (.v (.bool b))
def upv (b : UInt8) : List PV := [.v (.int .u8 (b.toNat : Int))]
theorem upv_len (b : UInt8) : (upv b).length = 1 := rfl
abbrev usl (ex : Bool) (l : List UInt8) : AV := .c (.sl ex 1 l.length (l.flatMap upv))
def rcU (l : List UInt8) : List AV := (l.flatMap upv).map .c
theorem upv_map (l : List UInt8) : l.flatMap upv = (u8s l).map PV.v := by
  induction l with
  | nil => rfl
  | cons a l ih => rw [List.flatMap_cons, ih]; rfl
theorem rcU_len (l : List UInt8) : (rcU l).length = l.length := by unfold rcU; rw [List.length_map, flat_length upv_len, Nat.mul_one]
theorem RV.slU {S : Nat → Prop} {ι : Nat → Nat × Nat × Nat} {w : World} {v : Value} {ex : Bool} {l : List UInt8} (h : RV S ι w v (usl ex l)) : ∃ A c, v = .slice A l.length c ∧ Sl w w.heap.size 1 A l.length c (u8s l) := by
  have hp := upv_map l
  cases h with
  | c _ _ h =>
    cases h with
    | sl _ _ A _ c us _ h1 h2 h3 hx hl hn' h4 h5 =>
      have hus : us = u8s l := by
        rw [hp] at h5 hl
        rw [List.length_map] at hl
        refine List.ext_getElem? fun j => ?_
        rcases Nat.lt_or_ge j us.length with hj | hj
        · have hr := h5 j _ (.v ((u8s l)[j]'(by omega))) (List.getElem?_eq_getElem hj) (by rw [List.getElem?_map, List.getElem?_eq_getElem (by omega)]; rfl)
          rw [List.getElem?_eq_getElem hj, List.getElem?_eq_getElem (by omega)]
          generalize us[j] = u at hr ⊢
          cases hr
          rfl
        · rw [List.getElem?_eq_none hj, List.getElem?_eq_none (by omega)]
      refine ⟨A, c, rfl, h1, h2, h3, by rw [← hus, hl, hn'], fun hne => ?_⟩
      rw [hus] at h4
      have hne' : u8s l ≠ [] := fun e => by
        have := congrArg List.length e
        simp [u8s] at this
        subst this
        exact absurd hne (Nat.lt_irrefl _)
      obtain ⟨b, o, hA, hS, hc⟩ := h4 hne'
      obtain ⟨u0, rest, hu0⟩ := List.exists_cons_of_ne_nil hne'
      exact ⟨b, o, hA, block_lt_of_cell (hc 0 u0 (by rw [hu0]; rfl)), hc⟩
theorem Fn.ofVal {P : Program} {f : FuncId} {args : List AV} {res : AV} (h : ∀ (S : Nat → Prop) (ι : Nat → Nat × Nat × Nat) (w : World) (vs : List Value), vs.length = args.length → (∀ (j : Nat) (v : Value) (x : AV), vs[j]? = some v → args[j]? = some x → RV S ι w v x) →
    Calls P f vs.toArray w fun e w' => ∃ v, e = .returned v ∧ (∀ (S : Nat → Prop) (ι : Nat → Nat × Nat × Nat) (w : World), RV S ι w v res) ∧ Below w.heap.size w w') : Fn P f args [] res [] := by
  intro E vs hD hsep hH hlen hargs
  refine (h E.S E.ι E.w vs hlen hargs).mono ?_
  rintro e w' ⟨v, rfl, hv, hb⟩
  exact ⟨_, E.ι, rfl, hv _ _ _, ⟨fun r cs hr => (by cases hr), fun r q cs ds hr => (by cases hr)⟩, ⟨hb.os, hb.tape, hb.output, hb.size, fun k hk _ => hb.block k hk, fun r cs hr => (by cases hr)⟩⟩
theorem Fn.ofBytesU {f : FuncId} {args : List AV} {L : List UInt8} (h : ∀ (S : Nat → Prop) (ι : Nat → Nat × Nat × Nat) (w : World) (vs : List Value), vs.length = args.length → (∀ (j : Nat) (v : Value) (x : AV), vs[j]? = some v → args[j]? = some x → RV S ι w v x) →
    Calls Tryd.prog f vs.toArray w (RetB w L)) : Fn Tryd.prog f args [] (usl false L) [] := by
  intro E vs hD hsep hH hlen hargs
  refine (h E.S E.ι E.w vs hlen hargs).mono ?_
  rintro e w' ⟨A, n, c, rfl, how, hb⟩
  refine ⟨_, E.ι, rfl, .c _ _ ?_, ⟨fun r cs hr => (by cases hr), fun r q cs ds hr => (by cases hr)⟩, ⟨hb.os, hb.tape, hb.output, hb.size, fun k hk _ => hb.block k hk, fun r cs hr => (by cases hr)⟩⟩
  have hlen' : (u8s L).length = n * 1 := how.1
  rw [u8s_length, Nat.mul_one] at hlen'
  rw [upv_map, hlen']
  rcases how.form with ⟨rfl, rfl, rfl, hx⟩ | ⟨g, cur, rfl, hbg, hlt, hh, hnc, hcm, hcs, htk⟩
  · obtain rfl : L = [] := List.eq_nil_of_length_eq_zero hlen'
    exact .sl false 1 none 0 0 [] [] (Nat.le_refl _) (Nat.zero_le _) (fun _ => rfl) (fun e => by cases e) rfl rfl (fun h => absurd rfl h) fun j u x hu => by cases hu
  · refine .sl false 1 _ n c (u8s L) _ hnc hcm (fun e => by cases e) (fun e => by cases e) (by rw [List.length_map]) (by rw [List.length_map, u8s_length, hlen', Nat.mul_one]) (fun _ => ⟨g, 0, rfl, ⟨.inr (.inl hbg), fun r cs hr => (by cases hr)⟩, fun j u hu => ?_⟩) fun j u x hu hx => ?_
    · unfold World.cell?
      rw [hh]
      rw [← htk, List.getElem?_take] at hu
      split at hu
      · simpa using hu
      · cases hu
    · rw [List.getElem?_map, hu] at hx
      cases hx
      unfold u8s at hu
      rw [List.getElem?_map, Option.map_eq_some_iff] at hu
      obtain ⟨y, hy, rfl⟩ := hu
      exact .v _ rfl
theorem few_fn (ex : Bool) (l : List UInt8) : Fn Tryd.prog 6 [usl ex l] [] (usl false (l.take 4097)) [] := by
  refine Fn.ofBytesU fun S ι w vs hlen hargs => ?_
  match vs, hlen with
  | [v0], _ =>
    obtain ⟨A, c, rfl, h0⟩ := RV.slU (hargs 0 v0 _ rfl rfl)
    exact few_any h0
theorem some_fn (ex : Bool) (l : List UInt8) : Fn Tryd.prog 16 [usl ex l] [] (usl false (l.take 300)) [] := by
  refine Fn.ofBytesU fun S ι w vs hlen hargs => ?_
  match vs, hlen with
  | [v0], _ =>
    obtain ⟨A, c, rfl, h0⟩ := RV.slU (hargs 0 v0 _ rfl rfl)
    exact some_any h0
theorem both_fn (e1 e2 : Bool) (l m : List UInt8) (hs : l.length + m.length ≤ 140737488355328) : Fn Tryd.prog 28 [usl e1 l, usl e2 m] [] (usl false (l ++ m)) [] := by
  refine Fn.ofBytesU fun S ι w vs hlen hargs => ?_
  match vs, hlen with
  | [v0, v1], _ =>
    obtain ⟨A, c, rfl, h0⟩ := RV.slU (hargs 0 v0 _ rfl rfl)
    obtain ⟨B, d, rfl, h1⟩ := RV.slU (hargs 1 v1 _ rfl rfl)
    exact both_any h0 h1 hs
theorem put64_fn (e1 : Bool) (l : List UInt8) (x : Nat) (hx : x < 18446744073709551616) (hs : l.length ≤ 140737488355320) : Fn Tryd.prog 21 [usl e1 l, vi .u64 (x : Int)] [] (usl false (l ++ beS 8 x)) [] := by
  refine Fn.ofBytesU fun S ι w vs hlen hargs => ?_
  match vs, hlen with
  | [v0, v1], _ =>
    obtain ⟨A, c, rfl, h0⟩ := RV.slU (hargs 0 v0 _ rfl rfl)
    obtain ⟨rfl, _⟩ := (hargs 1 v1 _ rfl rfl).v_inv
    exact put64_any h0 hx hs
theorem rvB {b : Bool} (S : Nat → Prop) (ι : Nat → Nat × Nat × Nat) (w : World) : RV S ι w (.bool b) (vb b) := .c _ _ (.v _ rfl)
theorem rvI {k : IntKind} {n : Int} (S : Nat → Prop) (ι : Nat → Nat × Nat × Nat) (w : World) : RV S ι w (.int k n) (vi k n) := .c _ _ (.v _ rfl)
theorem rsame_fn (e1 e2 : Bool) (l m : List UInt8) : Fn Tryd.prog 8 [usl e1 l, usl e2 m] [] (vb (decide (l = m))) [] := by
  refine Fn.ofVal fun S ι w vs hlen hargs => ?_
  match vs, hlen with
  | [v0, v1], _ =>
    obtain ⟨A, c, rfl, h0⟩ := RV.slU (hargs 0 v0 _ rfl rfl)
    obtain ⟨B, d, rfl, h1⟩ := RV.slU (hargs 1 v1 _ rfl rfl)
    refine (same_any h0 h1).mono ?_
    rintro e w' ⟨rfl, k, rfl⟩
    exact ⟨_, rfl, rvB, below_draws _ _⟩
theorem oequal_fn (e1 e2 : Bool) (l m : List UInt8) : Fn Tryd.prog 12 [usl e1 l, usl e2 m] [] (vb (decide (l = m))) [] := by
  refine Fn.ofVal fun S ι w vs hlen hargs => ?_
  match vs, hlen with
  | [v0, v1], _ =>
    obtain ⟨A, c, rfl, h0⟩ := RV.slU (hargs 0 v0 _ rfl rfl)
    obtain ⟨B, d, rfl, h1⟩ := RV.slU (hargs 1 v1 _ rfl rfl)
    refine (oequal_any h0 h1).mono ?_
    rintro e w' ⟨rfl, rfl⟩
    exact ⟨_, rfl, rvB, Below.refl _ _⟩
theorem bequal_fn (e1 e2 : Bool) (l m : List UInt8) : Fn Tryd.prog 19 [usl e1 l, usl e2 m] [] (vb (decide (l = m))) [] := by
  refine Fn.ofVal fun S ι w vs hlen hargs => ?_
  match vs, hlen with
  | [v0, v1], _ =>
    obtain ⟨A, c, rfl, h0⟩ := RV.slU (hargs 0 v0 _ rfl rfl)
    obtain ⟨B, d, rfl, h1⟩ := RV.slU (hargs 1 v1 _ rfl rfl)
    refine (bequal_any h0 h1).mono ?_
    rintro e w' ⟨rfl, rfl⟩
    exact ⟨_, rfl, rvB, Below.refl _ _⟩
theorem noughts_fn (e1 : Bool) (l : List UInt8) : Fn Tryd.prog 7 [usl e1 l] [] (.tup [vi .i64 (zerosS l : Nat), vi .i64 (l.length - zerosS l : Nat)]) [] := by
  refine Fn.ofVal fun S ι w vs hlen hargs => ?_
  match vs, hlen with
  | [v0], _ =>
    obtain ⟨A, c, rfl, h0⟩ := RV.slU (hargs 0 v0 _ rfl rfl)
    refine (noughts_any h0).mono ?_
    rintro e w' ⟨rfl, hb⟩
    exact ⟨_, rfl, fun S ι w => .tup [_, _] _ rfl fun j u x hu hx => by
      match j, hu, hx with
      | 0, hu, hx => cases hu; cases hx; exact rvI S ι w
      | 1, hu, hx => cases hu; cases hx; exact rvI S ι w, hb⟩
theorem u64_fn (e1 : Bool) (l : List UInt8) : Fn Tryd.prog 17 [usl e1 l] [] (vi .u64 (numS l : Nat)) [] := by
  refine Fn.ofVal fun S ι w vs hlen hargs => ?_
  match vs, hlen with
  | [v0], _ =>
    obtain ⟨A, c, rfl, h0⟩ := RV.slU (hargs 0 v0 _ rfl rfl)
    refine (u64_any h0).mono ?_
    rintro e w' ⟨rfl, rfl⟩
    exact ⟨_, rfl, rvI, Below.refl _ _⟩
theorem rnoughts_fn (e1 : Bool) (l : List UInt8) : Fn Tryd.prog 11 [usl e1 l] [] (vi .i64 (zerosS l : Nat)) [] := by
  refine Fn.ofVal fun S ι w vs hlen hargs => ?_
  match vs, hlen with
  | [v0], _ =>
    obtain ⟨A, c, rfl, h0⟩ := RV.slU (hargs 0 v0 _ rfl rfl)
    refine (refnoughts_any h0).mono ?_
    rintro e w' ⟨rfl, rfl⟩
    exact ⟨_, rfl, rvI, Below.refl _ _⟩
theorem wakes_fn : Fn Tryd.prog 5 [] [] (vb true) [] := by
  refine Fn.ofVal fun S ι w vs hlen hargs => ?_
  match vs, hlen with
  | [], _ =>
    refine wakes_any.mono ?_
    rintro e w' ⟨rfl, hb⟩
    exact ⟨_, rfl, rvB, hb⟩
end Go.Proofs.YtagkcmoloceheaaDoor
