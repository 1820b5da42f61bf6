/-
  Numbers laid as bytes, rows of bytes compared: walked, and told as contracts of the reckoning.
-/
import Derived.Test.YtgdjkkapgghdbaaDoorBytes
import Derived.Test.YtgdjkkapgghdbaaDoorOctP
import Derived.Test.YtgdjkkapgghdbaaDoorDc
namespace Go.Proofs.YtgdjkkapgghdbaaDoor
open Go.RowKit
attribute [-go_sem] IntKind.bits
set_option linter.unusedVariables false
set_option linter.unusedSimpArgs false
theorem u8info : (Tryd.prog.info? 5).map (fun i => (i.zero, i.size, i.bytes)) = some (some (.int .u8 0), 1, 1) := by kernel_rfl
theorem u8size : (Tryd.prog.info? 5).map (·.size) = some 1 := by kernel_rfl
def RetB (w : World) (L : List UInt8) : Ending → World → Prop := fun e w' =>
  ∃ A n c, e = .returned (.slice A n c) ∧ Ow w' w.heap.size 5 1 A n c (u8s L) ∧ Below w.heap.size w w'

set_option maxRecDepth 20000 in
set_option maxHeartbeats 400000 in
theorem bequal_any {A B : Option Addr} {n m c d N M : Nat} {xs ys : List UInt8} {w : World} (hx : Sl w N 1 A n c (u8s xs)) (hy : Sl w M 1 B m d (u8s ys)) :
    Calls Tryd.prog 12 #[.slice A n c, .slice B m d] w fun e w' => e = .returned (.bool (decide (xs = ys))) ∧ w = w' := by
  have h1 := conv8 Tryd.underlying26 Tryd.underlying5 Tryd.underlying9 hx
  have h2 := conv8 Tryd.underlying26 Tryd.underlying5 Tryd.underlying9 hy
  have h3 := str_eq xs ys
  have H3 := hide h3
  clear hx hy h3
  go_enter Tryd.func12, Tryd.ntmps12
  go_wp2
  go_ret
  exact ⟨by rw [← Bool.beq_eq_decide_eq] <;> rfl, rfl⟩

theorem byte_wrap (x : Nat) : IntKind.u8.wrap (x : Int) = ((UInt8.ofNat (x % 256)).toNat : Int) := by
  rw [IntKind.wrap_u8]; simp
theorem byte_mod (x : Nat) : (x : Int) % 256 = ((UInt8.ofNat (x % 256)).toNat : Int) := by
  rw [← byte_wrap, IntKind.wrap_u8]
theorem div256 (x j : Nat) : x / 256 ^ j / 256 = x / 256 ^ (j + 1) := by rw [Nat.div_div_eq_div_mul, Nat.pow_succ]

set_option maxRecDepth 20000 in
set_option maxHeartbeats 1000000 in
theorem put64_any {A : Option Addr} {n c N x : Nat} {b : List UInt8} {w : World} (hb : Sl w N 1 A n c (u8s b)) (hx : x < 18446744073709551616) (hn : n ≤ 140737488355320) :
    Calls Tryd.prog 37 #[.slice A n c, .int .u64 (x : Int)] w (RetB w (b ++ beS 8 x)) := by
  have hnc := hb.n_le; have hn' := hb.c_le'
  have hl := hb.len8
  have HL := hide hl
  have HB := hide hb; clear hb hl
  have h : (some ⟨w.heap.size, 0, none⟩ : Option Addr) = if n + 8 = 0 then some ⟨w.heap.size, 0, none⟩ else Option.map (fun a : Addr => a.add (0 * 1)) (some ⟨w.heap.size, 0, none⟩) := by simp [add_zero']
  have HD := hide h; clear h
  go_enter Tryd.func37, Tryd.ntmps37
  go_wp2
  go_step3
  go_wp2_with (first
    | (at_make; refine wpList_mk rfl _ _ _ rfl 5 _ 1 Tryd.underlying26 u8info rfl _ _ _ _ (n + 8) rfl rfl (by omega) (by omega) (by omega) (by omega) ?_; intro w2 how hbl hsz)
    | (show wpList _ _ _ (⟨some 13, _, _, _, _, _⟩ :: _) _ _; refine wpList_cp (.tmp 11) (.tmp 12) _ _ rfl 5 Tryd.underlying26 u8size rfl w.heap.size 5 _ (n + 8) (n + 8) 0 _ how (by omega) (by omega) _ _ rfl HD.out N _ _ _ (u8s b) rfl (HB.out.below hbl) (u8s_one _) ?_; intro w3 ho3 hb3 hs3))
  have e0 : splice (List.replicate (n + 8) (Value.int IntKind.u8 0)) 0 (List.take (n + 8 - 0) (u8s b)) = u8s (b ++ (List.replicate (8 - 0) 0 ++ beS 0 x)) := by
    have hl := HL.out
    rw [Nat.sub_zero, List.take_of_length_le (by rw [u8s_length]; omega), u8s_append]
    unfold splice
    rw [List.take_zero, List.nil_append, List.drop_replicate, u8s_length, show n + 8 - (0 + b.length) = 8 by omega]
    rfl
  rw [e0] at ho3
  have HO3 := hide ho3
  have HB3 := hide (hbl.trans hb3)
  clear e0 ho3 how hbl hb3 hsz hs3
  go_step3
  go_wp2
  go_loopw [1, 6] (fun u v wr => ∃ j y m : Nat, j ≤ 8 ∧ Hid (y = x / 256 ^ j) ∧ y < 18446744073709551616 ∧ m + j = n + 8 ∧ u = .int .u64 y ∧ v = .int .i64 m ∧
      Ow wr w.heap.size 5 1 (some ⟨w.heap.size, 0, none⟩) (n + 8) (n + 8) (u8s (b ++ (List.replicate (8 - j) 0 ++ beS j x))) ∧ Below w.heap.size w wr) (fun _ v _ => (intOf v).toNat)
  case atStart => exact ⟨0, x, n + 8, by omega, by rw [Nat.pow_zero, Nat.div_one]; rfl, hx, by omega, rfl, by go_num, HO3.out, HB3.out⟩
  case round =>
    obtain ⟨j, y, m, hj, HY, hy, hm, rfl, rfl, how, hbw⟩ := hrel
    have HW := hide how; have HBW := hide hbw
    clear how hbw HO3 HB3
    by_cases h0 : y = 0
    · subst h0
      have e : b ++ (List.replicate (8 - j) 0 ++ beS j x) = b ++ beS 8 x := by
        have h := beS_zero j x HY.out.symm (8 - j)
        rw [Nat.sub_add_cancel hj] at h
        rw [h]
      have HE := hide e; clear e
      go_wp2
      try rw [Exit.noGoto_ret]
      go_ret
      exact ⟨_, _, _, rfl, by rw [← HE.out]; exact HW.out, HBW.out⟩
    · have h1 : ((y : Int) == 0) = false := by simp; exact h0
      by_cases h8 : j = 8
      · have e : b ++ (List.replicate (8 - j) 0 ++ beS j x) = b ++ beS 8 x := by subst h8; simp
        have HE := hide e; clear e
        obtain rfl : m = n := by omega
        clear h0 h8
        go_wp2
        try rw [Exit.noGoto_ret]
        go_ret
        exact ⟨_, _, _, rfl, by rw [← HE.out]; exact HW.out, HBW.out⟩
      · obtain ⟨p, rfl⟩ : ∃ p, m = p + 1 := ⟨m - 1, by omega⟩
        have hlt : n ≤ p := by omega
        obtain ⟨g, z, hA, _, hgs, _, hcell, hfz⟩ := HW.out.at8 (k := p) (by omega)
        simp only [Option.some.injEq, Addr.mk.injEq, and_true] at hA
        subst hA
        have hst := HW.out.stored (k := p) (.int .u8 (((UInt8.ofNat (x / 256 ^ j % 256)).toNat : Nat) : Int))
        rw [u8s_set] at hst
        have hz := set_zeros b (8 - j) j x (by omega)
        rw [show b.length + (8 - j - 1) = p by have := HL.out; omega, show 8 - j - 1 = 8 - (j + 1) by omega] at hz
        rw [hz] at hst
        have hbyte := byte_mod y
        have e : UInt8.ofNat (y % 256) = UInt8.ofNat (x / 256 ^ j % 256) := by rw [HY.out]
        rw [e] at hbyte
        have HS := hide hst; have HBY := hide hbyte
        clear hst hz hbyte e h0
        go_wp2
        go_roundw
        case rel =>
          refine ⟨j + 1, y / 256, p, by omega, by rw [HY.out, div256]; exact rfl, by omega, by omega, by go_num, rfl, ?_, HBW.out.setCell (Nat.le_refl _) _⟩
          rw [HBY.out]
          exact HS.out
        case measure => simp [intOf]

theorem bpv_map (l : List Nat) : l.flatMap bpv = l.map fun b : Nat => PV.v (.int .u8 (b : Int)) := by
  induction l with
  | nil => rfl
  | cons a l ih => rw [List.flatMap_cons, ih]; rfl
theorem RV.sl8 {S : Nat → Prop} {ι : Nat → Nat × Nat × Nat} {w : World} {v : Value} {ex : Bool} {l : List Nat} (hb : ∀ b ∈ l, b < 256) (h : RV S ι w v (bsl ex l)) : ∃ A c, v = .slice A l.length c ∧ Sl w w.heap.size 1 A l.length c (u8s (l.map UInt8.ofNat)) := by
  have hp := bpv_map l
  cases h with
  | c _ _ h =>
    cases h with
    | sl _ _ A _ c us _ h1 h2 h3 hx hl hn' h4 h5 =>
      have hus : us = u8s (l.map UInt8.ofNat) := by
        refine List.ext_getElem? fun j => ?_
        unfold u8s
        rw [List.map_map, List.getElem?_map]
        rcases Nat.lt_or_ge j l.length with hj | hj
        · have hju : j < us.length := by rw [hl, hp, List.length_map]; exact hj
          have hr := h5 j _ (.v (.int .u8 ((l[j] : Nat) : Int))) (List.getElem?_eq_getElem hju) (by rw [hp, List.getElem?_map, List.getElem?_eq_getElem hj]; rfl)
          rw [List.getElem?_eq_getElem hju, List.getElem?_eq_getElem hj]
          generalize us[j] = u at hr ⊢
          cases hr
          have := hb l[j] (List.getElem_mem hj)
          simp only [Option.map_some, Function.comp, Option.some.injEq]
          rw [UInt8.toNat_ofNat_of_lt' (by exact this)]
        · rw [List.getElem?_eq_none (by rw [hl, hp, List.length_map]; exact hj), List.getElem?_eq_none hj]
          rfl
      refine ⟨A, c, rfl, h1, h2, h3, by rw [← hus, hl, hn'], fun hne => ?_⟩
      rw [hus] at h4
      have hne' : u8s (l.map UInt8.ofNat) ≠ [] := fun e => by
        have := congrArg List.length e
        simp [u8s] at this
        subst this
        exact absurd hne (Nat.lt_irrefl _)
      obtain ⟨b, o, hA, hS, hc⟩ := h4 hne'
      obtain ⟨u0, rest, hu0⟩ := List.exists_cons_of_ne_nil hne'
      exact ⟨b, o, hA, block_lt_of_cell (hc 0 u0 (by rw [hu0]; rfl)), hc⟩
theorem Fn.ofBool {P : Program} {f : FuncId} {args : List AV} {b : Bool} (h : ∀ (S : Nat → Prop) (ι : Nat → Nat × Nat × Nat) (w : World) (vs : List Value), vs.length = args.length → (∀ (j : Nat) (v : Value) (x : AV), vs[j]? = some v → args[j]? = some x → RV S ι w v x) →
    Calls P f vs.toArray w fun e w' => e = .returned (.bool b) ∧ w = w') : Fn P f args [] (vb b) [] := by
  intro E vs hD hsep hH hlen hargs
  refine (h E.S E.ι E.w vs hlen hargs).mono ?_
  rintro e w' ⟨rfl, rfl⟩
  exact ⟨_, E.ι, rfl, .c _ _ (.v _ rfl), ⟨fun r cs hr => (by cases hr), fun r q cs ds hr => (by cases hr)⟩, ⟨rfl, rfl, rfl, Nat.le_refl _, fun _ _ _ => rfl, fun r cs hr => (by cases hr)⟩⟩
theorem Fn.ofBytes {f : FuncId} {args : List AV} {L : List UInt8} (h : ∀ (S : Nat → Prop) (ι : Nat → Nat × Nat × Nat) (w : World) (vs : List Value), vs.length = args.length → (∀ (j : Nat) (v : Value) (x : AV), vs[j]? = some v → args[j]? = some x → RV S ι w v x) →
    Calls Tryd.prog f vs.toArray w (RetB w L)) : Fn Tryd.prog f args [] (bsl false (L.map (·.toNat))) [] := by
  intro E vs hD hsep hH hlen hargs
  refine (h E.S E.ι E.w vs hlen hargs).mono ?_
  rintro e w' ⟨A, n, c, rfl, how, hb⟩
  refine ⟨_, E.ι, rfl, .c _ _ ?_, ⟨fun r cs hr => (by cases hr), fun r q cs ds hr => (by cases hr)⟩, ⟨hb.os, hb.tape, hb.output, hb.size, fun k hk _ => hb.block k hk, fun r cs hr => (by cases hr)⟩⟩
  have hlen' : (u8s L).length = n * 1 := how.1
  rw [u8s_length, Nat.mul_one] at hlen'
  have hml : (L.map (·.toNat)).length = n := by rw [List.length_map]; exact hlen'
  rw [bpv_map, hml, List.map_map]
  rcases how.form with ⟨rfl, rfl, rfl, hx⟩ | ⟨g, cur, rfl, hbg, hlt, hh, hnc, hcm, hcs, htk⟩
  · obtain rfl : L = [] := List.eq_nil_of_length_eq_zero hlen'
    exact .sl false 1 none 0 0 [] [] (Nat.le_refl _) (Nat.zero_le _) (fun _ => rfl) (fun e => by cases e) rfl rfl (fun h => absurd rfl h) fun j u x hu => by cases hu
  · refine .sl false 1 _ n c (u8s L) _ hnc hcm (fun e => by cases e) (fun e => by cases e) (by rw [u8s_length, List.length_map]) (by rw [List.length_map, hlen', Nat.mul_one]) (fun _ => ⟨g, 0, rfl, ⟨.inr (.inl hbg), fun r cs hr => (by cases hr)⟩, fun j u hu => ?_⟩) fun j u x hu hx => ?_
    · unfold World.cell?
      rw [hh]
      rw [← htk, List.getElem?_take] at hu
      split at hu
      · simpa using hu
      · cases hu
    · unfold u8s at hu
      rw [List.getElem?_map, Option.map_eq_some_iff] at hu hx
      obtain ⟨y, hy, rfl⟩ := hu
      obtain ⟨z, hz, rfl⟩ := hx
      rw [hy] at hz
      cases hz
      exact .v _ rfl
theorem bequal_fn (e1 e2 : Bool) (a b : List Nat) (ha : ∀ x ∈ a, x < 256) (hb : ∀ x ∈ b, x < 256) : Fn Tryd.prog 12 [bsl e1 a, bsl e2 b] [] (vb (decide (a = b))) [] := by
  refine Fn.ofBool fun S ι w vs hlen hargs => ?_
  match vs, hlen with
  | [v0, v1], _ =>
    obtain ⟨A, c, rfl, h0⟩ := RV.sl8 ha (hargs 0 v0 _ rfl rfl)
    obtain ⟨B, d, rfl, h1⟩ := RV.sl8 hb (hargs 1 v1 _ rfl rfl)
    refine (bequal_any h0 h1).mono ?_
    rintro e w' ⟨rfl, rfl⟩
    refine ⟨?_, rfl⟩
    have key : (a.map UInt8.ofNat = b.map UInt8.ofNat) ↔ a = b := by
      constructor
      · intro h
        have h2 := congrArg (List.map UInt8.toNat) h
        rw [List.map_map, List.map_map] at h2
        have e : ∀ l : List Nat, (∀ x ∈ l, x < 256) → l.map (UInt8.toNat ∘ UInt8.ofNat) = l := fun l hl => by
          conv => rhs; rw [← List.map_id l]
          exact List.map_congr_left fun x hx => UInt8.toNat_ofNat_of_lt' (hl x hx)
        rwa [e a ha, e b hb] at h2
      · intro h; rw [h]
    rw [decide_eq_decide.2 key]
theorem put64_fn (x : Nat) (hx : x < 18446744073709551616) : Fn Tryd.prog 37 [.c (.sl true 1 0 []), vi .u64 (x : Int)] [] (bsl false ((beS 8 x).map (·.toNat))) [] := by
  refine Fn.ofBytes fun S ι w vs hlen hargs => ?_
  match vs, hlen with
  | [v0, v1], _ =>
    obtain ⟨A, c, rfl, h0⟩ := RV.sl8 (l := []) (ex := true) (fun x hx => by cases hx) (hargs 0 v0 _ rfl rfl)
    have h1 := hargs 1 v1 _ rfl rfl
    obtain ⟨rfl, _⟩ := h1.v_inv
    exact put64_any h0 hx (by simp)
end Go.Proofs.YtgdjkkapgghdbaaDoor

