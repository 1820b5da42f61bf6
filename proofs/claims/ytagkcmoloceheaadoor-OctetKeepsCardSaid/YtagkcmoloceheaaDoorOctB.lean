/-
  Walks of layer 1 (octet): rows that are made: within, made, Window, Over, padded, Ahead.
-/
import Derived.Test.YtagkcmoloceheaaDoorOctA
namespace Go.Proofs.YtagkcmoloceheaaDoor
open Go.RowKit
set_option linter.unusedVariables false

/-- why a length may not be -/
def withinS (n : Int) : Int := if n < 0 then 2 else if n > 4096 then 3 else 0

set_option maxHeartbeats 400000 in
theorem within_any {n : Int} {b : Nat} {w : World} (hc : w.cell? ⟨b, 0, none⟩ = some (.int .i64 n)) :
    Calls Tryd.prog 43 #[.slice (some ⟨b, 0, none⟩) 1 1] w fun e w' => e = .returned (.int .i64 (withinS n)) ∧ w = w' := by
  go_enter Tryd.func43, Tryd.ntmps43
  go_wp2
  go_loop [4, 7] (fun _ i => ∃ k : Nat, k ≤ 1 ∧ i = .int .i64 k ∧ (k = 1 → 0 ≤ n ∧ n ≤ 4096)) (fun _ i => 1 - (intOf i).toNat)
  case atStart => exact ⟨0, by omega, rfl, by omega⟩
  case round =>
    obtain ⟨k, hk, rfl, hr⟩ := hrel
    by_cases hlt : k = 1
    · subst hlt
      have h0 := hr rfl
      clear hr
      go_wp2
      go_ret
      have e : withinS n = 0 := by unfold withinS; rw [if_neg (by omega), if_neg (by omega)]
      exact ⟨by rw [e]; rfl, rfl⟩
    · obtain rfl : k = 0 := by omega
      clear hr hlt
      go_wp2
      · go_ret
        have e : withinS n = 2 := by unfold withinS; rw [if_pos (by assumption)]
        exact ⟨by rw [e]; rfl, rfl⟩
      · go_ret
        have e : withinS n = 3 := by unfold withinS; rw [if_neg (by omega), if_pos (by omega)]
        exact ⟨by rw [e]; rfl, rfl⟩
      · go_round
        case rel => exact ⟨1, by omega, by go_num, by omega⟩
        case measure => simp [intOf]

/-- a row and an error come back -/
def RetBE (w : World) (r : List UInt8 × Int) : Ending → World → Prop := fun e w' =>
  ∃ A n c, e = .returned (.tuple #[.slice A n c, .int .i64 r.2]) ∧ Ow w' w.heap.size 5 1 A n c (u8s r.1) ∧ Below w.heap.size w w'

/-- made: the row that is handed to who fills it -/
def Filled (w : World) (L : List UInt8) (g n : Nat) (w1 : World) : Ending → World → Prop := fun e w' =>
  e = .returned (.tuple #[]) ∧ Ow w' w.heap.size 5 1 (some ⟨g, 0, none⟩) n n (u8s L) ∧ Below w.heap.size w1 w'
def madeS (N : Int) (L : List UInt8) : List UInt8 × Int := if withinS N = 0 then (L, 0) else ([], withinS N)

set_option maxHeartbeats 400000 in
theorem made_any {N : Int} {f : Nat} {cap : Array Value} {L : List UInt8} {w : World}
    (he : ∀ args w, (callFunc f args).run Tryd.prog w = .ok (.enter f args) w)
    (hf : ∀ (n g : Nat) (w1 : World), N = (n : Int) → n ≤ 4096 → w.heap.size ≤ g → Below w.heap.size w w1 → Ow w1 w.heap.size 5 1 (some ⟨g, 0, none⟩) n n (u8s (List.replicate n 0)) →
      Calls Tryd.prog f (#[.slice (some ⟨g, 0, none⟩) n n] ++ cap) w1 (Filled w L g n w1)) :
    Calls Tryd.prog 32 #[.int .i64 N, .func (.func f) #[] cap] w (RetBE w (madeS N L)) := by
  have HF := hide hf; clear hf
  by_cases hN : withinS N = 0
  · obtain ⟨n, rfl, hn⟩ : ∃ n : Nat, N = (n : Int) ∧ n ≤ 4096 := by
      unfold withinS at hN
      refine ⟨N.toNat, ?_, ?_⟩ <;> (split at hN; cases hN; split at hN; cases hN; omega)
    have e : madeS n L = (L, 0) := by unfold madeS; rw [if_pos hN]
    rw [e]; clear e
    have HN := hide hN; clear hN
    go_enter Tryd.func32, Tryd.ntmps32
    go_wp2_with (first
      | (go_at_call 43; refine (within_any (n := n) (by simp)).mono ?_; rintro e w1 ⟨rfl, rfl⟩; rw [HN.out])
      | (at_make; refine wpList_mk rfl _ _ _ rfl 5 _ 1 Tryd.underlying25 u8info rfl _ _ _ _ n rfl rfl rfl rfl (by omega) (by omega) ?_; intro w2 how hbl hsz))
    have hbl0 : Below w.heap.size w w2 := (below_alloc w _).trans (hbl.mono (by simp))
    have how0 := how.mono (base' := w.heap.size) (by simp)
    simp only [World.size_alloc] at how0
    have hfc := HF.out n (w.heap.size + 1) w2 rfl hn (by omega) hbl0 (by simpa [u8s] using how0)
    refine hfc.mono ?_
    rintro e w3 ⟨rfl, hw3, hb3⟩
    clear hfc how0 how hsz
    go_wp2
    go_ret2
    exact ⟨_, _, _, rfl, hw3, hbl0.trans hb3⟩
  · have e : madeS N L = ([], withinS N) := by unfold madeS; rw [if_neg hN]
    rw [e]; clear e
    have h1 : (withinS N != 0) = true := by simp [hN]
    clear hN HF he
    go_enter Tryd.func32, Tryd.ntmps32
    go_wp2_with (go_at_call 43; refine (within_any (n := N) (by simp)).mono ?_; rintro e w1 ⟨rfl, rfl⟩)
    go_ret2
    exact ⟨_, _, _, rfl, Ow.nil, below_alloc _ _⟩

/-- the window of a row -/
def winS (b : List UInt8) (f n : Nat) : List UInt8 := ((b.drop f).take n) ++ List.replicate (n - (b.length - f)) 0

set_option maxHeartbeats 400000 in
theorem window1_any {A : Option Addr} {n c N f m g pf pb base : Nat} {b : List UInt8} {w : World} (hb : Sl w N 1 A n c (u8s b)) (hf : f < 18446744073709551616)
    (hpf : w.cell? ⟨pf, 0, none⟩ = some (.int .u64 (f : Int))) (hpb : w.cell? ⟨pb, 0, none⟩ = some (.slice A n c)) (hbase : base ≤ w.heap.size) (hm : m ≤ 4096)
    (how : Ow w base 5 1 (some ⟨g, 0, none⟩) m m (u8s (List.replicate m 0))) (w0 : World) (hw0 : base = w0.heap.size) :
    Calls Tryd.prog 33 #[.slice (some ⟨g, 0, none⟩) m m, .pointer (some ⟨pf, 0, none⟩), .pointer (some ⟨pb, 0, none⟩)] w (Filled w0 (winS b f m) g m w) := by
  have hn := hb.n_le; have hn' := hb.c_le'
  have hl := hb.len8
  have HB := hide hb; have HO := hide how; have HL := hide hl; have H0 := hide hw0; clear hb how hl hw0
  by_cases hlt : f < n
  · have h := HB.out.from_ (k := f) (by omega)
    rw [if_neg (by omega), Nat.mul_one, u8s_drop] at h
    have HS := hide h; clear h
    have h : (some ⟨g, 0, none⟩ : Option Addr) = if m = 0 then some ⟨g, 0, none⟩ else Option.map (fun a : Addr => a.add (0 * 1)) (some ⟨g, 0, none⟩) := by by_cases e : m = 0 <;> simp [e, add_zero']
    have HD := hide h; clear h
    go_enter Tryd.func33, Tryd.ntmps33
    go_wp2_with (show wpList _ _ _ (⟨some 13, _, _, _, _, _⟩ :: _) _ _; refine wpList_cp (.tmp 9) (.tmp 12) _ _ rfl 5 Tryd.underlying25 u8size rfl base 5 _ m m 0 _ HO.out (by omega) hbase _ _ rfl HD.out N _ _ _ (u8s (b.drop f)) rfl HS.out (u8s_one _) ?_; intro w2 ho2 hb2 hs2)
    go_end0
    refine ⟨rfl, ?_, by rw [← H0.out]; exact hb2⟩
    rw [← H0.out]
    have e : splice (u8s (List.replicate m 0)) 0 (List.take m (u8s (List.drop f b))) = u8s (winS b f m) := by
      rw [u8s_take]
      unfold splice winS
      rw [u8s_append]
      simp only [List.take_zero, List.nil_append, u8s_drop, List.drop_replicate, u8s_length, Nat.zero_add, List.length_take, List.length_drop]
      congr 3
      omega
    rw [Nat.sub_zero, e] at ho2
    exact ho2
  · have e : winS b f m = List.replicate m 0 := by
      unfold winS
      have := HL.out
      rw [List.drop_of_length_le (by omega), show b.length - f = 0 by omega]
      simp
    rw [e]; clear e
    go_enter Tryd.func33, Tryd.ntmps33
    go_wp2
    go_end0
    exact ⟨rfl, by rw [← H0.out]; exact HO.out, Below.refl _ _⟩

def winE (b : List UInt8) (f : Nat) (N : Int) : List UInt8 × Int := madeS N (winS b f N.toNat)
set_option maxHeartbeats 400000 in
theorem window_any {A : Option Addr} {n c B f : Nat} {N : Int} {b : List UInt8} {w : World} (hb : Sl w B 1 A n c (u8s b)) (hf : f < 18446744073709551616) :
    Calls Tryd.prog 22 #[.slice A n c, .int .u64 (f : Int), .int .i64 N] w (RetBE w (winE b f N)) := by
  have HB := hide hb; clear hb
  go_enter Tryd.func22, Tryd.ntmps22
  go_wp2_with (go_at_call 32; refine (made_any (L := winS b f N.toNat) (run_enter Tryd.func33 (by kernel_rfl) (by kernel_rfl)) ?hf).mono ?_)
  case hf =>
    intro m g w1 hN hm hg hb1 how
    rw [hN, Int.toNat_natCast]
    simp only [World.size_alloc] at hg hb1 how ⊢
    have hp : w1.cell? ⟨w.heap.size, 0, none⟩ = some (.slice A n c) := by rw [hb1.cell (p := ⟨w.heap.size, 0, none⟩) (by simp only []; omega)]; simp
    have hp2 : w1.cell? ⟨w.heap.size + 1, 0, none⟩ = some (.int .u64 f) := by rw [hb1.cell (p := ⟨w.heap.size + 1, 0, none⟩) (by simp only []; omega)]; simp
    exact window1_any (((HB.out.alloc _).alloc _).below (hb1.mono (by simp only [World.size_alloc]; omega))) hf hp2 hp (by have := hb1.size; simpa using this) hm how _ (by simp)
  rintro e w2 ⟨A1, n1, c1, rfl, ho, hb2⟩
  go_wp2
  go_ret2
  exact ⟨_, _, _, rfl, ho.mono (by simp only [World.size_alloc]; omega), ((below_alloc w _).trans ((below_alloc _ _).mono (by simp only [World.size_alloc]; omega))).trans (hb2.mono (by simp only [World.size_alloc]; omega))⟩
end Go.Proofs.YtagkcmoloceheaaDoor
