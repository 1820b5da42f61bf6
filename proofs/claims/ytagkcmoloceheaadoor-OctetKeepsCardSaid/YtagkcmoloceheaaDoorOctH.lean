/-
  Walks of layer 1 (octet): padded, Ahead.
-/
import Derived.Test.YtagkcmoloceheaaDoorOctG
import Derived.StillTailTactics
import Derived.Laws.EntriesVeiled
namespace Go.Proofs.YtagkcmoloceheaaDoor
open Go.RowKit
set_option linter.unusedVariables false

/-- what the place's function answers, in whatever world behind w -/
def Tells (w : World) (f : Nat) (cap : Array Value) (k : Nat) : Prop :=
  ∀ w1, Below w.heap.size w w1 → Calls Tryd.prog f cap w1 fun e w' => e = .returned (.int .i64 (k : Int)) ∧ w' = w1

set_option maxRecDepth 20000 in
set_option maxHeartbeats 400000 in
theorem padded1_any {A : Option Addr} {n c N m g pf pb base f k : Nat} {cap : Array Value} {b : List UInt8} {w w0 wc : World} (hb : Sl w N 1 A n c (u8s b)) (hN : N ≤ base)
    (he : ∀ args w, (callFunc f args).run Tryd.prog w = .ok (.enter f args) w) (hf : Tells wc f cap k) (hwc : Below wc.heap.size wc w) (hk : k + n ≤ m)
    (hpf : w.cell? ⟨pf, 0, none⟩ = some (.func (.func f) #[] cap)) (hpb : w.cell? ⟨pb, 0, none⟩ = some (.slice A n c)) (hbase : base ≤ w.heap.size) (hm : m ≤ 4096)
    (how : Ow w base 5 1 (some ⟨g, 0, none⟩) m m (u8s (List.replicate m 0))) (hw0 : base = w0.heap.size) :
    Calls Tryd.prog 42 #[.slice (some ⟨g, 0, none⟩) m m, .pointer (some ⟨pf, 0, none⟩), .pointer (some ⟨pb, 0, none⟩)] w (Filled w0 (splice (List.replicate m 0) k b) g m w) := by
  have hn := hb.n_le; have hn' := hb.c_le'
  have hl := hb.len8
  have HL := hide hl
  have HB := hide hb; have HO := hide how; have H0 := hide hw0; have HF := hide hf; have HC := hide hwc; clear hb how hw0 hf hwc hl
  have hkm : k ≤ m := by omega
  go_enter Tryd.func42, Tryd.ntmps42
  go_wp2
  go_still_tail 5, (by kernel_rfl)
  still_call (HF.out w.drew HC.out.drew)
  repeat still_step
  refine wpStill_nil ?_
  change wpList _ _ _ _ _ w.drew
  refine wpList_cp (.tmp 7) (.tmp 8) _ _ rfl 5 Tryd.underlying25 u8size rfl base 5 _ m m k _ (HO.out : Ow w.drew _ _ _ _ _ _ _) hkm hbase _ _ rfl ?dp N _ _ _ (u8s b) rfl (HB.out : Sl w.drew _ _ _ _ _ _) (u8s_one _) ?_
  case dp => simp [add_none]
  intro w4 ho4 hb4 hs4
  apply wpList_nil
  go_end0
  refine ⟨rfl, ?_, by rw [← H0.out]; exact (Below.refl _ _).drew.trans hb4⟩
  rw [← H0.out]
  have e : splice (u8s (List.replicate m 0)) k (List.take (m - k) (u8s b)) = u8s (splice (List.replicate m 0) k b) := by
    rw [u8s_splice, List.take_of_length_le (by rw [u8s_length]; have := HL.out; omega)]
  rw [e] at ho4
  exact ho4

def padE (b : List UInt8) (N : Int) (k : Nat) : List UInt8 × Int := if N < b.length then ([], 2) else madeS N (splice (List.replicate N.toNat 0) k b)

def padW (w : World) (A : Option Addr) (n c f : Nat) (cap : Array Value) : World := (w.alloc (.cells #[.slice A n c] 25)).alloc (.cells #[.func (.func f) #[] cap] 48)
theorem padW_size (w : World) (A : Option Addr) (n c f : Nat) (cap : Array Value) : (padW w A n c f cap).heap.size = w.heap.size + 2 := by unfold padW; simp
theorem padW_below (w : World) (A : Option Addr) (n c f : Nat) (cap : Array Value) : Below w.heap.size w (padW w A n c f cap) :=
  (below_alloc w _).trans ((below_alloc _ _).mono (by simp only [World.size_alloc]; omega))

set_option maxRecDepth 20000 in
set_option maxHeartbeats 400000 in
theorem padded_any {A : Option Addr} {n c B f k : Nat} {N : Int} {cap : Array Value} {b : List UInt8} {w : World} (hb : Sl w B 1 A n c (u8s b))
    (he : ∀ args w, (callFunc f args).run Tryd.prog w = .ok (.enter f args) w) (hf : (n : Int) ≤ N → Tells w f cap k) (hk : (n : Int) ≤ N → (k + n : Nat) ≤ N) :
    Calls Tryd.prog 29 #[.slice A n c, .int .i64 N, .func (.func f) #[] cap] w (RetBE w (padE b N k)) := by
  have hn := hb.n_le; have hn' := hb.c_le'
  have hl := hb.len8
  have hsz := padW_size w A n c f cap
  have hbl := padW_below w A n c f cap
  by_cases hN : N < n
  · have e : padE b N k = ([], 2) := by unfold padE; rw [hl, if_pos hN]
    rw [e]; clear hb hf hk he e hl hsz
    have HBL := hide hbl; clear hbl
    go_enter Tryd.func29, Tryd.ntmps29
    go_wp2
    go_ret2
    exact ⟨_, _, _, rfl, Ow.nil, HBL.out⟩
  · have e : padE b N k = madeS N (splice (List.replicate N.toNat 0) k b) := by unfold padE; rw [hl, if_neg hN]
    rw [e]
    have hmd : Calls Tryd.prog 32 #[.int .i64 N, .func (.func 42) #[] #[.pointer (some ⟨w.heap.size + 1, 0, none⟩), .pointer (some ⟨w.heap.size, 0, none⟩)]] (padW w A n c f cap) (RetBE (padW w A n c f cap) (madeS N (splice (List.replicate N.toNat 0) k b))) := by
      refine made_any (L := splice (List.replicate N.toNat 0) k b) (run_enter Tryd.func42 (by kernel_rfl) (by kernel_rfl)) ?_
      intro m g w1 hNm hm hg hb1 how
      rw [hNm, Int.toNat_natCast]
      have hk' := hk (by omega)
      have e0 : w1.cell? ⟨w.heap.size, 0, none⟩ = some (.slice A n c) := by
        rw [hb1.cell (p := ⟨w.heap.size, 0, none⟩) (by rw [hsz]; simp)]
        unfold padW
        rw [World.cell?_alloc_lt _ _ _ (by simp)]
        exact World.cell?_alloc_at _ _ _ _ rfl
      have e1 : w1.cell? ⟨w.heap.size + 1, 0, none⟩ = some (.func (.func f) #[] cap) := by
        rw [hb1.cell (p := ⟨w.heap.size + 1, 0, none⟩) (by rw [hsz]; simp)]
        unfold padW
        exact World.cell?_alloc_at _ _ _ _ (by simp)
      exact padded1_any (((hb.tight (by omega)).below hbl).below hb1) (by omega) he (hf (by omega)) (hbl.trans (hb1.mono (by omega))) (by omega) e1 e0 hb1.size hm how rfl
    have HM := hide hmd; have HBL := hide hbl
    clear hb hf hk he e hl hmd hbl
    go_enter Tryd.func29, Tryd.ntmps29
    go_wp2_with (go_at_call 32; refine HM.out.mono ?_; rintro e w2 ⟨A1, n1, c1, rfl, ho, hb2⟩)
    go_ret2
    exact ⟨_, _, _, rfl, ho.mono (by rw [hsz]; omega), HBL.out.trans (hb2.mono (by rw [hsz]; omega))⟩

def aheadE (b : List UInt8) (N : Int) : List UInt8 × Int := padE b N (N - b.length).toNat

set_option maxRecDepth 20000 in
set_option maxHeartbeats 400000 in
theorem ahead1_any {A : Option Addr} {n c p q : Nat} {N : Int} {w : World} (hN : (n : Int) ≤ N) (hN2 : N ≤ 9223372036854775807) (h1 : w.cell? ⟨p, 0, none⟩ = some (.int .i64 N)) (h2 : w.cell? ⟨q, 0, none⟩ = some (.slice A n c)) :
    Calls Tryd.prog 30 #[.pointer (some ⟨p, 0, none⟩), .pointer (some ⟨q, 0, none⟩)] w fun e w' => e = .returned (.int .i64 ((N - n).toNat : Nat)) ∧ w' = w := by
  have e : (((N - n).toNat : Nat) : Int) = N - n := by omega
  have E := hide e; clear e
  go_enter Tryd.func30, Tryd.ntmps30
  go_wp2
  go_ret
  exact ⟨ret_i E.out.symm, rfl⟩

set_option maxRecDepth 20000 in
set_option maxHeartbeats 400000 in
theorem ahead_any {A : Option Addr} {n c B : Nat} {N : Int} {b : List UInt8} {w : World} (hb : Sl w B 1 A n c (u8s b)) (hN : N ≤ 9223372036854775807) :
    Calls Tryd.prog 13 #[.slice A n c, .int .i64 N] w (RetBE w (aheadE b N)) := by
  have hl := hb.len8
  have HB := hide hb; have HL := hide hl; clear hb hl
  go_enter Tryd.func13, Tryd.ntmps13
  go_wp2_with fail
  refine Calls.mono (R := RetBE _ (aheadE b N)) (padded_any (k := (N - b.length).toNat) ((HB.out.alloc _).alloc _) (run_enter Tryd.func30 (by kernel_rfl) (by kernel_rfl)) ?hf (by rw [HL.out]; omega)) ?_
  case hf =>
    intro hle w1 hb1
    rw [HL.out]
    simp only [World.size_alloc] at hb1
    have e0 : w1.cell? ⟨w.heap.size, 0, none⟩ = some (.slice A n c) := by rw [hb1.cell (p := ⟨w.heap.size, 0, none⟩) (by simp only []; omega)]; simp
    have e1 : w1.cell? ⟨w.heap.size + 1, 0, none⟩ = some (.int .i64 N) := by rw [hb1.cell (p := ⟨w.heap.size + 1, 0, none⟩) (by simp only []; omega)]; simp
    exact ahead1_any hle hN e1 e0
  rintro e w2 ⟨A1, n1, c1, rfl, ho, hb2⟩
  simp only [World.size_alloc] at ho hb2
  go_wp2
  go_ret2
  exact ⟨_, _, _, rfl, ho.mono (by omega), ((below_alloc w _).trans ((below_alloc _ _).mono (by simp only [World.size_alloc]; omega))).trans (hb2.mono (by omega))⟩

theorem splice_end (N : Nat) (b : List UInt8) (h : b.length ≤ N) : splice (List.replicate N 0) (N - b.length) b = List.replicate (N - b.length) 0 ++ b := by
  unfold splice
  rw [List.take_replicate, List.drop_replicate, show N - (N - b.length + b.length) = 0 by omega, Nat.min_eq_left (by omega)]
  simp
end Go.Proofs.YtagkcmoloceheaaDoor
