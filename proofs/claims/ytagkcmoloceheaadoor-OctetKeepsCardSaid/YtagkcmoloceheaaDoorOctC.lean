/-
  Walks of layer 1 (octet): Over, padded, Ahead.
-/
import Derived.Test.YtagkcmoloceheaaDoorOctB
import Derived.StillTailTactics
namespace Go.Proofs.YtagkcmoloceheaaDoor
open Go.RowKit
set_option linter.unusedVariables false

/-- a row with another one over it -/
def overS (b : List UInt8) (at_ : Nat) (x : List UInt8) (m : Nat) : List UInt8 :=
  splice (splice (List.replicate m 0) 0 (b.take m)) at_ (x.take (m - at_))

set_option maxHeartbeats 400000 in
theorem over1_any {A C : Option Addr} {n c N k d M at_ m g pb pa px base : Nat} {b x : List UInt8} {w : World} (hb : Sl w N 1 A n c (u8s b)) (hN : N ≤ base) (hx : Sl w M 1 C k d (u8s x)) (hM : M ≤ base)
    (hat : at_ ≤ m) (hpb : w.cell? ⟨pb, 0, none⟩ = some (.slice A n c)) (hpa : w.cell? ⟨pa, 0, none⟩ = some (.int .u64 (at_ : Int))) (hpx : w.cell? ⟨px, 0, none⟩ = some (.slice C k d))
    (hqb : pb < base) (hqa : pa < base) (hqx : px < base) (hbase : base ≤ w.heap.size) (hm : m ≤ 4096)
    (how : Ow w base 5 1 (some ⟨g, 0, none⟩) m m (u8s (List.replicate m 0))) (w0 : World) (hw0 : base = w0.heap.size) :
    Calls Tryd.prog 34 #[.slice (some ⟨g, 0, none⟩) m m, .pointer (some ⟨pb, 0, none⟩), .pointer (some ⟨pa, 0, none⟩), .pointer (some ⟨px, 0, none⟩)] w (Filled w0 (overS b at_ x m) g m w) := by
  have hn := hb.n_le; have hn' := hb.c_le'
  have hk := hx.n_le; have hk' := hx.c_le'
  have HB := hide hb; have HX := hide hx; have HO := hide how; have H0 := hide hw0; clear hb hx how hw0
  have h : (some ⟨g, 0, none⟩ : Option Addr) = if m = 0 then some ⟨g, 0, none⟩ else Option.map (fun a : Addr => a.add (0 * 1)) (some ⟨g, 0, none⟩) := by by_cases e : m = 0 <;> simp [e, add_zero']
  have HD := hide h; clear h
  go_enter Tryd.func34, Tryd.ntmps34
  go_wp2_with (show wpList _ _ _ (⟨some 7, _, _, _, _, _⟩ :: _) _ _; refine wpList_cp (.tmp 5) (.tmp 6) _ _ rfl 5 Tryd.underlying25 u8size rfl base 5 _ m m 0 _ HO.out (by omega) hbase _ _ rfl HD.out N _ _ _ (u8s b) rfl HB.out (u8s_one _) ?_; intro w2 ho2 hb2 hs2)
  have hpa2 : w2.cell? ⟨pa, 0, none⟩ = some (.int .u64 (at_ : Int)) := by rw [hb2.cell (p := ⟨pa, 0, none⟩) hqa]; exact hpa
  have hpx2 : w2.cell? ⟨px, 0, none⟩ = some (.slice C k d) := by rw [hb2.cell (p := ⟨px, 0, none⟩) hqx]; exact hpx
  rw [Nat.sub_zero, u8s_take] at ho2
  go_still_tail 4, (by kernel_rfl)
  have ho3 : Ow w2.drew base 5 1 (some ⟨g, 0, none⟩) m m (splice (u8s (List.replicate m 0)) 0 (u8s (List.take m b))) := ho2
  have hx3 : Sl w2.drew base 1 C k d (u8s x) := (HX.out.mono hM).belowB hb2.drew
  refine wpList_cp (.tmp 10) (.tmp 11) _ _ rfl 5 Tryd.underlying25 u8size rfl base 5 _ m m at_ _ ho3 hat (by have := hb2.size; simp only [World.size_drew]; omega) _ _ rfl ?dp base _ _ _ (u8s x) rfl hx3 (u8s_one _) ?_
  case dp => simp [add_none]
  intro w4 ho4 hb4 hs4
  apply wpList_nil
  go_end0
  refine ⟨rfl, ?_, by rw [← H0.out]; exact hb2.drew.trans hb4⟩
  rw [← H0.out]
  have e : splice (splice (u8s (List.replicate m 0)) 0 (u8s (List.take m b))) at_ (List.take (m - at_) (u8s x)) = u8s (overS b at_ x m) := by
    rw [u8s_take]
    unfold overS
    rw [u8s_splice, u8s_splice]
  rw [e] at ho4
  exact ho4

/-- Over: the row, the error -/
def overE (b : List UInt8) (at_ : Nat) (x : List UInt8) : List UInt8 × Int :=
  let at' := if x.length = 0 then 0 else at_
  if 4096 < at' then ([], 3) else madeS (max b.length (at' + x.length) : Nat) (overS b at' x (max b.length (at' + x.length)))

def overW (w : World) (A C : Option Addr) (n c k d at_ : Nat) : World :=
  ((w.alloc (.cells #[.slice A n c] 25)).alloc (.cells #[.int .u64 (at_ : Int)] 37)).alloc (.cells #[.slice C k d] 25)
theorem overW_below (w : World) (A C : Option Addr) (n c k d at_ : Nat) : Below w.heap.size w (overW w A C n c k d at_) :=
  ((below_alloc w _).trans ((below_alloc _ _).mono (by simp only [World.size_alloc]; omega))).trans ((below_alloc _ _).mono (by simp only [World.size_alloc]; omega))
theorem overW_size (w : World) (A C : Option Addr) (n c k d at_ : Nat) : (overW w A C n c k d at_).heap.size = w.heap.size + 3 := by unfold overW; simp

theorem over_made {A C : Option Addr} {n c N k d M at_ : Nat} {b x : List UInt8} {w : World} (hb : Sl w N 1 A n c (u8s b)) (hx : Sl w M 1 C k d (u8s x)) (v : Int) (hv : v = (max n (at_ + k) : Nat)) :
    Calls Tryd.prog 32 #[.int .i64 v, .func (.func 34) #[] #[.pointer (some ⟨w.heap.size, 0, none⟩), .pointer (some ⟨w.heap.size + 1, 0, none⟩), .pointer (some ⟨w.heap.size + 1 + 1, 0, none⟩)]]
      (overW w A C n c k d at_) (RetBE (overW w A C n c k d at_) (madeS (max n (at_ + k) : Nat) (overS b at_ x (max n (at_ + k))))) := by
  subst hv
  refine made_any (L := overS b at_ x (max n (at_ + k))) (run_enter Tryd.func34 (by kernel_rfl) (by kernel_rfl)) ?_
  intro m g w1 hN hm hg hb1 how
  obtain rfl : m = max n (at_ + k) := by omega
  have hsz := overW_size w A C n c k d at_
  have e0 : w1.cell? ⟨w.heap.size, 0, none⟩ = some (.slice A n c) := by
    rw [hb1.cell (p := ⟨w.heap.size, 0, none⟩) (by rw [hsz]; simp)]
    unfold overW
    rw [World.cell?_alloc_lt _ _ _ (by simp only [World.size_alloc]; omega), World.cell?_alloc_lt _ _ _ (by simp)]
    exact World.cell?_alloc_at _ _ _ _ rfl
  have e1 : w1.cell? ⟨w.heap.size + 1, 0, none⟩ = some (.int .u64 (at_ : Int)) := by
    rw [hb1.cell (p := ⟨w.heap.size + 1, 0, none⟩) (by rw [hsz]; simp)]
    unfold overW
    rw [World.cell?_alloc_lt _ _ _ (by simp)]
    exact World.cell?_alloc_at _ _ _ _ (by simp)
  have e2 : w1.cell? ⟨w.heap.size + 1 + 1, 0, none⟩ = some (.slice C k d) := by
    rw [hb1.cell (p := ⟨w.heap.size + 1 + 1, 0, none⟩) (by rw [hsz]; simp)]
    unfold overW
    exact World.cell?_alloc_at _ _ _ _ (by simp)
  have hb0 := overW_below w A C n c k d at_
  exact over1_any ((hb.tight (by omega)).below hb0 |>.below hb1) (by omega) ((hx.tight (by omega)).below hb0 |>.below hb1) (by omega) (by omega) e0 e1 e2 (by omega) (by omega) (by omega) hb1.size hm how _ rfl

set_option maxHeartbeats 800000 in
theorem over_any {A C : Option Addr} {n c N k d M at_ : Nat} {b x : List UInt8} {w : World} (hb : Sl w N 1 A n c (u8s b)) (hx : Sl w M 1 C k d (u8s x)) (hat : at_ < 18446744073709551616) (hk0 : k ≤ 140737488355328) :
    Calls Tryd.prog 23 #[.slice A n c, .int .u64 (at_ : Int), .slice C k d] w (RetBE w (overE b at_ x)) := by
  have hn := hb.n_le; have hn' := hb.c_le'
  have hk := hx.n_le; have hk' := hx.c_le'
  obtain ⟨at', h⟩ : ∃ at', at' = if x.length = 0 then 0 else at_ := ⟨_, rfl⟩
  have hlb := hb.len8
  have hlx := hx.len8
  have HAT : Hid (at' = if k = 0 then 0 else at_) := by rw [← hlx]; exact h
  have HE : Hid (overE b at_ x = if 4096 < at' then ([], 3) else madeS (max n (at' + k) : Nat) (overS b at' x (max n (at' + k)))) := by
    unfold overE
    rw [← h, hlb, hlx]; rfl
  rw [HE.out]
  have HB := hide hb; have HX := hide hx; clear hb hx h hlb hlx HE
  by_cases h0 : k = 0
  · subst h0
    obtain rfl : at' = 0 := by have := HAT.out; rw [if_pos rfl] at this; exact this
    rw [if_neg (by omega)]
    have hmd := over_made (at_ := 0) (w := w) HB.out HX.out n (by simp)
    rw [show max n (0 + 0) = n by omega] at hmd ⊢
    have HM := hide hmd
    clear HAT hmd
    go_enter Tryd.func23, Tryd.ntmps23
    go_wp2_with (go_at_call 32; refine HM.out.mono ?_; rintro e w2 ⟨A1, n1, c1, rfl, ho, hb2⟩)
    go_ret2
    have hsz := overW_size w A C n c 0 d 0
    exact ⟨_, _, _, rfl, ho.mono (by rw [hsz]; omega), (overW_below w A C n c 0 d 0).trans (hb2.mono (by rw [hsz]; omega))⟩
  · obtain rfl : at' = at_ := by have := HAT.out; rw [if_neg h0] at this; exact this
    clear HAT
    by_cases hbig : 4096 < at'
    · rw [if_pos hbig]
      go_enter Tryd.func23, Tryd.ntmps23
      go_wp2_with fail
      go_ret2
      exact ⟨_, _, _, rfl, Ow.nil, overW_below w A C n c k d at'⟩
    · rw [if_neg hbig]
      go_enter Tryd.func23, Tryd.ntmps23
      go_wp2_with (go_at_call 32; refine (over_made (at_ := at') HB.out HX.out _ (by omega)).mono ?_; rintro e w2 ⟨A1, n1, c1, rfl, ho, hb2⟩)
      all_goals
        go_ret2
        have hsz := overW_size w A C n c k d at'
        exact ⟨_, _, _, rfl, ho.mono (by rw [hsz]; omega), (overW_below w A C n c k d at').trans (hb2.mono (by rw [hsz]; omega))⟩
end Go.Proofs.YtagkcmoloceheaaDoor
