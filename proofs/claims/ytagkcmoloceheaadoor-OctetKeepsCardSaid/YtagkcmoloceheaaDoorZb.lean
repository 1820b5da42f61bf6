/-
  Rows of the call's own without spare room: made, padded, Ahead, Behind.
-/
import Derived.Test.YtagkcmoloceheaaDoorZa
namespace Go.Proofs.YtagkcmoloceheaaDoor
open Go.RowKit
set_option linter.unusedVariables false
set_option linter.unusedSimpArgs false
/-- a row without room behind it, and an error come back -/
def RetBF (w : World) (r : List UInt8 × Int) : Ending → World → Prop := fun e w' =>
  ∃ A n, e = .returned (.tuple #[.slice A n n, .int .i64 r.2]) ∧ Ow w' w.heap.size 5 1 A n n (u8s r.1) ∧ Below w.heap.size w w'
set_option maxHeartbeats 400000 in
theorem made_anyF {N : Int} {f : Nat} {cap : Array Value} {L : List UInt8} {w : World}
    (he : ∀ args w, (callFunc f args).run Tryd.prog w = .ok (.enter f args) w)
    (hf : ∀ (n g : Nat) (w1 : World), N = (n : Int) → n ≤ 4096 → w.heap.size ≤ g → Below w.heap.size w w1 → Ow w1 w.heap.size 5 1 (some ⟨g, 0, none⟩) n n (u8s (List.replicate n 0)) →
      Calls Tryd.prog f (#[.slice (some ⟨g, 0, none⟩) n n] ++ cap) w1 (Filled w L g n w1)) :
    Calls Tryd.prog 32 #[.int .i64 N, .func (.func f) #[] cap] w (RetBF w (madeS N L)) := by
  have HF := hide hf; clear hf
  by_cases hN : withinS N = 0
  · obtain ⟨n, rfl, hn⟩ : ∃ n : Nat, N = (n : Int) ∧ n ≤ 4096 := by
      unfold withinS at hN
      refine ⟨N.toNat, ?_, ?_⟩ <;> (split at hN; cases hN; split at hN; cases hN; omega)
    have e : madeS n L = (L, 0) := by unfold madeS; rw [if_pos hN]
    rw [e]; clear e
    have HN := hide hN; clear hN
    go_enter Tryd.func32, Tryd.ntmps32
    go_wp2_with (first
      | (go_at_call 43; refine (within_any (n := n) (by simp)).mono ?_; rintro e w1 ⟨rfl, rfl⟩; rw [HN.out])
      | (at_make; refine wpList_mk rfl _ _ _ rfl 5 _ 1 Tryd.underlying25 u8info rfl _ _ _ _ n rfl rfl rfl rfl (by omega) (by omega) ?_; intro w2 how hbl hsz))
    have hbl0 : Below w.heap.size w w2 := (below_alloc w _).trans (hbl.mono (by simp))
    have how0 := how.mono (base' := w.heap.size) (by simp)
    simp only [World.size_alloc] at how0
    have hfc := HF.out n (w.heap.size + 1) w2 rfl hn (by omega) hbl0 (by simpa [u8s] using how0)
    refine hfc.mono ?_
    rintro e w3 ⟨rfl, hw3, hb3⟩
    clear hfc how0 how hsz
    go_wp2
    go_ret2
    exact ⟨_, _, rfl, hw3, hbl0.trans hb3⟩
  · have e : madeS N L = ([], withinS N) := by unfold madeS; rw [if_neg hN]
    rw [e]; clear e
    have h1 : (withinS N != 0) = true := by simp [hN]
    clear hN HF he
    go_enter Tryd.func32, Tryd.ntmps32
    go_wp2_with (go_at_call 43; refine (within_any (n := N) (by simp)).mono ?_; rintro e w1 ⟨rfl, rfl⟩)
    go_ret2
    exact ⟨_, _, rfl, Ow.nil, below_alloc _ _⟩

set_option maxRecDepth 20000 in
set_option maxHeartbeats 400000 in
theorem padded_anyF {A : Option Addr} {n c B f k : Nat} {N : Int} {cap : Array Value} {b : List UInt8} {w : World} (hb : Sl w B 1 A n c (u8s b))
    (he : ∀ args w, (callFunc f args).run Tryd.prog w = .ok (.enter f args) w) (hf : (n : Int) ≤ N → Tells w f cap k) (hk : (n : Int) ≤ N → (k + n : Nat) ≤ N) :
    Calls Tryd.prog 29 #[.slice A n c, .int .i64 N, .func (.func f) #[] cap] w (RetBF w (padE b N k)) := by
  have hn := hb.n_le; have hn' := hb.c_le'
  have hl := hb.len8
  have hsz := padW_size w A n c f cap
  have hbl := padW_below w A n c f cap
  by_cases hN : N < n
  · have e : padE b N k = ([], 2) := by unfold padE; rw [hl, if_pos hN]
    rw [e]; clear hb hf hk he e hl hsz
    have HBL := hide hbl; clear hbl
    go_enter Tryd.func29, Tryd.ntmps29
    go_wp2
    go_ret2
    exact ⟨_, _, rfl, Ow.nil, HBL.out⟩
  · have e : padE b N k = madeS N (splice (List.replicate N.toNat 0) k b) := by unfold padE; rw [hl, if_neg hN]
    rw [e]
    have hmd : Calls Tryd.prog 32 #[.int .i64 N, .func (.func 42) #[] #[.pointer (some ⟨w.heap.size + 1, 0, none⟩), .pointer (some ⟨w.heap.size, 0, none⟩)]] (padW w A n c f cap) (RetBF (padW w A n c f cap) (madeS N (splice (List.replicate N.toNat 0) k b))) := by
      refine made_anyF (L := splice (List.replicate N.toNat 0) k b) (run_enter Tryd.func42 (by kernel_rfl) (by kernel_rfl)) ?_
      intro m g w1 hNm hm hg hb1 how
      rw [hNm, Int.toNat_natCast]
      have hk' := hk (by omega)
      have e0 : w1.cell? ⟨w.heap.size, 0, none⟩ = some (.slice A n c) := by
        rw [hb1.cell (p := ⟨w.heap.size, 0, none⟩) (by rw [hsz]; simp)]
        unfold padW
        rw [World.cell?_alloc_lt _ _ _ (by simp)]
        exact World.cell?_alloc_at _ _ _ _ rfl
      have e1 : w1.cell? ⟨w.heap.size + 1, 0, none⟩ = some (.func (.func f) #[] cap) := by
        rw [hb1.cell (p := ⟨w.heap.size + 1, 0, none⟩) (by rw [hsz]; simp)]
        unfold padW
        exact World.cell?_alloc_at _ _ _ _ (by simp)
      exact padded1_any (((hb.tight (by omega)).below hbl).below hb1) (by omega) he (hf (by omega)) (hbl.trans (hb1.mono (by omega))) (by omega) e1 e0 hb1.size hm how rfl
    have HM := hide hmd; have HBL := hide hbl
    clear hb hf hk he e hl hmd hbl
    go_enter Tryd.func29, Tryd.ntmps29
    go_wp2_with (go_at_call 32; refine HM.out.mono ?_; rintro e w2 ⟨A1, n1, rfl, ho, hb2⟩)
    go_ret2
    exact ⟨_, _, rfl, ho.mono (by rw [hsz]; omega), HBL.out.trans (hb2.mono (by rw [hsz]; omega))⟩

set_option maxRecDepth 20000 in
set_option maxHeartbeats 400000 in
theorem ahead_anyF {A : Option Addr} {n c B : Nat} {N : Int} {b : List UInt8} {w : World} (hb : Sl w B 1 A n c (u8s b)) (hN : N ≤ 9223372036854775807) :
    Calls Tryd.prog 13 #[.slice A n c, .int .i64 N] w (RetBF w (aheadE b N)) := by
  have hl := hb.len8
  have HB := hide hb; have HL := hide hl; clear hb hl
  go_enter Tryd.func13, Tryd.ntmps13
  go_wp2_with fail
  refine Calls.mono (R := RetBF _ (aheadE b N)) (padded_anyF (k := (N - b.length).toNat) ((HB.out.alloc _).alloc _) (run_enter Tryd.func30 (by kernel_rfl) (by kernel_rfl)) ?hf (by rw [HL.out]; omega)) ?_
  case hf =>
    intro hle w1 hb1
    rw [HL.out]
    simp only [World.size_alloc] at hb1
    have e0 : w1.cell? ⟨w.heap.size, 0, none⟩ = some (.slice A n c) := by rw [hb1.cell (p := ⟨w.heap.size, 0, none⟩) (by simp only []; omega)]; simp
    have e1 : w1.cell? ⟨w.heap.size + 1, 0, none⟩ = some (.int .i64 N) := by rw [hb1.cell (p := ⟨w.heap.size + 1, 0, none⟩) (by simp only []; omega)]; simp
    exact ahead1_any hle hN e1 e0
  rintro e w2 ⟨A1, n1, rfl, ho, hb2⟩
  simp only [World.size_alloc] at ho hb2
  go_wp2
  go_ret2
  exact ⟨_, _, rfl, ho.mono (by omega), ((below_alloc w _).trans ((below_alloc _ _).mono (by simp only [World.size_alloc]; omega))).trans (hb2.mono (by omega))⟩

def behindE (b : List UInt8) (N : Int) : List UInt8 × Int := padE b N 0
set_option maxRecDepth 20000 in
set_option maxHeartbeats 400000 in
theorem behind1_any {w : World} : Calls Tryd.prog 31 #[] w fun e w' => e = .returned (.int .i64 ((0 : Nat) : Int)) ∧ w' = w := by
  go_enter Tryd.func31, Tryd.ntmps31
  go_wp2
  go_ret
  exact ⟨rfl, rfl⟩
set_option maxRecDepth 20000 in
set_option maxHeartbeats 400000 in
theorem behind_anyF {A : Option Addr} {n c B : Nat} {N : Int} {b : List UInt8} {w : World} (hb : Sl w B 1 A n c (u8s b)) :
    Calls Tryd.prog 14 #[.slice A n c, .int .i64 N] w (RetBF w (behindE b N)) := by
  have hl := hb.len8
  have hp := padded_anyF (k := 0) (N := N) (cap := #[]) hb (run_enter Tryd.func31 (by kernel_rfl) (by kernel_rfl)) (fun _ w1 _ => behind1_any) (by intro h; omega)
  have HB := hide hp; clear hb hl hp
  go_enter Tryd.func14, Tryd.ntmps14
  go_wp2_with fail
  refine Calls.mono (R := RetBF _ (behindE b N)) HB.out ?_
  rintro e w2 ⟨A1, n1, rfl, ho, hb2⟩
  go_wp2
  go_ret2
  exact ⟨_, _, rfl, ho, hb2⟩
theorem Fn.ofBytesF {f : FuncId} {args : List AV} {L : List UInt8} {N : Int} (h : ∀ (S : Nat → Prop) (ι : Nat → Nat × Nat × Nat) (w : World) (vs : List Value), vs.length = args.length → (∀ (j : Nat) (v : Value) (x : AV), vs[j]? = some v → args[j]? = some x → RV S ι w v x) →
    Calls Tryd.prog f vs.toArray w (RetBF w (L, N))) : Fn Tryd.prog f args [] (.tup [.row 500 5 1 L.length, vi .i64 N]) [(500, rcU L)] := by
  intro E vs hD hsep hH hlen hargs
  refine (h E.S E.ι E.w vs hlen hargs).mono ?_
  rintro e w' ⟨A, n, rfl, how, hb⟩
  have hlen' : (u8s L).length = n * 1 := how.1
  rw [u8s_length, Nat.mul_one] at hlen'
  have hget1 : ∀ r cs, hget [(500, rcU L)] r = some cs → r = 500 ∧ cs = rcU L := fun r cs hr => by
    simp only [hget] at hr
    split at hr
    · rename_i h5; exact ⟨h5.symm, (Option.some.inj hr).symm⟩
    · cases hr
  rcases how.form with ⟨rfl, rfl, _, hx⟩ | ⟨g, cur, rfl, hbg, hlt, hh, hnc, hcm, hcs, htk⟩
  · obtain rfl : L = [] := List.eq_nil_of_length_eq_zero hlen'
    refine ⟨_, fun r => if r = 500 then (0, 0, 0) else E.ι r, rfl, .tup [_, _] _ rfl fun j u x hu hx => ?_, ⟨fun r cs hr => ?_, fun r q cs ds hr hq hne => ?_⟩, ⟨hb.os, hb.tape, hb.output, hb.size, fun k hk _ => hb.block k hk, fun r cs hr => ?_⟩⟩
    · match j, hu, hx with
      | 0, hu, hx => cases hu; cases hx; exact .rnil _ _ _ _ (by simp)
      | 1, hu, hx => cases hu; cases hx; exact rvI _ _ _
    · obtain ⟨rfl, rfl⟩ := hget1 r cs hr
      exact .inl ⟨by simp, rfl⟩
    · obtain ⟨rfl, _⟩ := hget1 r cs hr
      obtain ⟨rfl, _⟩ := hget1 q ds hq
      exact absurd rfl hne
    · obtain ⟨rfl, _⟩ := hget1 r cs hr
      refine ⟨fun h5 => ?_, fun _ hz => absurd (by simp) hz⟩
      rw [hD] at h5
      cases h5
  · have hcs' : cur.size = n := by omega
    have hcur : cur.toList = u8s L := by
      rw [← htk, List.take_of_length_le (by rw [Array.length_toList]; omega)]
    by_cases hn0 : n = 0
    · subst hn0
      obtain rfl : L = [] := List.eq_nil_of_length_eq_zero hlen'
      refine ⟨_, fun r => if r = 500 then (0, 0, 0) else E.ι r, rfl, .tup [_, _] _ rfl fun j u x hu hx => ?_, ⟨fun r cs hr => ?_, fun r q cs ds hr hq hne => ?_⟩, ⟨hb.os, hb.tape, hb.output, hb.size, fun k hk _ => hb.block k hk, fun r cs hr => ?_⟩⟩
      · match j, hu, hx with
        | 0, hu, hx => cases hu; cases hx; exact .rnil _ _ _ _ (by simp)
        | 1, hu, hx => cases hu; cases hx; exact rvI _ _ _
      · obtain ⟨rfl, rfl⟩ := hget1 r cs hr
        exact .inl ⟨by simp, rfl⟩
      · obtain ⟨rfl, _⟩ := hget1 r cs hr
        obtain ⟨rfl, _⟩ := hget1 q ds hq
        exact absurd rfl hne
      · obtain ⟨rfl, _⟩ := hget1 r cs hr
        refine ⟨fun h5 => ?_, fun _ hz => absurd (by simp) hz⟩
        rw [hD] at h5
        cases h5
    · refine ⟨_, fun r => if r = 500 then (g, n, 5) else E.ι r, rfl, .tup [_, _] _ rfl fun j u x hu hx => ?_, ⟨fun r cs hr => ?_, fun r q cs ds hr hq hne => ?_⟩, ⟨hb.os, hb.tape, hb.output, hb.size, fun k hk _ => hb.block k hk, fun r cs hr => ?_⟩⟩
      · match j, hu, hx with
        | 0, hu, hx =>
          cases hu; cases hx
          have := RV.row (S := Sx E (fun r => if r = 500 then (g, n, 5) else E.ι r) [(500, rcU L)]) (ι := fun r => if r = 500 then (g, n, 5) else E.ι r) (w := w') 500 5 1 n n (Nat.le_refl _) hcm (by simp) (by simp) (by simpa using hn0)
          simpa [hlen'] using this
        | 1, hu, hx => cases hu; cases hx; exact rvI _ _ _
      · obtain ⟨rfl, rfl⟩ := hget1 r cs hr
        refine .inr ⟨cur, by simpa using hh, by simpa using hcs', by rw [rcU_len]; omega, fun j u x hu hx => ?_, fun u hu => ?_⟩
        · have hu' : (u8s L)[j]? = some u := by rw [← hcur]; simpa using hu
          unfold rcU at hx
          rw [upv_map, List.map_map, List.getElem?_map, hu'] at hx
          cases hx
          have h1 : u.oneCell' = true := u8s_one _ u (List.mem_of_getElem? hu')
          exact ⟨.c _ _ (.v _ h1), h1⟩
        · rw [hcur] at hu
          exact u8s_one _ u hu
      · obtain ⟨rfl, _⟩ := hget1 r cs hr
        obtain ⟨rfl, _⟩ := hget1 q ds hq
        exact absurd rfl hne
      · obtain ⟨rfl, _⟩ := hget1 r cs hr
        refine ⟨fun h5 => ?_, fun _ _ => .inl (by simpa using hbg)⟩
        rw [hD] at h5
        cases h5
theorem ahead_fn (e1 : Bool) (l : List UInt8) (N : Int) (hN : N ≤ 9223372036854775807) : Fn Tryd.prog 13 [usl e1 l, vi .i64 N] [] (.tup [.row 500 5 1 (aheadE l N).1.length, vi .i64 (aheadE l N).2]) [(500, rcU (aheadE l N).1)] := by
  refine Fn.ofBytesF fun S ι w vs hlen hargs => ?_
  match vs, hlen with
  | [v0, v1], _ =>
    obtain ⟨A, c, rfl, h0⟩ := RV.slU (hargs 0 v0 _ rfl rfl)
    obtain ⟨rfl, _⟩ := (hargs 1 v1 _ rfl rfl).v_inv
    exact ahead_anyF h0 hN
theorem behind_fn (e1 : Bool) (l : List UInt8) (N : Int) : Fn Tryd.prog 14 [usl e1 l, vi .i64 N] [] (.tup [.row 500 5 1 (behindE l N).1.length, vi .i64 (behindE l N).2]) [(500, rcU (behindE l N).1)] := by
  refine Fn.ofBytesF fun S ι w vs hlen hargs => ?_
  match vs, hlen with
  | [v0, v1], _ =>
    obtain ⟨A, c, rfl, h0⟩ := RV.slU (hargs 0 v0 _ rfl rfl)
    obtain ⟨rfl, _⟩ := (hargs 1 v1 _ rfl rfl).v_inv
    exact behind_anyF h0
end Go.Proofs.YtagkcmoloceheaaDoor
