/-
  How words, rows of bytes, and addresses are read.
-/
import Derived.Test.YtgdjkkapgghdbaaDoorDc
import Derived.Test.YtgdjkkapgghdbaaDoorRv
namespace Go.Proofs.YtgdjkkapgghdbaaDoor
open Go.RowKit
set_option linter.unusedVariables false
set_option linter.unusedSimpArgs false
theorem word_of {a b c d : Int} (ha : 0 ≤ a ∧ a ≤ 18446744073709551615) (hb : 0 ≤ b ∧ b ≤ 18446744073709551615) (hc : 0 ≤ c ∧ c ≤ 18446744073709551615) (hd : 0 ≤ d ∧ d ≤ 18446744073709551615) : ∃ n : Nat, n < WW ∧ l0 n = a ∧ l1 n = b ∧ l2 n = c ∧ l3 n = d := by
  refine ⟨a.toNat + 18446744073709551616 * (b.toNat + 18446744073709551616 * (c.toNat + 18446744073709551616 * d.toNat)), ?_, ?_⟩
  · show _ < 115792089237316195423570985008687907853269984665640564039457584007913129639936
    omega
  · obtain ⟨h0, h1, h2, h3⟩ := limbs_of (s0 := a.toNat) (s1 := b.toNat) (s2 := c.toNat) (s3 := d.toNat) rfl (by omega) (by omega) (by omega) (by omega)
    rw [h0, h1, h2, h3]
    exact ⟨Int.toNat_of_nonneg ha.1, Int.toNat_of_nonneg hb.1, Int.toNat_of_nonneg hc.1, Int.toNat_of_nonneg hd.1⟩
def wpv (n : Nat) : List PV := [.v (.int .u64 (l0 n)), .v (.int .u64 (l1 n)), .v (.int .u64 (l2 n)), .v (.int .u64 (l3 n))]
theorem decV_word : DecV Tryd.prog 25 4 wpv (fun n => n < WW) :=
  (decV_w4 Tryd.underlying25 (by kernel_rfl) Tryd.underlying22 (by kernel_rfl)).map fun x hx => by
    obtain ⟨n, hn, h0, h1, h2, h3⟩ := word_of hx.1 hx.2.1 hx.2.2.1 hx.2.2.2
    exact ⟨n, by unfold wpv; rw [h0, h1, h2, h3], hn⟩
theorem decV_byte : DecV Tryd.prog 5 1 bpv (fun n => n < 256) := (decV_int Tryd.underlying5 (by kernel_rfl)).map fun a ga => ⟨a.toNat, by unfold bpv; rw [Int.toNat_of_nonneg (wf_u8 ga).1], by have := wf_u8 ga; omega⟩
theorem decV_bytes : DecV Tryd.prog 26 1 (fun l : List Nat => [PV.sl false 1 l.length (l.flatMap bpv)]) (fun l => l.length ≤ maxLen ∧ ∀ a ∈ l, a < 256) :=
  decV_slice Tryd.underlying26 (by kernel_rfl) decV_byte (by omega) bpv_len
end Go.Proofs.YtgdjkkapgghdbaaDoor

