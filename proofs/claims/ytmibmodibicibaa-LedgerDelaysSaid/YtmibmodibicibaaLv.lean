/-
  How ledgers and deeds are read.
-/
import Derived.Test.YtmibmodibicibaaLr
import Derived.Test.YtmibmodibicibaaRv
namespace Go.Proofs.Ytmibmodibicibaa
open Go.RowKit
set_option linter.unusedVariables false
set_option linter.unusedSimpArgs false
theorem word_of {a b c d : Int} (ha : 0 ≤ a ∧ a ≤ 18446744073709551615) (hb : 0 ≤ b ∧ b ≤ 18446744073709551615) (hc : 0 ≤ c ∧ c ≤ 18446744073709551615) (hd : 0 ≤ d ∧ d ≤ 18446744073709551615) : ∃ n : Nat, n < WW ∧ l0 n = a ∧ l1 n = b ∧ l2 n = c ∧ l3 n = d := by
  refine ⟨a.toNat + 18446744073709551616 * (b.toNat + 18446744073709551616 * (c.toNat + 18446744073709551616 * d.toNat)), ?_, ?_⟩
  · show _ < 115792089237316195423570985008687907853269984665640564039457584007913129639936
    omega
  · obtain ⟨h0, h1, h2, h3⟩ := limbs_of (s0 := a.toNat) (s1 := b.toNat) (s2 := c.toNat) (s3 := d.toNat) rfl (by omega) (by omega) (by omega) (by omega)
    rw [h0, h1, h2, h3]
    exact ⟨Int.toNat_of_nonneg ha.1, Int.toNat_of_nonneg hb.1, Int.toNat_of_nonneg hc.1, Int.toNat_of_nonneg hd.1⟩
theorem decV_word : DecV Try.prog 31 4 wpv (fun n => n < WW) :=
  (decV_w4 Try.underlying31 (by kernel_rfl) Try.underlying28 (by kernel_rfl)).map fun x hx => by
    obtain ⟨n, hn, h0, h1, h2, h3⟩ := word_of hx.1 hx.2.1 hx.2.2.1 hx.2.2.2
    exact ⟨n, by unfold wpv; rw [h0, h1, h2, h3], hn⟩
theorem decV_addr : DecV Try.prog 29 1 (fun n : Int => [PV.v (.int .u64 n)]) U := (decV_u64 Try.underlying29 (by kernel_rfl)).map fun a ga => ⟨a, rfl, ga⟩
theorem decV_num : DecV Try.prog 28 1 (fun n : Int => [PV.v (.int .u64 n)]) U := (decV_u64 Try.underlying28 (by kernel_rfl)).map fun a ga => ⟨a, rfl, ga⟩
theorem decV_held : DecV Try.prog 39 11 Hd.pv Hd.ok :=
  (decV_struct (sz := 1 + (4 + (4 + (1 + 1)))) Try.underlying39 (by kernel_rfl) (decF_cons decV_addr rfl (decF_cons decV_word rfl (decF_cons decV_word rfl (decF_cons decV_num rfl (decF_one decV_num rfl)))))).map fun x hx => ⟨⟨x.1, x.2.1, x.2.2.1, x.2.2.2.1, x.2.2.2.2⟩, rfl, hx⟩
theorem decV_ledger : DecV Try.prog 24 1 (fun l : List Hd => [PV.sl false 11 l.length (l.flatMap Hd.pv)]) (fun l => l.length ≤ maxLen ∧ ∀ h ∈ l, h.ok) :=
  decV_struct Try.underlying24 (by kernel_rfl) (decF_one (decV_slice Try.underlying22 (by kernel_rfl) decV_held (by omega) hd_len) rfl)
theorem decV_deed : DecV Try.prog 33 8 dpv Dd.ok :=
  (decV_struct (sz := 1 + (1 + (4 + (1 + 1)))) Try.underlying33 (by kernel_rfl) (decF_cons (decV_int Try.underlying3 (by kernel_rfl)) rfl (decF_cons decV_addr rfl (decF_cons decV_word rfl (decF_cons decV_num rfl (decF_one decV_num rfl)))))).map fun x hx => ⟨⟨x.1, x.2.1, x.2.2.1, x.2.2.2.1, x.2.2.2.2⟩, rfl, hx.2⟩
theorem decV_deeds : DecV Try.prog 25 1 (fun l : List Dd => [PV.sl false 8 l.length (l.flatMap dpv)]) (fun l => l.length ≤ maxLen ∧ ∀ D ∈ l, D.ok) :=
  decV_slice Try.underlying25 (by kernel_rfl) decV_deed (by omega) dpv_len
end Go.Proofs.Ytmibmodibicibaa
