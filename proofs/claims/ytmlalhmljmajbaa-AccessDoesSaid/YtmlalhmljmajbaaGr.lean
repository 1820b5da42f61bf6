/-
  How accesses, spots and deeds are read.
-/
import Derived.Test.YtmlalhmljmajbaaGn
import Derived.Test.YtmlalhmljmajbaaRv
namespace Go.Proofs.Ytmlalhmljmajbaa
open Go.RowKit
set_option linter.unusedVariables false
set_option linter.unusedSimpArgs false
set_option maxRecDepth 20000
theorem word_of {a b c d : Int} (ha : 0 ≤ a ∧ a ≤ 18446744073709551615) (hb : 0 ≤ b ∧ b ≤ 18446744073709551615) (hc : 0 ≤ c ∧ c ≤ 18446744073709551615) (hd : 0 ≤ d ∧ d ≤ 18446744073709551615) : ∃ n : Nat, n < WW ∧ l0 n = a ∧ l1 n = b ∧ l2 n = c ∧ l3 n = d := by
  refine ⟨a.toNat + 18446744073709551616 * (b.toNat + 18446744073709551616 * (c.toNat + 18446744073709551616 * d.toNat)), ?_, ?_⟩
  · show _ < 115792089237316195423570985008687907853269984665640564039457584007913129639936
    omega
  · obtain ⟨h0, h1, h2, h3⟩ := limbs_of (s0 := a.toNat) (s1 := b.toNat) (s2 := c.toNat) (s3 := d.toNat) rfl (by omega) (by omega) (by omega) (by omega)
    rw [h0, h1, h2, h3]
    exact ⟨Int.toNat_of_nonneg ha.1, Int.toNat_of_nonneg hb.1, Int.toNat_of_nonneg hc.1, Int.toNat_of_nonneg hd.1⟩
theorem decV_word : DecV Try.prog 26 4 (fun n : Nat => [.v (.int .u64 (l0 n)), .v (.int .u64 (l1 n)), .v (.int .u64 (l2 n)), .v (.int .u64 (l3 n))]) (fun n => n < WW) :=
  (decV_w4 Try.underlying26 (by kernel_rfl) Try.underlying23 (by kernel_rfl)).map fun x hx => by
    obtain ⟨n, hn, h0, h1, h2, h3⟩ := word_of hx.1 hx.2.1 hx.2.2.1 hx.2.2.2
    exact ⟨n, by rw [h0, h1, h2, h3], hn⟩
theorem decV_addr : DecV Try.prog 24 1 apv U := (decV_u64 Try.underlying24 (by kernel_rfl)).map fun a ga => ⟨a, rfl, ga⟩
theorem decV_addrs : DecV Try.prog 22 1 (fun l : List Int => [PV.sl false 1 l.length (l.flatMap apv)]) (fun l => l.length ≤ maxLen ∧ ∀ a ∈ l, U a) :=
  decV_slice Try.underlying22 (by kernel_rfl) decV_addr (by omega) apv_len
theorem decV_spot : DecV Try.prog 28 5 Sp.pv Sp.ok :=
  (decV_struct (sz := 1 + 4) Try.underlying28 (by kernel_rfl) (decF_cons decV_addr rfl (decF_one decV_word rfl))).map fun x hx => ⟨⟨x.1, x.2⟩, rfl, hx⟩
theorem decV_spots : DecV Try.prog 30 1 (fun l : List Sp => [PV.sl false 5 l.length (l.flatMap Sp.pv)]) (fun l => l.length ≤ maxLen ∧ ∀ a ∈ l, a.ok) :=
  decV_slice Try.underlying30 (by kernel_rfl) decV_spot (by omega) sp_len
theorem decV_passing : DecV Try.prog 67 9 Pg.pv Pg.ok :=
  (decV_struct (sz := 5 + 4) Try.underlying67 (by kernel_rfl) (decF_cons decV_spot rfl (decF_one decV_word rfl))).map fun x hx => ⟨⟨x.1, x.2⟩, rfl, hx⟩
theorem decV_passings : DecV Try.prog 31 1 (fun l : List Pg => [PV.sl false 9 l.length (l.flatMap Pg.pv)]) (fun l => l.length ≤ maxLen ∧ ∀ a ∈ l, a.ok) :=
  decV_slice Try.underlying31 (by kernel_rfl) decV_passing (by omega) pg_len
theorem decV_access : DecV Try.prog 33 3 (fun x : Xs => [PV.sl false 1 x.ad.length (x.ad.flatMap apv), PV.sl false 5 x.sp.length (x.sp.flatMap Sp.pv), PV.sl false 9 x.pg.length (x.pg.flatMap Pg.pv)]) (fun x => (x.ad.length ≤ maxLen ∧ x.sp.length ≤ maxLen ∧ x.pg.length ≤ maxLen) ∧ x.ok) :=
  (decV_struct (sz := 1 + (1 + 1)) Try.underlying33 (by kernel_rfl) (decF_cons decV_addrs rfl (decF_cons decV_spots rfl (decF_one decV_passings rfl)))).map fun x hx => ⟨⟨x.1, x.2.1, x.2.2⟩, rfl, ⟨hx.1.1, hx.2.1.1, hx.2.2.1⟩, hx.1.2, hx.2.1.2, hx.2.2.2⟩
theorem decV_kind : DecV Try.prog 3 1 (fun n : Int => [PV.v (.int .i64 n)]) (fun n => -9223372036854775808 ≤ n ∧ n ≤ 9223372036854775807) := (decV_int Try.underlying3 (by kernel_rfl)).map fun a ga => ⟨a, rfl, wf_i64 ga⟩
theorem decV_deed : DecV Try.prog 56 10 Dd.pv Dd.ok :=
  (decV_struct (sz := 1 + (5 + 4)) Try.underlying56 (by kernel_rfl) (decF_cons decV_kind rfl (decF_cons decV_spot rfl (decF_one decV_word rfl)))).map fun x hx => ⟨⟨x.1, x.2.1, x.2.2⟩, rfl, hx.1, hx.2.1, hx.2.2⟩
theorem decV_deeds : DecV Try.prog 54 1 (fun l : List Dd => [PV.sl false 10 l.length (l.flatMap Dd.pv)]) (fun l => l.length ≤ maxLen ∧ ∀ a ∈ l, a.ok) :=
  decV_slice Try.underlying54 (by kernel_rfl) decV_deed (by omega) dd_len
end Go.Proofs.Ytmlalhmljmajbaa

