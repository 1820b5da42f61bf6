/-
  Deeds of states as the document has them, and put and burn by the code; reckoned.
-/
import Derived.Test.YtiggambibcohcaaVg
namespace Go.Proofs.Ytiggambibcohcaa
open Go.RowKit
open Nat (reduceBEq)
set_option linter.unusedVariables false
set_option linter.unusedSimpArgs false
set_option maxRecDepth 20000
set_option maxHeartbeats 2000000
def rsaveS (L : List Ac) (a : Int) (p : Pr) : List Ac × Int := if a = 0 then ([], 2) else if 24 < (savedA (ofS L a) p).store.length then ([], 6) else putS L (savedA (ofS L a) p)
theorem pass_mem {α : Type} {key : α → Int} {p : α} : ∀ {laid : Bool} {l : List α} {x : α}, x ∈ pass key p laid l → x = p ∨ x ∈ l
  | laid, [], x, h => by
    cases laid with
    | true => cases h
    | false => left; simpa [pass] using h
  | laid, q :: l, x, h => by
    unfold pass at h
    split at h
    · rcases pass_mem h with h | h
      · exact .inl h
      · right; simp [h]
    · split at h
      · rcases List.mem_cons.1 h with h | h
        · exact .inl h
        · rcases List.mem_cons.1 h with h | h
          · right; simp [h]
          · rcases pass_mem h with h | h
            · exact .inl h
            · right; simp [h]
      · rcases List.mem_cons.1 h with h | h
        · right; simp [h]
        · rcases pass_mem h with h | h
          · exact .inl h
          · right; simp [h]
theorem okx_saved {x : Ac} (hx : Okx x) (hs : x.store.length ≤ 24) {p : Pr} (hp : p.ok) : Okx (savedA x p) := by
  obtain ⟨⟨u1, u2, u3, u4, u5, u6⟩, g1, g2⟩ := hx
  have hlen := pass_len (key := pkey) (p := p) (decide (p.v = 0)) x.store
  exact ⟨⟨u1, u2, u3, u4, by show (pass pkey p (decide (p.v = 0)) x.store).length ≤ maxLen; unfold maxLen; omega, fun q hq => by
    rcases pass_mem hq with rfl | h
    · exact hp
    · exact u6 q h⟩, g1, by show (pass pkey p (decide (p.v = 0)) x.store).length ≤ 1000000; omega⟩
end Go.Proofs.Ytiggambibcohcaa

