/-
  Something laid into a row in one pass; copies, other balances and slots as the document has them; reckoned.
-/
import Derived.Test.YtiggambibcohcaaWu
import Derived.Test.YtiggambibcohcaaWn
import Derived.Test.YtiggambibcohcaaAvW
import Derived.Test.YtiggambibcohcaaSa
import Derived.Test.YtiggambibcohcaaUa
namespace Go.Proofs.Ytiggambibcohcaa
open Go.RowKit
open Nat (reduceBEq)
set_option linter.unusedVariables false
set_option linter.unusedSimpArgs false
set_option maxRecDepth 20000
set_option maxHeartbeats 2000000
section
variable {α : Type} (key : α → Int)
def pass (p : α) : Bool → List α → List α
  | laid, [] => if laid then [] else [p]
  | laid, q :: l => if key q = key p then pass p laid l else if laid = false ∧ key p < key q then p :: q :: pass p true l else q :: pass p laid l
variable {key}
theorem pass_true {p : α} : ∀ {l : List α}, (∀ x ∈ l, key x ≠ key p) → pass key p true l = l
  | [], _ => rfl
  | q :: l, h => by
    unfold pass
    rw [if_neg (h q (by simp)), if_neg (by simp), pass_true fun x hx => h x (by simp [hx])]
theorem pass_lay {p : α} : ∀ {l : List α} (laid : Bool), Rises key l → pass key p laid l = lay key (key p) (if laid then none else some p) l
  | [], laid, _ => by cases laid <;> rfl
  | q :: l, laid, h => by
    obtain ⟨l1, l2⟩ := List.pairwise_cons.1 h
    unfold pass lay
    rcases Int.lt_trichotomy (key q) (key p) with hlt | heq | hgt
    · rw [if_neg (show ¬ key q = key p by omega), if_neg (show ¬ (laid = false ∧ key p < key q) by omega), if_pos hlt, pass_lay laid l2]
    · rw [if_pos heq, if_neg (show ¬ key q < key p by omega), if_pos heq]
      have gt : ∀ x ∈ l, key p < key x := fun x hx => by have := l1 x hx; omega
      cases laid with
      | true => rw [pass_true fun x hx => by have := gt x hx; omega]; rfl
      | false =>
        rw [pass_lay false l2]
        cases l with
        | nil => rfl
        | cons y l =>
          have := gt y (by simp)
          unfold lay
          rw [if_neg (show ¬ key y < key p by omega), if_neg (show ¬ key y = key p by omega)]
    · have gt : ∀ x ∈ l, key x ≠ key p := fun x hx => by have := l1 x hx; omega
      rw [if_neg (show ¬ key q = key p by omega), if_neg (show ¬ key q < key p by omega), if_neg (show ¬ key q = key p by omega)]
      cases laid with
      | true => rw [if_neg (by simp), pass_true gt]; rfl
      | false => rw [if_pos ⟨rfl, hgt⟩, pass_true gt]; rfl
end
end Go.Proofs.Ytiggambibcohcaa

