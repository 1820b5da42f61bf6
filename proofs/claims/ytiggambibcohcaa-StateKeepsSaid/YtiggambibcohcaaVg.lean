/-
  A slot saved, an account laid into a state, as the document has it; reckoned.
-/
import Derived.Test.YtiggambibcohcaaVf
import Derived.Test.YtiggambibcohcaaVd
namespace Go.Proofs.Ytiggambibcohcaa
open Go.RowKit
open Nat (reduceBEq)
set_option linter.unusedVariables false
set_option linter.unusedSimpArgs false
set_option maxRecDepth 20000
set_option maxHeartbeats 2000000
theorem pass_len {α : Type} {key : α → Int} {p : α} : ∀ (laid : Bool) (l : List α), (pass key p laid l).length ≤ l.length + 1
  | laid, [] => by cases laid <;> simp [pass]
  | laid, q :: l => by
    unfold pass
    have h1 := pass_len (key := key) (p := p) laid l
    have h2 := pass_len (key := key) (p := p) true l
    have h3 : (pass key p true l).length ≤ l.length := pass_len_true l
    split
    · simp; omega
    · split <;> simp <;> omega
where
  pass_len_true {α : Type} {key : α → Int} {p : α} : ∀ (l : List α), (pass key p true l).length ≤ l.length
  | [] => by simp [pass]
  | q :: l => by
    unfold pass
    have := pass_len_true (key := key) (p := p) l
    split
    · simp; omega
    · split
      · rename_i h; cases h.1
      · simp; omega
def savedA (x : Ac) (p : Pr) : Ac := ⟨x.a, x.b, x.n, x.code, pass pkey p (decide (p.v = 0)) x.store⟩
end Go.Proofs.Ytiggambibcohcaa

