/-
  The law AddrBack.
-/
import Derived.Test.YtbfbcndphnlgoaaDo
import Derived.Test.YtbfbcndphnlgoaaDv
namespace Go.Proofs.Ytbfbcndphnlgoaa
open Go.RowKit
set_option linter.unusedVariables false
set_option linter.unusedSimpArgs false
theorem law_back {a b : Nat} {W : World} (ha : a < 18446744073709551616) (hb : b < 18446744073709551616) : Calls Try.prog 8 #[.int .u64 (a : Int), .int .u64 (b : Int)] W (RetT W true) := by
  refine Fn.law (back_fn a b ha hb) (vs := [_, _]) rfl fun j v x hj hx => ?_
  rcases j with _ | _ | j
  · cases hj; cases hx; exact .c _ _ (.v _ rfl)
  · cases hj; cases hx; exact .c _ _ (.v _ rfl)
  · simp at hj
end Go.Proofs.Ytbfbcndphnlgoaa
