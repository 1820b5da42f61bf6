/-
  No cell of these rows narrows 'for every input' (looked for: loops, veiled, ifaces, maps, wideKeys, modest, calm, conditions, laid).
  DERIVED. THE GIVEN ROWS OF THIS SEAT. 7 by the template 'for every input the law returns true; each argument reads behind the call as it read before'; 0 by the template 'total and deterministic' (their statements: YtlkogofgemclfaaTotals.lean).
  GIVEN WITH THE SEED: the statements are not yours to turn. If you find one false, say at which input.
  Laid BY PROGRAM, IN A SANDBOX (cutbox-rows.mjs): the forced cells as the released guide's own fill.sh prints them over the translation c11ee04aeefc441f… (all of the seat's roots in one cut). By AI agents, Wed Nov 11 2026. No macro, syntax, notation, axiom, sorry.
-/
import Derived.Test.YtlkogofgemclfaaChecked
import GoSem.Claim
import GoSem.ClaimJoined
import GoSem.ClaimMapViews
import Derived.JoinedTies
import Derived.KernelRfl
namespace Go.Proofs.Ytlkogofgemclfaa
/- THE CELL 'sum', in the pinned program and in every row, IS THE sha256 OF THE DUMP (.gsa) THAT YtlkogofgemclfaaProg.lean LOADS. Nothing in Lean hashes anything: it is a label: what it is worth is what the hold of that sum in a sandbox is worth. -/
noncomputable def Try.pinned : Pinned := { name := "ytlkogofgemclfaa", sum := "c11ee04aeefc441fe52da126bc9122ae04d60a38264d426b1b7ff45abfde3c12", checked := Try.checked }
namespace Rows
def none {H : Type} : Left H := { results := [], args := [] }

/-- 'sheaferlaw08.NonceUses': WHATEVER THE INPUT: true; the input reads as it did. -/
def nonceUsesSpec : ChangeSpec := { name := "nonceUses", fn := fun _ => fun
  | [d1, d2] => { results := [.lit (.bool true)], args := [d1, d2] }
  | _ => none }
def nonceUsesRow : OpenClaim := { program := "ytlkogofgemclfaa", sum := "c11ee04aeefc441fe52da126bc9122ae04d60a38264d426b1b7ff45abfde3c12", func := "sheafer/sheaferlaw08.NonceUses", spec := "nonceUses", inPlace := ["slices.overlaps[sheafer/api.Nonce]"], unfollowed := true, recurses := true, plainKeys := false, apart := false }
def NonceUsesSaid : Prop := nonceUsesRow.holds Try.pinned (OpenSpec.ofChange nonceUsesSpec)

/-- ITS FALSE NEIGHBOUR: 'it returns false'. Refute it at one input. -/
def nonceUsesWrong : ChangeSpec := { name := "nonceUses", fn := fun _ => fun
  | [d1, d2] => { results := [.lit (.bool false)], args := [d1, d2] }
  | _ => none }
def NonceUsesWrongFalsely : Prop := nonceUsesRow.holds Try.pinned (OpenSpec.ofChange nonceUsesWrong)

/-- 'sheaferlaw08.NonceWords': WHATEVER THE INPUT: true; the input reads as it did. -/
def nonceWordsSpec : ChangeSpec := { name := "nonceWords", fn := fun _ => fun
  | [d1, d2] => { results := [.lit (.bool true)], args := [d1, d2] }
  | _ => none }
def nonceWordsRow : OpenClaim := { program := "ytlkogofgemclfaa", sum := "c11ee04aeefc441fe52da126bc9122ae04d60a38264d426b1b7ff45abfde3c12", func := "sheafer/sheaferlaw08.NonceWords", spec := "nonceWords", inPlace := ["slices.overlaps[sheafer/api.Nonce]"], unfollowed := true, recurses := true, plainKeys := false, apart := false }
def NonceWordsSaid : Prop := nonceWordsRow.holds Try.pinned (OpenSpec.ofChange nonceWordsSpec)

/-- ITS FALSE NEIGHBOUR: 'it returns false'. Refute it at one input. -/
def nonceWordsWrong : ChangeSpec := { name := "nonceWords", fn := fun _ => fun
  | [d1, d2] => { results := [.lit (.bool false)], args := [d1, d2] }
  | _ => none }
def NonceWordsWrongFalsely : Prop := nonceWordsRow.holds Try.pinned (OpenSpec.ofChange nonceWordsWrong)

/-- 'sheaferlaw08.NonceMost': WHATEVER THE INPUT: true; the input reads as it did. -/
def nonceMostSpec : ChangeSpec := { name := "nonceMost", fn := fun _ => fun
  | [d1, d2] => { results := [.lit (.bool true)], args := [d1, d2] }
  | _ => none }
def nonceMostRow : OpenClaim := { program := "ytlkogofgemclfaa", sum := "c11ee04aeefc441fe52da126bc9122ae04d60a38264d426b1b7ff45abfde3c12", func := "sheafer/sheaferlaw08.NonceMost", spec := "nonceMost", inPlace := ["slices.overlaps[sheafer/api.Nonce]"], unfollowed := true, recurses := true, plainKeys := false, apart := false }
def NonceMostSaid : Prop := nonceMostRow.holds Try.pinned (OpenSpec.ofChange nonceMostSpec)

/-- ITS FALSE NEIGHBOUR: 'it returns false'. Refute it at one input. -/
def nonceMostWrong : ChangeSpec := { name := "nonceMost", fn := fun _ => fun
  | [d1, d2] => { results := [.lit (.bool false)], args := [d1, d2] }
  | _ => none }
def NonceMostWrongFalsely : Prop := nonceMostRow.holds Try.pinned (OpenSpec.ofChange nonceMostWrong)

/-- 'sheaferlaw08.NonceOnce': WHATEVER THE INPUT: true; the input reads as it did. -/
def nonceOnceSpec : ChangeSpec := { name := "nonceOnce", fn := fun _ => fun
  | [d] => { results := [.lit (.bool true)], args := [d] }
  | _ => none }
def nonceOnceRow : OpenClaim := { program := "ytlkogofgemclfaa", sum := "c11ee04aeefc441fe52da126bc9122ae04d60a38264d426b1b7ff45abfde3c12", func := "sheafer/sheaferlaw08.NonceOnce", spec := "nonceOnce", inPlace := ["slices.overlaps[sheafer/api.Nonce]"], unfollowed := true, recurses := true, plainKeys := false, apart := false }
def NonceOnceSaid : Prop := nonceOnceRow.holds Try.pinned (OpenSpec.ofChange nonceOnceSpec)

/-- ITS FALSE NEIGHBOUR: 'it returns false'. Refute it at one input. -/
def nonceOnceWrong : ChangeSpec := { name := "nonceOnce", fn := fun _ => fun
  | [d] => { results := [.lit (.bool false)], args := [d] }
  | _ => none }
def NonceOnceWrongFalsely : Prop := nonceOnceRow.holds Try.pinned (OpenSpec.ofChange nonceOnceWrong)

/-- 'sheaferlaw08.NonceBack': WHATEVER THE INPUT: true; the input reads as it did. -/
def nonceBackSpec : ChangeSpec := { name := "nonceBack", fn := fun _ => fun
  | [d1, d2] => { results := [.lit (.bool true)], args := [d1, d2] }
  | _ => none }
def nonceBackRow : OpenClaim := { program := "ytlkogofgemclfaa", sum := "c11ee04aeefc441fe52da126bc9122ae04d60a38264d426b1b7ff45abfde3c12", func := "sheafer/sheaferlaw08.NonceBack", spec := "nonceBack", inPlace := ["slices.overlaps[sheafer/api.Nonce]", "math/bits.Add64"], unfollowed := true, recurses := true, plainKeys := false, apart := false }
def NonceBackSaid : Prop := nonceBackRow.holds Try.pinned (OpenSpec.ofChange nonceBackSpec)

/-- ITS FALSE NEIGHBOUR: 'it returns false'. Refute it at one input. -/
def nonceBackWrong : ChangeSpec := { name := "nonceBack", fn := fun _ => fun
  | [d1, d2] => { results := [.lit (.bool false)], args := [d1, d2] }
  | _ => none }
def NonceBackWrongFalsely : Prop := nonceBackRow.holds Try.pinned (OpenSpec.ofChange nonceBackWrong)

/-- 'sheaferlaw08.NonceListed': WHATEVER THE INPUT: true; the input reads as it did. -/
def nonceListedSpec : ChangeSpec := { name := "nonceListed", fn := fun _ => fun
  | [d1, d2] => { results := [.lit (.bool true)], args := [d1, d2] }
  | _ => none }
def nonceListedRow : OpenClaim := { program := "ytlkogofgemclfaa", sum := "c11ee04aeefc441fe52da126bc9122ae04d60a38264d426b1b7ff45abfde3c12", func := "sheafer/sheaferlaw08.NonceListed", spec := "nonceListed", inPlace := ["slices.overlaps[sheafer/api.Nonce]"], unfollowed := true, recurses := true, plainKeys := false, apart := false }
def NonceListedSaid : Prop := nonceListedRow.holds Try.pinned (OpenSpec.ofChange nonceListedSpec)

/-- ITS FALSE NEIGHBOUR: 'it returns false'. Refute it at one input. -/
def nonceListedWrong : ChangeSpec := { name := "nonceListed", fn := fun _ => fun
  | [d1, d2] => { results := [.lit (.bool false)], args := [d1, d2] }
  | _ => none }
def NonceListedWrongFalsely : Prop := nonceListedRow.holds Try.pinned (OpenSpec.ofChange nonceListedWrong)

/-- 'sheaferlaw08.NonceTells': WHATEVER THE INPUT: true; the input reads as it did. -/
def nonceTellsSpec : ChangeSpec := { name := "nonceTells", fn := fun _ => fun
  | [d1, d2] => { results := [.lit (.bool true)], args := [d1, d2] }
  | _ => none }
def nonceTellsRow : OpenClaim := { program := "ytlkogofgemclfaa", sum := "c11ee04aeefc441fe52da126bc9122ae04d60a38264d426b1b7ff45abfde3c12", func := "sheafer/sheaferlaw08.NonceTells", spec := "nonceTells", inPlace := ["slices.overlaps[sheafer/api.Nonce]"], unfollowed := true, recurses := true, plainKeys := false, apart := false }
def NonceTellsSaid : Prop := nonceTellsRow.holds Try.pinned (OpenSpec.ofChange nonceTellsSpec)

/-- ITS FALSE NEIGHBOUR: 'it returns false'. Refute it at one input. -/
def nonceTellsWrong : ChangeSpec := { name := "nonceTells", fn := fun _ => fun
  | [d1, d2] => { results := [.lit (.bool false)], args := [d1, d2] }
  | _ => none }
def NonceTellsWrongFalsely : Prop := nonceTellsRow.holds Try.pinned (OpenSpec.ofChange nonceTellsWrong)

/- THE SECOND FORM. 'bulk': how many values and letters a reading holds, each counted each time it is reached (what is shared counts as often as it is met; a slice's spare places count too). A statement '..UptoSaid' is the law's where the arguments, and the package variables that the reading takes, are together of bulk at most 1048576: NARROWER than '..Said'. Prove '..Said' where nothing that the law and all that it calls make is longer than what came in: it says more and counts as full. Else prove '..UptoSaid'. A law counts once. -/
mutual
def uptoBulk {H : Type} : DataW H → Nat
  | .lit (.string bytes) => bytes.length + 1
  | .lit _ => 1
  | .nil => 1
  | .ptr d => uptoBulk d + 1
  | .slice elems spare => uptoBulkAll elems + uptoBulkAll spare + 1
  | .agg parts => uptoBulkAll parts + 1
  | .iface _ d => uptoBulk d + 1
  | .map entries => uptoBulkEntries entries + 1
  | .held _ => 1
def uptoBulkAll {H : Type} : List (DataW H) → Nat
  | [] => 0
  | d :: r => uptoBulk d + uptoBulkAll r
def uptoBulkEntries {H : Type} : List (Lit × DataW H) → Nat
  | [] => 0
  | x :: r => uptoBulkEntry x + uptoBulkEntries r
def uptoBulkEntry {H : Type} : Lit × DataW H → Nat
  | (.string bytes, d) => bytes.length + uptoBulk d + 1
  | (_, d) => uptoBulk d + 1
 end
def uptoSmall : (H : Type) → List (DataW H) → Bool := fun _ ds => decide (uptoBulkAll ds ≤ 1048576)
def OpenSpec.upto (s : _root_.Go.ChangeSpec) : _root_.Go.OpenSpec := { _root_.Go.OpenSpec.ofChange s with cond := some uptoSmall }

/-- 'sheaferlaw08.NonceUses', WHERE WHAT IT READS IS OF BULK AT MOST 1048576: true; the input reads as it did. -/
def nonceUsesUptoRow : OpenClaim := { program := "ytlkogofgemclfaa", sum := "c11ee04aeefc441fe52da126bc9122ae04d60a38264d426b1b7ff45abfde3c12", func := "sheafer/sheaferlaw08.NonceUses", spec := "nonceUses", inPlace := ["slices.overlaps[sheafer/api.Nonce]"], unfollowed := true, recurses := true, plainKeys := false, apart := false, narrowed := true }
def NonceUsesUptoSaid : Prop := nonceUsesUptoRow.holds Try.pinned (OpenSpec.upto nonceUsesSpec)

/-- 'sheaferlaw08.NonceWords', WHERE WHAT IT READS IS OF BULK AT MOST 1048576: true; the input reads as it did. -/
def nonceWordsUptoRow : OpenClaim := { program := "ytlkogofgemclfaa", sum := "c11ee04aeefc441fe52da126bc9122ae04d60a38264d426b1b7ff45abfde3c12", func := "sheafer/sheaferlaw08.NonceWords", spec := "nonceWords", inPlace := ["slices.overlaps[sheafer/api.Nonce]"], unfollowed := true, recurses := true, plainKeys := false, apart := false, narrowed := true }
def NonceWordsUptoSaid : Prop := nonceWordsUptoRow.holds Try.pinned (OpenSpec.upto nonceWordsSpec)

/-- 'sheaferlaw08.NonceMost', WHERE WHAT IT READS IS OF BULK AT MOST 1048576: true; the input reads as it did. -/
def nonceMostUptoRow : OpenClaim := { program := "ytlkogofgemclfaa", sum := "c11ee04aeefc441fe52da126bc9122ae04d60a38264d426b1b7ff45abfde3c12", func := "sheafer/sheaferlaw08.NonceMost", spec := "nonceMost", inPlace := ["slices.overlaps[sheafer/api.Nonce]"], unfollowed := true, recurses := true, plainKeys := false, apart := false, narrowed := true }
def NonceMostUptoSaid : Prop := nonceMostUptoRow.holds Try.pinned (OpenSpec.upto nonceMostSpec)

/-- 'sheaferlaw08.NonceOnce', WHERE WHAT IT READS IS OF BULK AT MOST 1048576: true; the input reads as it did. -/
def nonceOnceUptoRow : OpenClaim := { program := "ytlkogofgemclfaa", sum := "c11ee04aeefc441fe52da126bc9122ae04d60a38264d426b1b7ff45abfde3c12", func := "sheafer/sheaferlaw08.NonceOnce", spec := "nonceOnce", inPlace := ["slices.overlaps[sheafer/api.Nonce]"], unfollowed := true, recurses := true, plainKeys := false, apart := false, narrowed := true }
def NonceOnceUptoSaid : Prop := nonceOnceUptoRow.holds Try.pinned (OpenSpec.upto nonceOnceSpec)

/-- 'sheaferlaw08.NonceBack', WHERE WHAT IT READS IS OF BULK AT MOST 1048576: true; the input reads as it did. -/
def nonceBackUptoRow : OpenClaim := { program := "ytlkogofgemclfaa", sum := "c11ee04aeefc441fe52da126bc9122ae04d60a38264d426b1b7ff45abfde3c12", func := "sheafer/sheaferlaw08.NonceBack", spec := "nonceBack", inPlace := ["slices.overlaps[sheafer/api.Nonce]", "math/bits.Add64"], unfollowed := true, recurses := true, plainKeys := false, apart := false, narrowed := true }
def NonceBackUptoSaid : Prop := nonceBackUptoRow.holds Try.pinned (OpenSpec.upto nonceBackSpec)

/-- 'sheaferlaw08.NonceListed', WHERE WHAT IT READS IS OF BULK AT MOST 1048576: true; the input reads as it did. -/
def nonceListedUptoRow : OpenClaim := { program := "ytlkogofgemclfaa", sum := "c11ee04aeefc441fe52da126bc9122ae04d60a38264d426b1b7ff45abfde3c12", func := "sheafer/sheaferlaw08.NonceListed", spec := "nonceListed", inPlace := ["slices.overlaps[sheafer/api.Nonce]"], unfollowed := true, recurses := true, plainKeys := false, apart := false, narrowed := true }
def NonceListedUptoSaid : Prop := nonceListedUptoRow.holds Try.pinned (OpenSpec.upto nonceListedSpec)

/-- 'sheaferlaw08.NonceTells', WHERE WHAT IT READS IS OF BULK AT MOST 1048576: true; the input reads as it did. -/
def nonceTellsUptoRow : OpenClaim := { program := "ytlkogofgemclfaa", sum := "c11ee04aeefc441fe52da126bc9122ae04d60a38264d426b1b7ff45abfde3c12", func := "sheafer/sheaferlaw08.NonceTells", spec := "nonceTells", inPlace := ["slices.overlaps[sheafer/api.Nonce]"], unfollowed := true, recurses := true, plainKeys := false, apart := false, narrowed := true }
def NonceTellsUptoSaid : Prop := nonceTellsUptoRow.holds Try.pinned (OpenSpec.upto nonceTellsSpec)

end Rows
end Go.Proofs.Ytlkogofgemclfaa
