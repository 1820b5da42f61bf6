/-
  Bytes as text, and how often a byte stands in a row: what the model's own entries answer, in the words of Base. No program in sight.
-/
import Derived.Test.YtgdjkkapgghdbaaDoorBase
import Derived.Lib.BytesEntry
import Derived.Laws.BytesArg
import Derived.Laws.Externs
import Derived.Shelf.Bytes.SlCountOne
namespace Go.Proofs.YtgdjkkapgghdbaaDoor
open Go.RowKit
set_option linter.unusedVariables false

theorem bytesOf_ints (l : List UInt8) : Lib.bytesOf (l.map fun b => (b.toNat : Int)) = l := by
  simp only [Lib.bytesOf, List.map_map]
  conv => rhs; rw [← List.map_id l]
  apply List.map_congr_left
  intro b _
  simp
theorem strOfNums_ints (l : List UInt8) : strOfNums (l.map fun b => (b.toNat : Int)) = ⟨l.toArray⟩ := by
  unfold strOfNums
  have := bytesOf_ints l
  unfold Lib.bytesOf at this
  rw [this]
theorem Sl.ints {w : World} {B n c : Nat} {b o : Nat} {l : List UInt8} (h : Sl w B 1 (some ⟨b, o, none⟩) n c (u8s l)) :
    ∀ i, i < n → w.cell? ⟨b, o + i, none⟩ = some (.int .u8 ((l.map fun b => (b.toNat : Int)).getD i 0)) := by
  intro i hi
  obtain ⟨b', o', x, hA, _, _, hx, hc⟩ := h.at8 hi
  simp only [Option.some.injEq, Addr.mk.injEq, and_true] at hA
  obtain ⟨rfl, rfl⟩ := hA
  rw [hc]
  simp [List.getD, hx]
theorem conv8 {P : Program} {w : World} {src dst e : TypeId} (hs : P.underlying src = some (.slice e)) (he : P.underlying e = some (.int .u8)) (hd : P.underlying dst = some .string)
    {B n c : Nat} {A : Option Addr} {l : List UInt8} (h : Sl w B 1 A n c (u8s l)) : (convert src dst (.slice A n c)).run P w = .ok (.string ⟨l.toArray⟩) w := by
  rcases Nat.eq_zero_or_pos n with h0 | h0
  · subst h0
    obtain rfl : l = [] := List.eq_nil_of_length_eq_zero h.len8
    rw [run_convert_bytes_string w src dst e _ 0 c hs he hd]
    cases A with
    | none => simp [Conv.bytesToString]; rfl
    | some a => rw [run_bytesToString w a 0 c [] (run_loadCells_list w a [] (by simp))]; rfl
  · obtain ⟨b, o, rfl, _, _⟩ := h.cells h0
    rw [run_convert_bytes_arg w src e hs he b o n c _ (by rw [List.length_map]; exact h.len8) h.ints dst hd, strOfNums_ints]
theorem str_eq (l r : List UInt8) : ((⟨l.toArray⟩ : ByteArray) = ⟨r.toArray⟩) ↔ l = r := by
  constructor
  · intro h
    have := congrArg (fun b : ByteArray => b.data.toList) h
    simpa using this
  · rintro rfl; rfl
end Go.Proofs.YtgdjkkapgghdbaaDoor

