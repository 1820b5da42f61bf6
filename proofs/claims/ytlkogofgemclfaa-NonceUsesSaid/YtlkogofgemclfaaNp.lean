/-
  The law NonceWords, walked; how words are read.
-/
import Derived.Test.YtlkogofgemclfaaNo
import Derived.Test.YtlkogofgemclfaaAvZ
import Derived.Test.YtlkogofgemclfaaRow
namespace Go.Proofs.Ytlkogofgemclfaa
open Go.RowKit
set_option linter.unusedVariables false
set_option linter.unusedSimpArgs false
def wdC (w : Wd) : List Value := [.int .u64 w.a, .int .u64 w.b, .int .u64 w.c, .int .u64 w.d]
def qC (x : Int) : List Value := [.int .u64 x]
theorem dec_word {P : Program} {t e : TypeId} (ht : P.underlying t = some (.array 4 e)) (hc : P.cellsOf t = 4 * 1) (he : P.underlying e = some (.int .u64)) (hce : P.cellsOf e = 1) : Dec P t 4 wdC Wd.ok :=
  dec_map (dec_arr (n := 4) ht hc (by omega) (dec_u64 he hce) (fun _ => rfl)) fun l ⟨hl, hg⟩ => by
    match l, hl with
    | [x, y, z, u], _ =>
      have h1 := hg x (by simp)
      have h2 := hg y (by simp)
      have h3 := hg z (by simp)
      have h4 := hg u (by simp)
      refine ⟨⟨x, y, z, u⟩, by simp [sts, wdC], ⟨by simp only; omega, by simp only; omega⟩, ⟨by simp only; omega, by simp only; omega⟩, ⟨by simp only; omega, by simp only; omega⟩, ⟨by simp only; omega, by simp only; omega⟩⟩
theorem dec_q {P : Program} {t : TypeId} (ht : P.underlying t = some (.int .u64)) (hc : P.cellsOf t = 1) : Dec P t 1 qC U :=
  dec_map (dec_u64 ht hc) fun n h => ⟨(n : Int), rfl, by omega, by omega⟩
theorem law_words {A L : Option Addr} {n c m d N M : Nat} {l : List Wd} {q : List Int} {w : World} (hl : Sl w N 4 A n c (sts wdC l)) (hq : Sl w M 1 L m d (sts qC q)) (okl : ∀ x ∈ l, x.ok) (okq : ∀ x ∈ q, U x) :
    Calls Try.prog 4 #[.slice A n c, .slice L m d] w (RetT w true) := by
  obtain ⟨r1, b1⟩ := RV.of_sl (ι := fun _ => (0, 0, 0)) (g := Wd.pv) hl (by omega) (fun _ => rfl) (fun _ => rfl) (fun a u hu => by simp [wdC] at hu; rcases hu with rfl | rfl | rfl | rfl <;> rfl)
  obtain ⟨r2, b2⟩ := RV.of_sl (ι := fun _ => (0, 0, 0)) (g := qpv) hq (by omega) (fun _ => rfl) (fun _ => rfl) (fun a u hu => by simp [qC] at hu; rcases hu with rfl; rfl)
  refine Fn.law (words_fn false false l q b1 b2 okl okq) (vs := [_, _]) rfl fun j v x hj hx => ?_
  rcases j with _ | _ | j
  · cases hj; cases hx; exact r1
  · cases hj; cases hx; exact r2
  · simp at hj
end Go.Proofs.Ytlkogofgemclfaa
