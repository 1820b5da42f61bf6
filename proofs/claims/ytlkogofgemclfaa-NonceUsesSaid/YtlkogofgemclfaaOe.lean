/-
  The law NonceUses, walked; how nonces, and what is used, are read.
-/
import Derived.Test.YtlkogofgemclfaaOd
import Derived.Test.YtlkogofgemclfaaNp
namespace Go.Proofs.Ytlkogofgemclfaa
open Go.RowKit
set_option linter.unusedVariables false
set_option linter.unusedSimpArgs false
theorem dec_triple {α β γ : Type} {P : Program} {t : TypeId} {f0 f1 f2 : Field} {s0 s1 s2 : Nat} {f : α → List Value} {g : β → List Value} {h : γ → List Value} {G : α → Prop} {G' : β → Prop} {G2 : γ → Prop} (ht : P.underlying t = some (.struct #[f0, f1, f2])) (hc : P.cellsOf t = s0 + (s1 + s2))
    (h0 : Dec P f0.type s0 f G) (h1 : Dec P f1.type s1 g G') (h2 : Dec P f2.type s2 h G2) (o0 : f0.offset = 0) (o1 : f1.offset = s0) (o2 : f2.offset = s0 + s1) : Dec P t (s0 + (s1 + s2)) (fun x : α × β × γ => f x.1 ++ (g x.2.1 ++ h x.2.2)) (fun x => G x.1 ∧ G' x.2.1 ∧ G2 x.2.2) :=
  ⟨hc, fun H enc w base spare held fuel cs x hx => by
    obtain ⟨xs, n, _, _, hlen, hxl, hf⟩ := DataW.trod_struct ht hx
    have e0 := hf 0 f0 rfl
    have e1 := hf 1 f1 rfl
    have e2 := hf 2 f2 rfl
    have hxl' : xs.length = 3 := hxl
    rw [o0, h0.1, List.drop_zero, List.getElem?_eq_getElem (by omega)] at e0
    rw [o1, h1.1, List.getElem?_eq_getElem (by omega)] at e1
    rw [o2, h2.1, List.getElem?_eq_getElem (by omega)] at e2
    obtain ⟨a, ha, ga⟩ := h0.2 H enc w base spare held n _ _ e0
    obtain ⟨b, hb, gb⟩ := h1.2 H enc w base spare held n _ _ e1
    obtain ⟨c, hcc, gc⟩ := h2.2 H enc w base spare held n _ _ e2
    refine ⟨(a, b, c), ?_, ga, gb, gc⟩
    show cs = f a ++ (g b ++ h c)
    rw [← ha, ← hb, ← hcc, List.take_of_length_le (l := cs.drop (s0 + s1)) (by rw [List.length_drop]; omega), ← List.drop_drop, List.take_append_drop, List.take_append_drop]⟩
def n6C (n : N6) : List Value := [.int .u64 n.a, .int .u64 n.b, .int .u64 n.c, .int .u64 n.d, .int .u64 n.e, .int .u64 n.x]
def a5C (n : A5) : List Value := [.int .u64 n.a, .int .u64 n.s, .int .u64 n.b, .int .u64 n.c, .int .u64 n.d]
theorem n6_of {P : Program} {t : TypeId} {x : Nat × Wd × Nat → List Value} {G : Nat × Wd × Nat → Prop} (h : Dec P t 6 x G) (hx : ∀ v, x v = [.int .u64 (v.1 : Int)] ++ (wdC v.2.1 ++ [.int .u64 (v.2.2 : Int)])) (hG : ∀ v, G v → v.1 < 18446744073709551616 ∧ v.2.1.ok ∧ v.2.2 < 18446744073709551616) : Dec P t 6 n6C N6.ok :=
  dec_map h fun v hv => ⟨⟨v.1, v.2.1.a, v.2.1.b, v.2.1.c, v.2.1.d, v.2.2⟩, by rw [hx]; rfl, by
    obtain ⟨h1, ⟨u1, u2, u3, u4⟩, h2⟩ := hG v hv
    exact ⟨⟨by simp only; omega, by simp only; omega⟩, u1, u2, u3, u4, ⟨by simp only; omega, by simp only; omega⟩⟩⟩
theorem a5_of {P : Program} {t : TypeId} {x : Nat × Wd → List Value} {G : Nat × Wd → Prop} (h : Dec P t 5 x G) (hx : ∀ v, x v = [.int .u64 (v.1 : Int)] ++ wdC v.2) (hG : ∀ v, G v → v.1 < 18446744073709551616 ∧ v.2.ok) : Dec P t 5 a5C A5.ok :=
  dec_map h fun v hv => ⟨⟨v.1, v.2.a, v.2.b, v.2.c, v.2.d⟩, by rw [hx]; rfl, by
    obtain ⟨h1, ⟨u1, u2, u3, u4⟩⟩ := hG v hv
    exact ⟨⟨by simp only; omega, by simp only; omega⟩, u1, u2, u3, u4⟩⟩
theorem dec_n6 : Dec Try.prog 38 6 n6C N6.ok :=
  n6_of (dec_triple (s0 := 1) (s1 := 4) (s2 := 1) Try.underlying38 (by kernel_rfl) (dec_u64 Try.underlying27 (by kernel_rfl)) (dec_word Try.underlying29 (by kernel_rfl) Try.underlying26 (by kernel_rfl)) (dec_u64 Try.underlying26 (by kernel_rfl)) rfl rfl rfl) (fun v => rfl) fun v h => h
theorem dec_a5 : Dec Try.prog 31 5 a5C A5.ok :=
  a5_of (dec_pair (s0 := 1) (s1 := 4) Try.underlying31 (by kernel_rfl) (dec_u64 Try.underlying27 (by kernel_rfl)) (dec_word Try.underlying29 (by kernel_rfl) Try.underlying26 (by kernel_rfl)) rfl rfl) (fun v => rfl) fun v h => h
theorem law_uses {A L : Option Addr} {n c m d N M : Nat} {l : List N6} {q : List A5} {w : World} (hl : Sl w N 6 A n c (sts n6C l)) (hq : Sl w M 5 L m d (sts a5C q)) (okl : ∀ x ∈ l, x.ok) (okq : ∀ x ∈ q, x.ok) :
    Calls Try.prog 3 #[.slice A n c, .slice L m d] w (RetT w true) := by
  obtain ⟨r1, b1⟩ := RV.of_sl (ι := fun _ => (0, 0, 0)) (g := N6.pv) hl (by omega) (fun _ => rfl) (fun _ => rfl) (fun a u hu => by simp [n6C] at hu; rcases hu with rfl | rfl | rfl | rfl | rfl | rfl <;> rfl)
  obtain ⟨r2, b2⟩ := RV.of_sl (ι := fun _ => (0, 0, 0)) (g := A5.pv) hq (by omega) (fun _ => rfl) (fun _ => rfl) (fun a u hu => by simp [a5C] at hu; rcases hu with rfl | rfl | rfl | rfl | rfl <;> rfl)
  refine Fn.law (uses_fn false false l q b1 b2 okl okq) (vs := [_, _]) rfl fun j v x hj hx => ?_
  rcases j with _ | _ | j
  · cases hj; cases hx; exact r1
  · cases hj; cases hx; exact r2
  · simp at hj
end Go.Proofs.Ytlkogofgemclfaa
