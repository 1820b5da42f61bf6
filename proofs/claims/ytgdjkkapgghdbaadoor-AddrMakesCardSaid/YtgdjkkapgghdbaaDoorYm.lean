/-
  Sum of the code: the iterator over blocks. Reckoned. (begun)
-/
import Derived.Test.YtgdjkkapgghdbaaDoorYl
import Derived.Sort.LoopGhostIn
namespace Go.Proofs.YtgdjkkapgghdbaaDoor
open Go.RowKit
open Nat (reduceBEq)
set_option linter.unusedVariables false
set_option linter.unusedSimpArgs false
set_option maxRecDepth 20000
set_option maxHeartbeats 2000000
open Go.Lib in
theorem AWR.loop {ro : Option Nat} {P : Program} {σ : St} {Φ : Exit → St → Prop} {c : Code} (n : Nat) (I : Nat → St) (h0 : σ.to (I 0))
    (round : ∀ i, i ≤ n → AWR ro P c (I i) fun ex σ' => match ex with | .normal => i + 1 ≤ n ∧ σ'.to (I (i + 1)) | ex => Φ ex σ') : AWR ro P (.loop c) σ Φ := fun E ι a w hc => by
  obtain ⟨ι0, hc0⟩ := h0 E ι a w hc
  refine wpIn_loop_ghost (fun m a w => m ≤ n ∧ ∃ ι, Conc E ι (I (n - m)) a w) n ⟨Nat.le_refl _, ι0, by rw [Nat.sub_self]; exact hc0⟩ ?_
  rintro m a w ⟨hm, ι, hc⟩
  refine wpIn_mono (round (n - m) (by omega) E ι a w hc) fun ex a' w' => ?_
  rintro ⟨ι', σ', hc', hΦ⟩
  cases ex with
  | normal =>
    obtain ⟨h1, h2⟩ := hΦ
    obtain ⟨ι2, hc2⟩ := h2 E ι' a' w' hc'
    exact ⟨m - 1, by omega, by omega, ι2, by rw [show n - (m - 1) = n - m + 1 by omega]; exact hc2⟩
  | _ => exact ⟨ι', σ', hc', hΦ⟩
open Go.Lib in
theorem yc_ofR {P : Program} {t : Tmp} {assign body : Code} {T0 : List AV} {l : Nat} {x : AV} {H0 H1 : List (Nat × List AV)} (hA : codeR assign = true)
    (h : evC P assign ⟨T0.set t x, H0⟩ fun ex σ1 => ex = .normal ∧ ∀ ro, AWR ro P body σ1 fun ex σ2 => ex = .normal ∧ ∀ r cs, hget H1 r = some cs → hget σ2.H r = some cs) : YC P t assign body T0 l x H0 H1 := by
  intro E v f ts D hED hS hH hv hl hsz hts
  have hlt := (Array.getElem?_eq_some_iff.1 hl).1
  have hne : ∀ r ∈ E.D, (E.ι r).2.1 ≠ 0 → (E.ι r).1 ≠ l := by rw [hED]; exact blk_ne hH hl rfl
  have hv' : RV (Sx E E.ι H0) E.ι E.w v x := hv.mono (fun b hb _ => ⟨⟨.inl hb, fun r cs hr hz => hS r cs b hr hz hb⟩, rfl⟩) fun _ _ => rfl
  have hc0 := (Conc.begin E hED hS hH hsz hts).put (some t) hv'
  refine roundIn_of_wpIn trivial ?_
  refine wpIn_mono (evC_R (ro := some l) assign hA _ _ h E E.ι _ E.w hc0) ?_
  rintro ex a1 w1 ⟨ι1, σ1, hc1, rfl, h2⟩
  have hl1 : w1.heap[l]? = some (.loop (recOf #[t] assign body f ts D)) := (hc1.keep.block l hlt hne).trans hl
  refine ⟨_, run_beginRound hl1 rfl, ?_⟩
  have hc2 := hc1.rebase (.loop { recOf #[t] assign body f ts D with state := .busy }) hl hl1 rfl
  refine wpIn_mono (h2 (some l) _ ι1 _ _ hc2) ?_
  rintro ex a2 w3 ⟨ι2, σ2, hc3, rfl, h3⟩
  have hlb : (E.w.putObj l (.loop { recOf #[t] assign body f ts D with state := .busy })).heap[l]? = some (.loop { recOf #[t] assign body f ts D with state := .busy }) := World.putObj_heap_same hlt
  have hl3 : w3.heap[l]? = some (.loop { recOf #[t] assign body f ts D with state := .busy }) := (hc3.keep.block l (by simpa using hlt) hne).trans hlb
  refine ⟨_, _, run_endRound none hl3, ?_⟩
  have hc4 := hc3.rebase (.loop (recOf #[t] assign body f ts D)) hlb hl3 rfl
  have key : ∀ (w' : World) (hG' : GlobOK w' E.S E.ι E.D), w' = E.w → Conc { E with w := w', hG := hG' } ι2 σ2 a2 (w3.putObj l (.loop (recOf #[t] assign body f ts D))) → Conc E ι2 σ2 a2 (w3.putObj l (.loop (recOf #[t] assign body f ts D))) := by
    rintro _ _ rfl h; exact h
  have hc5 : Conc E ι2 σ2 a2 (w3.putObj l (.loop (recOf #[t] assign body f ts D))) := key _ _ (putObj_back hl) hc4
  have hc6 := hc5.leH h3
  exact ⟨_, ι2, rfl, .c _ _ (.v _ rfl), hc6.heap, hc6.keep⟩
theorem chunk_row (p : List Nat) : Fn Tryd.prog 33 [bsl false p, vi .i64 136] [] (.fn 45 [.ptr 2 0, .ptr 3 0]) [(2, [bsl false p]), (3, [vi .i64 136])] := by
  (refine fn_of Tryd.func33 rfl (by rfl) ?_; simp only [Tryd.ntmps33, List.length_cons, List.length_nil, Nat.reduceAdd, Nat.reduceSub, List.replicate, List.cons_append, List.nil_append])
  (repeat (any_goals (first | ((with_reducible refine evL_one ?_ ?_); rfl; intro K hK; simp only [go_sem]; ((repeat (refine ndI (by first | assumption | omega | rfl) ?_)); refine hK _ ?_; clear hK K)) | (with_reducible first | (refine evL_nil ?_; refine hR _ ?_; clear hR R) | ((first | refine evC_seq ?_ | refine evC_block ?_); intro Ψ hΨ hΨ') | (refine evC_region ?_; intro R hR) | (refine hΨ _ ?_; clear hΨ hΨ' Ψ) | refine evC_skip ?_ | refine evC_ret ?_ | refine evC_exit ?_) | ((with_reducible refine hΨ' _ _ ?_ ?_); (focus (simp; done)); clear hΨ hΨ' Ψ) | ((with_reducible apply evC_cond); rfl; rfl; all_goals (intro hc; first | (cases hc; done) | (try simp only at hc))))))
  all_goals (refine ⟨by simp, ⟨_, ?_, AV.le_refl _⟩, leH_get (by simp [leH, hget])⟩; simp only [Tryd.results33, resL, ldA, oneOf, go_sem])
end Go.Proofs.YtgdjkkapgghdbaaDoor

