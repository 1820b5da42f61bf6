/-
  The five deeds as the document has them; reckoned.
-/
import Derived.Test.YtmibmodibicibaaMd
import Derived.Test.YtmibmodibicibaaMe
import Derived.Test.YtmibmodibicibaaMh
namespace Go.Proofs.Ytmibmodibicibaa
open Go.RowKit
open Nat (reduceBEq)
set_option linter.unusedVariables false
set_option linter.unusedSimpArgs false
set_option maxRecDepth 20000
set_option maxHeartbeats 2000000
theorem rput_fn (ex : Bool) (l : List Hd) (hk : okL l = true) (ok : ∀ y ∈ l, y.ok) (h : Hd) (hh : h.ok) : Fn Try.prog 51 [lg ex l, hA h] [] (.tup [lg false (if putE (putL l h) = 0 then putL l h else []), vi .i64 (putE (putL l h))]) [] := by
  have hl := okL_len hk
  have hp := lp_put (okL_srt hk) h
  generalize putL l h = M at hp ⊢
  by_cases c : putE M = 0
  · rw [if_pos c, c]
    have h1 := put_row ex l (by omega) ok h hh M hp _ _ (.inr ⟨c, rfl, rfl⟩)
    have h2 := Fn.frzG (pcs := M.flatMap Hd.pv) h1
    simpa [AV.frz, AV.frzL, flat_length hd_len, -List.length_flatMap] using h2
  · rw [if_neg c]
    exact (put_row ex l (by omega) ok h hh M hp _ _ (.inl ⟨c, rfl, rfl⟩)).res fun _ _ _ _ => imp_tup
theorem rput5_fn (ex : Bool) (l : List Hd) (hk : okL l = true) (ok : ∀ y ∈ l, y.ok) (a : Int) (p s : Nat) (d f : Int) (hh : (⟨a, p, s, d, f⟩ : Hd).ok) : Fn Try.prog 51 [lg ex l, h11 a p s d f] [] (.tup [lg false (if putE (putL l ⟨a, p, s, d, f⟩) = 0 then putL l ⟨a, p, s, d, f⟩ else []), vi .i64 (putE (putL l ⟨a, p, s, d, f⟩))]) [] := rput_fn ex l hk ok _ hh
theorem rfind_fn (ex : Bool) (l : List Hd) (hk : okL l = true) (a : Int) {b p d f : _} {s : Nat} (e : findH l a = ⟨b, p, s, d, f⟩) : Fn Try.prog 49 [lg ex l, vi .u64 a] [] (h11 b p s d f) [] := by
  have hl := okL_len hk
  have h := reffind_fn ex l (by omega) a
  rw [fdH_eq (okL_srt hk), e] at h
  exact h
theorem rdep_fn (ex : Bool) (l : List Hd) (hk : okL l = true) (ok : ∀ y ∈ l, y.ok) (a : Int) (ua : U a) (n : Nat) (hn : n < WW) : Fn Try.prog 25 [lg ex l, vi .u64 a, wN n] [] (.tup [lg false (if fitsE l a n = 0 then putL l (depH (findH l a) n) else []), vi .i64 (fitsE l a n)]) [] := by
  have fo := findH_ok ok ua
  have sm := dep_same hk a n
  rw [sm]
  clear sm
  obtain ⟨⟨b, p, s, d, f⟩, hf⟩ : ∃ h, findH l a = h := ⟨_, rfl⟩
  have fd := rfind_fn ex l hk a hf
  rw [hf] at fo ⊢
  clear hf
  obtain ⟨ub, up, us, ud, uf⟩ := fo
  unfold depH
  dsimp only at ub up us ud uf ⊢
  have ad := refadd_fn p n up hn
  have pt := rput5_fn ex l hk ok b ((p + n) % WW) s d f ⟨ub, Nat.mod_lt _ (by decide), us, ud, uf⟩
  by_cases c : WW ≤ p + n
  · rw [if_pos c, if_neg (by decide)]
    rw [decide_eq_true c] at ad
    clear pt
    generalize (p + n) % WW = m at ad
    refine Fn.res ?_ (fun _ _ _ _ => imp_tup)
    (refine fn_of Try.func25 rfl (by rfl) ?_; simp only [Try.ntmps25, List.length_cons, List.length_nil, Nat.reduceAdd, Nat.reduceSub, List.replicate, List.cons_append, List.nil_append])
    (repeat (any_goals (first | ((with_reducible refine evL_call ?_ ?_ ?_); rfl; rfl; intro K hK; ((first | (apply opA_callB (fd); rfl; rfl; rfl; rfl; exact Try.func49) | (apply opA_callB (ad); rfl; rfl; rfl; rfl; exact Try.func50)); kernel_rfl; rfl; (simp only [go_sem]; rfl); (first | rfl | simp [AV.inNL, AV.inN])); (simp only [go_sem]; refine hK _ ?_; clear hK K)) | ((with_reducible refine evL_one ?_ ?_); rfl; intro K hK; simp only [go_sem]; ((repeat (refine ndI (by first | assumption | omega | rfl) ?_)); refine hK _ ?_; clear hK K)) | (with_reducible first | (refine evL_nil ?_; refine hR _ ?_; clear hR R) | ((first | refine evC_seq ?_ | refine evC_block ?_); intro Ψ hΨ hΨ') | (refine evC_region ?_; intro R hR) | (refine hΨ _ ?_; clear hΨ hΨ' Ψ) | refine evC_skip ?_ | refine evC_ret ?_ | refine evC_exit ?_) | ((with_reducible refine hΨ' _ _ ?_ ?_); (focus (simp; done)); clear hΨ hΨ' Ψ) | ((with_reducible apply evC_cond); rfl; rfl; all_goals (intro hc; first | (cases hc; done) | (try simp only at hc))))))
    all_goals (refine ⟨by simp, ⟨_, ?_, AV.le_refl _⟩, leH_get (by simp [leH, hget])⟩; simp only [Try.results25, resL, ldA, oneOf, go_sem])
  · rw [if_neg c]
    rw [decide_eq_false c] at ad
    generalize (p + n) % WW = m at ad pt ⊢
    generalize (if putE (putL l ⟨b, m, s, d, f⟩) = 0 then putL l ⟨b, m, s, d, f⟩ else []) = M at pt ⊢
    generalize putE (putL l ⟨b, m, s, d, f⟩) = e at pt ⊢
    (refine fn_of Try.func25 rfl (by rfl) ?_; simp only [Try.ntmps25, List.length_cons, List.length_nil, Nat.reduceAdd, Nat.reduceSub, List.replicate, List.cons_append, List.nil_append])
    (repeat (any_goals (first | ((with_reducible refine evL_call ?_ ?_ ?_); rfl; rfl; intro K hK; ((first | (apply opA_callB (fd); rfl; rfl; rfl; rfl; exact Try.func49) | (apply opA_callB (ad); rfl; rfl; rfl; rfl; exact Try.func50) | (apply opA_callB (pt); rfl; rfl; rfl; rfl; exact Try.func51)); kernel_rfl; rfl; (simp only [go_sem]; rfl); (first | rfl | simp [AV.inNL, AV.inN])); (simp only [go_sem]; refine hK _ ?_; clear hK K)) | ((with_reducible refine evL_one ?_ ?_); rfl; intro K hK; simp only [go_sem]; ((repeat (refine ndI (by first | assumption | omega | rfl) ?_)); refine hK _ ?_; clear hK K)) | (with_reducible first | (refine evL_nil ?_; refine hR _ ?_; clear hR R) | ((first | refine evC_seq ?_ | refine evC_block ?_); intro Ψ hΨ hΨ') | (refine evC_region ?_; intro R hR) | (refine hΨ _ ?_; clear hΨ hΨ' Ψ) | refine evC_skip ?_ | refine evC_ret ?_ | refine evC_exit ?_) | ((with_reducible refine hΨ' _ _ ?_ ?_); (focus (simp; done)); clear hΨ hΨ' Ψ) | ((with_reducible apply evC_cond); rfl; rfl; all_goals (intro hc; first | (cases hc; done) | (try simp only at hc))))))
    all_goals (refine ⟨by simp, ⟨_, ?_, AV.le_refl _⟩, leH_get (by simp [leH, hget])⟩; simp only [Try.results25, resL, ldA, oneOf, go_sem])
theorem rwdr_fn (ex : Bool) (l : List Hd) (hk : okL l = true) (ok : ∀ y ∈ l, y.ok) (a : Int) (ua : U a) (n : Nat) (hn : n < WW) : Fn Try.prog 26 [lg ex l, vi .u64 a, wN n] [] (.tup [lg false (if wdrE (findH l a) n = 0 then putL l (wdrH (findH l a) n) else []), vi .i64 (wdrE (findH l a) n)]) [] := by
  have fo := findH_ok ok ua
  have sm := wdr_same hk a n
  rw [sm]
  clear sm
  obtain ⟨⟨b, p, s, d, f⟩, hf⟩ : ∃ h, findH l a = h := ⟨_, rfl⟩
  have fd := rfind_fn ex l hk a hf
  rw [hf] at fo ⊢
  clear hf
  obtain ⟨ub, up, us, ud, uf⟩ := fo
  unfold wdrH
  dsimp only at ub up us ud uf ⊢
  have cm := refcmp_fn p n up hn
  by_cases c : p < n
  · rw [if_pos c, if_neg (by decide)]
    rw [show cmpN p n = -1 by unfold cmpN; rw [if_pos c]] at cm
    refine Fn.res ?_ (fun _ _ _ _ => imp_tup)
    (refine fn_of Try.func26 rfl (by rfl) ?_; simp only [Try.ntmps26, List.length_cons, List.length_nil, Nat.reduceAdd, Nat.reduceSub, List.replicate, List.cons_append, List.nil_append])
    (repeat (any_goals (first | ((with_reducible refine evL_call ?_ ?_ ?_); rfl; rfl; intro K hK; ((first | (apply opA_callB (fd); rfl; rfl; rfl; rfl; exact Try.func49) | (apply opA_callB (cm); rfl; rfl; rfl; rfl; exact Try.func52)); kernel_rfl; rfl; (simp only [go_sem]; rfl); (first | rfl | simp [AV.inNL, AV.inN])); (simp only [go_sem]; refine hK _ ?_; clear hK K)) | ((with_reducible refine evL_one ?_ ?_); rfl; intro K hK; simp only [go_sem]; ((repeat (refine ndI (by first | assumption | omega | rfl) ?_)); refine hK _ ?_; clear hK K)) | (with_reducible first | (refine evL_nil ?_; refine hR _ ?_; clear hR R) | ((first | refine evC_seq ?_ | refine evC_block ?_); intro Ψ hΨ hΨ') | (refine evC_region ?_; intro R hR) | (refine hΨ _ ?_; clear hΨ hΨ' Ψ) | refine evC_skip ?_ | refine evC_ret ?_ | refine evC_exit ?_) | ((with_reducible refine hΨ' _ _ ?_ ?_); (focus (simp; done)); clear hΨ hΨ' Ψ) | ((with_reducible apply evC_cond); rfl; rfl; all_goals (intro hc; first | (cases hc; done) | (try simp only at hc))))))
    all_goals (refine ⟨by simp, ⟨_, ?_, AV.le_refl _⟩, leH_get (by simp [leH, hget])⟩; simp only [Try.results26, resL, ldA, oneOf, go_sem])
  · rw [if_neg c]
    obtain ⟨v, hv, hcd⟩ : ∃ v : Int, cmpN p n = v ∧ decide (v < 0) = false := ⟨_, rfl, decide_eq_false (by unfold cmpN; rw [if_neg c]; split <;> omega)⟩
    rw [hv] at cm
    have sb := refsub_fn p n up hn
    rw [show (p + WW - n) % WW = p - n by rw [show p + WW - n = p - n + WW by omega, Nat.add_mod_right]; exact Nat.mod_eq_of_lt (by omega)] at sb
    have pt := rput5_fn ex l hk ok b (p - n) s d f ⟨ub, by show p - n < WW; omega, us, ud, uf⟩
    generalize decide (p < n) = q at sb
    generalize p - n = m at sb pt ⊢
    generalize (if putE (putL l ⟨b, m, s, d, f⟩) = 0 then putL l ⟨b, m, s, d, f⟩ else []) = M at pt ⊢
    generalize putE (putL l ⟨b, m, s, d, f⟩) = e at pt ⊢
    (refine fn_of Try.func26 rfl (by rfl) ?_; simp only [Try.ntmps26, List.length_cons, List.length_nil, Nat.reduceAdd, Nat.reduceSub, List.replicate, List.cons_append, List.nil_append])
    (repeat (any_goals (first | ((with_reducible refine evL_call ?_ ?_ ?_); rfl; rfl; intro K hK; ((first | (apply opA_callB (fd); rfl; rfl; rfl; rfl; exact Try.func49) | (apply opA_callB (cm); rfl; rfl; rfl; rfl; exact Try.func52) | (apply opA_callB (sb); rfl; rfl; rfl; rfl; exact Try.func53) | (apply opA_callB (pt); rfl; rfl; rfl; rfl; exact Try.func51)); kernel_rfl; rfl; (simp only [go_sem, hcd]; rfl); (first | rfl | simp [AV.inNL, AV.inN])); (simp only [go_sem, hcd]; refine hK _ ?_; clear hK K)) | ((with_reducible refine evL_one ?_ ?_); rfl; intro K hK; simp only [go_sem, hcd]; ((repeat (refine ndI (by first | assumption | omega | rfl) ?_)); refine hK _ ?_; clear hK K)) | (with_reducible first | (refine evL_nil ?_; refine hR _ ?_; clear hR R) | ((first | refine evC_seq ?_ | refine evC_block ?_); intro Ψ hΨ hΨ') | (refine evC_region ?_; intro R hR) | (refine hΨ _ ?_; clear hΨ hΨ' Ψ) | refine evC_skip ?_ | refine evC_ret ?_ | refine evC_exit ?_) | ((with_reducible refine hΨ' _ _ ?_ ?_); (focus (simp; done)); clear hΨ hΨ' Ψ) | ((with_reducible apply evC_cond); rfl; rfl; all_goals (intro hc; first | (cases hc; done) | (try simp only at hc))))))
    all_goals (refine ⟨by simp, ⟨_, ?_, AV.le_refl _⟩, leH_get (by simp [leH, hget])⟩; simp only [Try.results26, resL, ldA, oneOf, go_sem])
theorem rbond_fn (ex : Bool) (l : List Hd) (hk : okL l = true) (ok : ∀ y ∈ l, y.ok) (a : Int) (ua : U a) (n : Nat) (hn : n < WW) (y : Int) (uy : U y) : Fn Try.prog 27 [lg ex l, vi .u64 a, wN n, vi .u64 y] [] (.tup [lg false (if bondE l a (findH l a) n y = 0 then putL l (bondH (findH l a) n y) else []), vi .i64 (bondE l a (findH l a) n y)]) [] := by
  have fo := findH_ok ok ua
  have sm := bond_same hk a n y
  unfold bondE
  rw [sm]
  clear sm
  obtain ⟨⟨b, p, s, d, f⟩, hf⟩ : ∃ h, findH l a = h := ⟨_, rfl⟩
  have fd := rfind_fn ex l hk a hf
  rw [hf] at fo ⊢
  clear hf
  obtain ⟨ub, up, us, ud, uf⟩ := fo
  unfold bondH
  dsimp only at ub up us ud uf ⊢
  have d1 : decide (y < 1) = (y == 0) := by
    unfold U at uy
    by_cases h : y = 0
    · rw [h]; rfl
    · rw [decide_eq_false (by omega), eq_comm]; simpa using h
  cases hd : dly d y with
  | true =>
    rw [if_pos rfl, if_neg (by decide)]
    refine Fn.res ?_ (fun _ _ _ _ => imp_tup)
    unfold dly at hd
    generalize (y == 0) = q1 at d1 hd
    obtain ⟨q2, e2⟩ : ∃ q, decide (y > 1073741824) = q := ⟨_, rfl⟩
    obtain ⟨q3, e3⟩ : ∃ q, decide (y < d) = q := ⟨_, rfl⟩
    rw [e2, e3] at hd
    have cs3 : (q1 = true) ∨ (q1 = false ∧ q2 = true) ∨ (q1 = false ∧ q2 = false ∧ q3 = true) := by
      clear d1 e2 e3
      revert hd; cases q1 <;> cases q2 <;> cases q3 <;> simp
    clear hd
    rcases cs3 with rfl | ⟨rfl, rfl⟩ | ⟨rfl, rfl, rfl⟩
    all_goals (refine fn_of Try.func27 rfl (by rfl) ?_; simp only [Try.ntmps27, List.length_cons, List.length_nil, Nat.reduceAdd, Nat.reduceSub, List.replicate, List.cons_append, List.nil_append])
    all_goals (have W := ndI d1 (ndI e2 e3); (repeat (any_goals (first | ((with_reducible refine evL_call ?_ ?_ ?_); rfl; rfl; intro K hK; ((apply opA_callB (fd); rfl; rfl; rfl; rfl; exact Try.func49); kernel_rfl; rfl; (simp only [go_sem, W]; rfl); (first | rfl | simp [AV.inNL, AV.inN])); (simp only [go_sem, W]; refine hK _ ?_; clear hK K)) | ((with_reducible refine evL_one ?_ ?_); rfl; intro K hK; simp only [go_sem, W]; ((repeat (refine ndI (by first | assumption | omega | rfl) ?_)); refine hK _ ?_; clear hK K)) | (with_reducible first | (refine evL_nil ?_; refine hR _ ?_; clear hR R) | ((first | refine evC_seq ?_ | refine evC_block ?_); intro Ψ hΨ hΨ') | (refine evC_region ?_; intro R hR) | (refine hΨ _ ?_; clear hΨ hΨ' Ψ) | refine evC_skip ?_ | refine evC_ret ?_ | refine evC_exit ?_) | ((with_reducible refine hΨ' _ _ ?_ ?_); (focus (simp; done)); clear hΨ hΨ' Ψ) | ((with_reducible apply evL_unmet); rfl; rfl; rfl; (try simp only [go_sem, W])) | ((with_reducible apply evL_grd); rfl; rfl; rfl; all_goals (intro hb; first | (cases hb; done) | ((try simp only [Bool.not_true, Bool.not_false] at hb); (first | ((with_reducible intro K hK); simp only [go_sem, W]; ((repeat (refine ndI (by first | assumption | omega | rfl) ?_)); refine hK _ ?_; clear hK K)) | ((fail_if_success (with_reducible intro _)); simp only [go_sem, W]))))) | ((with_reducible apply evC_cond); rfl; rfl; all_goals (intro hc; first | (cases hc; done) | (try simp only at hc)))))))
    all_goals (refine ⟨by simp, ⟨_, ?_, AV.le_refl _⟩, leH_get (by simp [leH, hget])⟩; simp only [Try.results27, resL, ldA, oneOf, go_sem])
  | false =>
    simp only [Bool.false_eq_true, if_false]
    obtain ⟨z1, e2, e3⟩ := dly_false hd
    rw [z1] at d1
    clear hd z1
    have n1 := rnone_fn s us
    have n2 := rnone_fn n hn
    by_cases c0 : (decide (s = 0) && decide (n = 0)) = true
    · simp only [if_pos c0, if_neg (show ¬ (172 : Int) = 0 by decide)]
      rw [Bool.and_eq_true] at c0
      rw [c0.1] at n1
      rw [c0.2] at n2
      refine Fn.res ?_ (fun _ _ _ _ => imp_tup)
      (refine fn_of Try.func27 rfl (by rfl) ?_; simp only [Try.ntmps27, List.length_cons, List.length_nil, Nat.reduceAdd, Nat.reduceSub, List.replicate, List.cons_append, List.nil_append])
      (have W := ndI d1 (ndI e2 e3); (repeat (any_goals (first | ((with_reducible refine evL_call ?_ ?_ ?_); rfl; rfl; intro K hK; (first | ((apply opA_callB (fd); rfl; rfl; rfl; rfl; exact Try.func49); kernel_rfl; rfl; (simp only [go_sem, W]; rfl); (first | rfl | simp [AV.inNL, AV.inN])) | ((apply opA_callB (n1); rfl; rfl; rfl; rfl; exact Try.func47); kernel_rfl; rfl; (simp only [go_sem, W]; rfl); (first | rfl | simp [AV.inNL, AV.inN])) | ((apply opA_callB (n2); rfl; rfl; rfl; rfl; exact Try.func47); kernel_rfl; rfl; (simp only [go_sem, W]; rfl); (first | rfl | simp [AV.inNL, AV.inN])) | ((apply opA_callB (n2); rfl; rfl; rfl; rfl; exact Try.func47); kernel_rfl; rfl; (simp only [go_sem, W]; rfl); (first | rfl | simp [AV.inNL, AV.inN]))); (simp only [go_sem, W]; refine hK _ ?_; clear hK K)) | ((with_reducible refine evL_one ?_ ?_); rfl; intro K hK; simp only [go_sem, W]; ((repeat (refine ndI (by first | assumption | omega | rfl) ?_)); refine hK _ ?_; clear hK K)) | (with_reducible first | (refine evL_nil ?_; refine hR _ ?_; clear hR R) | ((first | refine evC_seq ?_ | refine evC_block ?_); intro Ψ hΨ hΨ') | (refine evC_region ?_; intro R hR) | (refine hΨ _ ?_; clear hΨ hΨ' Ψ) | refine evC_skip ?_ | refine evC_ret ?_ | refine evC_exit ?_) | ((with_reducible refine hΨ' _ _ ?_ ?_); (focus (simp; done)); clear hΨ hΨ' Ψ) | ((with_reducible apply evL_unmet); rfl; rfl; rfl; (try simp only [go_sem, W])) | ((with_reducible apply evL_grd); rfl; rfl; rfl; all_goals (intro hb; first | (cases hb; done) | ((try simp only [Bool.not_true, Bool.not_false] at hb); (first | ((with_reducible intro K hK); (first | ((apply opA_callB (n2); rfl; rfl; rfl; rfl; exact Try.func47); kernel_rfl; rfl; (simp only [go_sem, W]; rfl); (first | rfl | simp [AV.inNL, AV.inN])) | skip); simp only [go_sem, W]; ((repeat (refine ndI (by first | assumption | omega | rfl) ?_)); refine hK _ ?_; clear hK K)) | ((fail_if_success (with_reducible intro _)); simp only [go_sem, W]))))) | ((with_reducible apply evC_cond); rfl; rfl; all_goals (intro hc; first | (cases hc; done) | (try simp only at hc)))))))
      all_goals (refine ⟨by simp, ⟨_, ?_, AV.le_refl _⟩, leH_get (by simp [leH, hget])⟩; simp only [Try.results27, resL, ldA, oneOf, go_sem])
    · simp only [if_neg c0]
      have ad := refadd_fn s n us hn
      have pt := rput5_fn ex l hk ok b p ((s + n) % WW) y 0 ⟨ub, up, Nat.mod_lt _ (by decide), uy, (by show U 0; exact ⟨Int.le_refl 0, by decide⟩)⟩
      generalize decide (s = 0) = q1 at n1 c0
      generalize decide (n = 0) = q2 at n2 c0
      have cs3 : (q1 = false) ∨ (q1 = true ∧ q2 = false) := by
        clear n1 n2
        revert c0; cases q1 <;> cases q2 <;> simp
      clear c0
      by_cases c : WW ≤ s + n
      · simp only [if_pos c, if_neg (show ¬ (171 : Int) = 0 by decide)]
        rw [decide_eq_true c] at ad
        clear pt
        generalize (s + n) % WW = m at ad
        refine Fn.res ?_ (fun _ _ _ _ => imp_tup)
        rcases cs3 with rfl | ⟨rfl, rfl⟩
        all_goals (refine fn_of Try.func27 rfl (by rfl) ?_; simp only [Try.ntmps27, List.length_cons, List.length_nil, Nat.reduceAdd, Nat.reduceSub, List.replicate, List.cons_append, List.nil_append])
        all_goals (have W := ndI d1 (ndI e2 e3); (repeat (any_goals (first | ((with_reducible refine evL_call ?_ ?_ ?_); rfl; rfl; intro K hK; (first | ((first | (apply opA_callB (fd); rfl; rfl; rfl; rfl; exact Try.func49) | (apply opA_callB (ad); rfl; rfl; rfl; rfl; exact Try.func50)); kernel_rfl; rfl; (simp only [go_sem, W]; rfl); (first | rfl | simp [AV.inNL, AV.inN])) | ((apply opA_callB (n1); rfl; rfl; rfl; rfl; exact Try.func47); kernel_rfl; rfl; (simp only [go_sem, W]; rfl); (first | rfl | simp [AV.inNL, AV.inN])) | ((apply opA_callB (n2); rfl; rfl; rfl; rfl; exact Try.func47); kernel_rfl; rfl; (simp only [go_sem, W]; rfl); (first | rfl | simp [AV.inNL, AV.inN])) | ((apply opA_callB (n2); rfl; rfl; rfl; rfl; exact Try.func47); kernel_rfl; rfl; (simp only [go_sem, W]; rfl); (first | rfl | simp [AV.inNL, AV.inN]))); (simp only [go_sem, W]; refine hK _ ?_; clear hK K)) | ((with_reducible refine evL_one ?_ ?_); rfl; intro K hK; simp only [go_sem, W]; ((repeat (refine ndI (by first | assumption | omega | rfl) ?_)); refine hK _ ?_; clear hK K)) | (with_reducible first | (refine evL_nil ?_; refine hR _ ?_; clear hR R) | ((first | refine evC_seq ?_ | refine evC_block ?_); intro Ψ hΨ hΨ') | (refine evC_region ?_; intro R hR) | (refine hΨ _ ?_; clear hΨ hΨ' Ψ) | refine evC_skip ?_ | refine evC_ret ?_ | refine evC_exit ?_) | ((with_reducible refine hΨ' _ _ ?_ ?_); (focus (simp; done)); clear hΨ hΨ' Ψ) | ((with_reducible apply evL_unmet); rfl; rfl; rfl; (try simp only [go_sem, W])) | ((with_reducible apply evL_grd); rfl; rfl; rfl; all_goals (intro hb; first | (cases hb; done) | ((try simp only [Bool.not_true, Bool.not_false] at hb); (first | ((with_reducible intro K hK); (first | ((apply opA_callB (n2); rfl; rfl; rfl; rfl; exact Try.func47); kernel_rfl; rfl; (simp only [go_sem, W]; rfl); (first | rfl | simp [AV.inNL, AV.inN])) | skip); simp only [go_sem, W]; ((repeat (refine ndI (by first | assumption | omega | rfl) ?_)); refine hK _ ?_; clear hK K)) | ((fail_if_success (with_reducible intro _)); simp only [go_sem, W]))))) | ((with_reducible apply evC_cond); rfl; rfl; all_goals (intro hc; first | (cases hc; done) | (try simp only at hc)))))))
        all_goals (refine ⟨by simp, ⟨_, ?_, AV.le_refl _⟩, leH_get (by simp [leH, hget])⟩; simp only [Try.results27, resL, ldA, oneOf, go_sem])
      · simp only [if_neg c]
        rw [decide_eq_false c] at ad
        generalize (s + n) % WW = m at ad pt ⊢
        generalize (if putE (putL l ⟨b, p, m, y, 0⟩) = 0 then putL l ⟨b, p, m, y, 0⟩ else []) = M at pt ⊢
        generalize putE (putL l ⟨b, p, m, y, 0⟩) = e at pt ⊢
        rcases cs3 with rfl | ⟨rfl, rfl⟩
        all_goals (refine fn_of Try.func27 rfl (by rfl) ?_; simp only [Try.ntmps27, List.length_cons, List.length_nil, Nat.reduceAdd, Nat.reduceSub, List.replicate, List.cons_append, List.nil_append])
        all_goals (have W := ndI d1 (ndI e2 e3); (repeat (any_goals (first | ((with_reducible refine evL_call ?_ ?_ ?_); rfl; rfl; intro K hK; (first | ((first | (apply opA_callB (fd); rfl; rfl; rfl; rfl; exact Try.func49) | (apply opA_callB (ad); rfl; rfl; rfl; rfl; exact Try.func50) | (apply opA_callB (pt); rfl; rfl; rfl; rfl; exact Try.func51)); kernel_rfl; rfl; (simp only [go_sem, W]; rfl); (first | rfl | simp [AV.inNL, AV.inN])) | ((apply opA_callB (n1); rfl; rfl; rfl; rfl; exact Try.func47); kernel_rfl; rfl; (simp only [go_sem, W]; rfl); (first | rfl | simp [AV.inNL, AV.inN])) | ((apply opA_callB (n2); rfl; rfl; rfl; rfl; exact Try.func47); kernel_rfl; rfl; (simp only [go_sem, W]; rfl); (first | rfl | simp [AV.inNL, AV.inN])) | ((apply opA_callB (n2); rfl; rfl; rfl; rfl; exact Try.func47); kernel_rfl; rfl; (simp only [go_sem, W]; rfl); (first | rfl | simp [AV.inNL, AV.inN]))); (simp only [go_sem, W]; refine hK _ ?_; clear hK K)) | ((with_reducible refine evL_one ?_ ?_); rfl; intro K hK; simp only [go_sem, W]; ((repeat (refine ndI (by first | assumption | omega | rfl) ?_)); refine hK _ ?_; clear hK K)) | (with_reducible first | (refine evL_nil ?_; refine hR _ ?_; clear hR R) | ((first | refine evC_seq ?_ | refine evC_block ?_); intro Ψ hΨ hΨ') | (refine evC_region ?_; intro R hR) | (refine hΨ _ ?_; clear hΨ hΨ' Ψ) | refine evC_skip ?_ | refine evC_ret ?_ | refine evC_exit ?_) | ((with_reducible refine hΨ' _ _ ?_ ?_); (focus (simp; done)); clear hΨ hΨ' Ψ) | ((with_reducible apply evL_unmet); rfl; rfl; rfl; (try simp only [go_sem, W])) | ((with_reducible apply evL_grd); rfl; rfl; rfl; all_goals (intro hb; first | (cases hb; done) | ((try simp only [Bool.not_true, Bool.not_false] at hb); (first | ((with_reducible intro K hK); (first | ((apply opA_callB (n2); rfl; rfl; rfl; rfl; exact Try.func47); kernel_rfl; rfl; (simp only [go_sem, W]; rfl); (first | rfl | simp [AV.inNL, AV.inN])) | skip); simp only [go_sem, W]; ((repeat (refine ndI (by first | assumption | omega | rfl) ?_)); refine hK _ ?_; clear hK K)) | ((fail_if_success (with_reducible intro _)); simp only [go_sem, W]))))) | ((with_reducible apply evC_cond); rfl; rfl; all_goals (intro hc; first | (cases hc; done) | (try simp only at hc)))))))
        all_goals (refine ⟨by simp, ⟨_, ?_, AV.le_refl _⟩, leH_get (by simp [leH, hget])⟩; simp only [Try.results27, resL, ldA, oneOf, go_sem])
theorem runl_fn (ex : Bool) (l : List Hd) (hk : okL l = true) (ok : ∀ y ∈ l, y.ok) (a : Int) (ua : U a) (t : Int) (ut : U t) : Fn Try.prog 28 [lg ex l, vi .u64 a, vi .u64 t] [] (.tup [lg false (if unlE (findH l a) t = 0 then putL l (unlH (findH l a) t) else []), vi .i64 (unlE (findH l a) t)]) [] := by
  have fo := findH_ok ok ua
  have fg := findH_gr hk a
  have sm := unl_same hk a t
  unfold unlE
  obtain ⟨⟨b, p, s, d, f⟩, hf⟩ : ∃ h, findH l a = h := ⟨_, rfl⟩
  have fd := rfind_fn ex l hk a hf
  rw [hf] at fo fg sm ⊢
  clear hf
  obtain ⟨ub, up, us, ud, uf⟩ := fo
  obtain ⟨g1, g2, g3, g4⟩ := fg
  unfold unlH at sm ⊢
  dsimp only at ub up us ud uf g1 g2 g3 g4 sm ⊢
  by_cases c1 : t > 1099511627776
  · rw [if_pos c1, if_neg (by decide)]
    have e1 : decide (t > 1099511627776) = true := decide_eq_true c1
    refine Fn.res ?_ (fun _ _ _ _ => imp_tup)
    (refine fn_of Try.func28 rfl (by rfl) ?_; simp only [Try.ntmps28, List.length_cons, List.length_nil, Nat.reduceAdd, Nat.reduceSub, List.replicate, List.cons_append, List.nil_append])
    (repeat (any_goals (first | ((with_reducible refine evL_call ?_ ?_ ?_); rfl; rfl; intro K hK; ((apply opA_callB (fd); rfl; rfl; rfl; rfl; exact Try.func49); kernel_rfl; rfl; (simp only [go_sem, e1]; rfl); (first | rfl | simp [AV.inNL, AV.inN])); (simp only [go_sem, e1]; refine hK _ ?_; clear hK K)) | ((with_reducible refine evL_one ?_ ?_); rfl; intro K hK; simp only [go_sem, e1]; ((repeat (refine ndI (by first | assumption | omega | rfl) ?_)); refine hK _ ?_; clear hK K)) | (with_reducible first | (refine evL_nil ?_; refine hR _ ?_; clear hR R) | ((first | refine evC_seq ?_ | refine evC_block ?_); intro Ψ hΨ hΨ') | (refine evC_region ?_; intro R hR) | (refine hΨ _ ?_; clear hΨ hΨ' Ψ) | refine evC_skip ?_ | refine evC_ret ?_ | refine evC_exit ?_) | ((with_reducible refine hΨ' _ _ ?_ ?_); (focus (simp; done)); clear hΨ hΨ' Ψ) | ((with_reducible apply evL_unmet); rfl; rfl; rfl; (try simp only [go_sem, e1])) | ((with_reducible apply evL_grd); rfl; rfl; rfl; all_goals (intro hb; first | (cases hb; done) | ((try simp only [Bool.not_true, Bool.not_false] at hb); (first | ((with_reducible intro K hK); simp only [go_sem, e1]; ((repeat (refine ndI (by first | assumption | omega | rfl) ?_)); refine hK _ ?_; clear hK K)) | ((fail_if_success (with_reducible intro _)); simp only [go_sem, e1]))))) | ((with_reducible apply evC_cond); rfl; rfl; all_goals (intro hc; first | (cases hc; done) | (try simp only at hc))))))
    all_goals (refine ⟨by simp, ⟨_, ?_, AV.le_refl _⟩, leH_get (by simp [leH, hget])⟩; simp only [Try.results28, resL, ldA, oneOf, go_sem])
  · rw [if_neg c1]
    have e1 : decide (t > 1099511627776) = false := decide_eq_false c1
    have n1 := rnone_fn s us
    by_cases c2 : s = 0
    · rw [decide_eq_true c2] at n1 ⊢
      simp only [Bool.not_true, Bool.false_and, eq_self, if_true, if_neg (show ¬ (172 : Int) = 0 by decide)]
      refine Fn.res ?_ (fun _ _ _ _ => imp_tup)
      (refine fn_of Try.func28 rfl (by rfl) ?_; simp only [Try.ntmps28, List.length_cons, List.length_nil, Nat.reduceAdd, Nat.reduceSub, List.replicate, List.cons_append, List.nil_append])
      (repeat (any_goals (first | ((with_reducible refine evL_call ?_ ?_ ?_); rfl; rfl; intro K hK; ((first | (apply opA_callB (fd); rfl; rfl; rfl; rfl; exact Try.func49) | (apply opA_callB (n1); rfl; rfl; rfl; rfl; exact Try.func47)); kernel_rfl; rfl; (simp only [go_sem, e1]; rfl); (first | rfl | simp [AV.inNL, AV.inN])); (simp only [go_sem, e1]; refine hK _ ?_; clear hK K)) | ((with_reducible refine evL_one ?_ ?_); rfl; intro K hK; simp only [go_sem, e1]; ((repeat (refine ndI (by first | assumption | omega | rfl) ?_)); refine hK _ ?_; clear hK K)) | (with_reducible first | (refine evL_nil ?_; refine hR _ ?_; clear hR R) | ((first | refine evC_seq ?_ | refine evC_block ?_); intro Ψ hΨ hΨ') | (refine evC_region ?_; intro R hR) | (refine hΨ _ ?_; clear hΨ hΨ' Ψ) | refine evC_skip ?_ | refine evC_ret ?_ | refine evC_exit ?_) | ((with_reducible refine hΨ' _ _ ?_ ?_); (focus (simp; done)); clear hΨ hΨ' Ψ) | ((with_reducible apply evL_unmet); rfl; rfl; rfl; (try simp only [go_sem, e1])) | ((with_reducible apply evL_grd); rfl; rfl; rfl; all_goals (intro hb; first | (cases hb; done) | ((try simp only [Bool.not_true, Bool.not_false] at hb); (first | ((with_reducible intro K hK); simp only [go_sem, e1]; ((repeat (refine ndI (by first | assumption | omega | rfl) ?_)); refine hK _ ?_; clear hK K)) | ((fail_if_success (with_reducible intro _)); simp only [go_sem, e1]))))) | ((with_reducible apply evC_cond); rfl; rfl; all_goals (intro hc; first | (cases hc; done) | (try simp only at hc))))))
      all_goals (refine ⟨by simp, ⟨_, ?_, AV.le_refl _⟩, leH_get (by simp [leH, hget])⟩; simp only [Try.results28, resL, ldA, oneOf, go_sem])
    · have hs0 := sm c2
      rw [decide_eq_false c2] at n1 ⊢
      by_cases c3 : f = 0
      · subst c3
        have e3 : decide ((0 : Int) > 0) = false := by decide
        have ew : IntKind.u64.wrap (t + d) = t + d := by unfold U at ut ud; exact wrU (by omega) (by omega)
        simp only [Bool.not_false, Bool.true_and, beq_self_eq_true, Bool.true_eq_false, if_false, eq_self, if_true]
        have pt := rput5_fn ex l hk ok b p s d (t + d) ⟨ub, up, us, ud, by show U (t + d); unfold U at ut ud ⊢; omega⟩
        rw [hs0, if_pos rfl] at pt
        generalize putL l ⟨b, p, s, d, t + d⟩ = M at pt ⊢
        (refine fn_of Try.func28 rfl (by rfl) ?_; simp only [Try.ntmps28, List.length_cons, List.length_nil, Nat.reduceAdd, Nat.reduceSub, List.replicate, List.cons_append, List.nil_append])
        (repeat (any_goals (first | ((with_reducible refine evL_call ?_ ?_ ?_); rfl; rfl; intro K hK; ((first | (apply opA_callB (fd); rfl; rfl; rfl; rfl; exact Try.func49) | (apply opA_callB (n1); rfl; rfl; rfl; rfl; exact Try.func47) | (apply opA_callB (pt); rfl; rfl; rfl; rfl; exact Try.func51)); kernel_rfl; rfl; (simp only [go_sem, e1, e3, ew]; rfl); (first | rfl | simp [AV.inNL, AV.inN])); (simp only [go_sem, e1, e3, ew]; refine hK _ ?_; clear hK K)) | ((with_reducible refine evL_one ?_ ?_); rfl; intro K hK; simp only [go_sem, e1, e3, ew]; ((repeat (refine ndI (by first | assumption | omega | rfl) ?_)); refine hK _ ?_; clear hK K)) | (with_reducible first | (refine evL_nil ?_; refine hR _ ?_; clear hR R) | ((first | refine evC_seq ?_ | refine evC_block ?_); intro Ψ hΨ hΨ') | (refine evC_region ?_; intro R hR) | (refine hΨ _ ?_; clear hΨ hΨ' Ψ) | refine evC_skip ?_ | refine evC_ret ?_ | refine evC_exit ?_) | ((with_reducible refine hΨ' _ _ ?_ ?_); (focus (simp; done)); clear hΨ hΨ' Ψ) | ((with_reducible apply evL_unmet); rfl; rfl; rfl; (try simp only [go_sem, e1, e3, ew])) | ((with_reducible apply evL_grd); rfl; rfl; rfl; all_goals (intro hb; first | (cases hb; done) | ((try simp only [Bool.not_true, Bool.not_false] at hb); (first | ((with_reducible intro K hK); simp only [go_sem, e1, e3, ew]; ((repeat (refine ndI (by first | assumption | omega | rfl) ?_)); refine hK _ ?_; clear hK K)) | ((fail_if_success (with_reducible intro _)); simp only [go_sem, e1, e3, ew]))))) | ((with_reducible apply evC_cond); rfl; rfl; all_goals (intro hc; first | (cases hc; done) | (try simp only at hc))))))
        all_goals (refine ⟨by simp, ⟨_, ?_, AV.le_refl _⟩, leH_get (by simp [leH, hget])⟩; simp only [Try.results28, resL, ldA, oneOf, go_sem])
      · have e3 : decide (f > 0) = true := by unfold U at uf; exact decide_eq_true (by omega)
        have e4 : (f == 0) = false := by simpa using c3
        simp only [Bool.not_false, Bool.true_and, e4, eq_self, if_true, if_neg (show ¬ (172 : Int) = 0 by decide)]
        refine Fn.res ?_ (fun _ _ _ _ => imp_tup)
        (refine fn_of Try.func28 rfl (by rfl) ?_; simp only [Try.ntmps28, List.length_cons, List.length_nil, Nat.reduceAdd, Nat.reduceSub, List.replicate, List.cons_append, List.nil_append])
        (repeat (any_goals (first | ((with_reducible refine evL_call ?_ ?_ ?_); rfl; rfl; intro K hK; ((first | (apply opA_callB (fd); rfl; rfl; rfl; rfl; exact Try.func49) | (apply opA_callB (n1); rfl; rfl; rfl; rfl; exact Try.func47)); kernel_rfl; rfl; (simp only [go_sem, e1, e3]; rfl); (first | rfl | simp [AV.inNL, AV.inN])); (simp only [go_sem, e1, e3]; refine hK _ ?_; clear hK K)) | ((with_reducible refine evL_one ?_ ?_); rfl; intro K hK; simp only [go_sem, e1, e3]; ((repeat (refine ndI (by first | assumption | omega | rfl) ?_)); refine hK _ ?_; clear hK K)) | (with_reducible first | (refine evL_nil ?_; refine hR _ ?_; clear hR R) | ((first | refine evC_seq ?_ | refine evC_block ?_); intro Ψ hΨ hΨ') | (refine evC_region ?_; intro R hR) | (refine hΨ _ ?_; clear hΨ hΨ' Ψ) | refine evC_skip ?_ | refine evC_ret ?_ | refine evC_exit ?_) | ((with_reducible refine hΨ' _ _ ?_ ?_); (focus (simp; done)); clear hΨ hΨ' Ψ) | ((with_reducible apply evL_unmet); rfl; rfl; rfl; (try simp only [go_sem, e1, e3])) | ((with_reducible apply evL_grd); rfl; rfl; rfl; all_goals (intro hb; first | (cases hb; done) | ((try simp only [Bool.not_true, Bool.not_false] at hb); (first | ((with_reducible intro K hK); simp only [go_sem, e1, e3]; ((repeat (refine ndI (by first | assumption | omega | rfl) ?_)); refine hK _ ?_; clear hK K)) | ((fail_if_success (with_reducible intro _)); simp only [go_sem, e1, e3]))))) | ((with_reducible apply evC_cond); rfl; rfl; all_goals (intro hc; first | (cases hc; done) | (try simp only at hc))))))
        all_goals (refine ⟨by simp, ⟨_, ?_, AV.le_refl _⟩, leH_get (by simp [leH, hget])⟩; simp only [Try.results28, resL, ldA, oneOf, go_sem])
theorem rrel_fn (ex : Bool) (l : List Hd) (hk : okL l = true) (ok : ∀ y ∈ l, y.ok) (a : Int) (ua : U a) (t : Int) (ut : U t) : Fn Try.prog 29 [lg ex l, vi .u64 a, vi .u64 t] [] (.tup [lg false (if relE (findH l a) t = 0 then putL l (relH (findH l a)) else []), wN (if relE (findH l a) t = 0 then (findH l a).s else 0), vi .i64 (relE (findH l a) t)]) [] := by
  have fo := findH_ok ok ua
  have fa := findH_a l a
  have sm := rel_same hk a
  unfold relE
  obtain ⟨⟨b, p, s, d, f⟩, hf⟩ : ∃ h, findH l a = h := ⟨_, rfl⟩
  have fd := rfind_fn ex l hk a hf
  rw [hf] at fo fa sm ⊢
  clear hf
  obtain ⟨ub, up, us, ud, uf⟩ := fo
  unfold relH at sm ⊢
  dsimp only at ub up us ud uf fa sm ⊢
  subst fa
  have z4 : wN 0 = w4 0 0 0 0 := by simp only [wN, l0_zero, l1_zero, l2_zero, l3_zero]
  by_cases c1 : t > 1099511627776
  · simp only [if_pos c1, if_neg (show ¬ (2 : Int) = 0 by decide)]
    rw [z4]
    have e1 : decide (t > 1099511627776) = true := decide_eq_true c1
    refine Fn.res ?_ (fun _ _ _ _ => imp_tup)
    (refine fn_of Try.func29 rfl (by rfl) ?_; simp only [Try.ntmps29, List.length_cons, List.length_nil, Nat.reduceAdd, Nat.reduceSub, List.replicate, List.cons_append, List.nil_append])
    (repeat (any_goals (first | ((with_reducible refine evL_call ?_ ?_ ?_); rfl; rfl; intro K hK; ((apply opA_callB (fd); rfl; rfl; rfl; rfl; exact Try.func49); kernel_rfl; rfl; (simp only [go_sem, e1]; rfl); (first | rfl | simp [AV.inNL, AV.inN])); (simp only [go_sem, e1]; refine hK _ ?_; clear hK K)) | ((with_reducible refine evL_one ?_ ?_); rfl; intro K hK; simp only [go_sem, e1]; ((repeat (refine ndI (by first | assumption | omega | rfl) ?_)); refine hK _ ?_; clear hK K)) | (with_reducible first | (refine evL_nil ?_; refine hR _ ?_; clear hR R) | ((first | refine evC_seq ?_ | refine evC_block ?_); intro Ψ hΨ hΨ') | (refine evC_region ?_; intro R hR) | (refine hΨ _ ?_; clear hΨ hΨ' Ψ) | refine evC_skip ?_ | refine evC_ret ?_ | refine evC_exit ?_) | ((with_reducible refine hΨ' _ _ ?_ ?_); (focus (simp; done)); clear hΨ hΨ' Ψ) | ((with_reducible apply evL_unmet); rfl; rfl; rfl; (try simp only [go_sem, e1])) | ((with_reducible apply evL_grd); rfl; rfl; rfl; all_goals (intro hb; first | (cases hb; done) | ((try simp only [Bool.not_true, Bool.not_false] at hb); (first | ((with_reducible intro K hK); simp only [go_sem, e1]; ((repeat (refine ndI (by first | assumption | omega | rfl) ?_)); refine hK _ ?_; clear hK K)) | ((fail_if_success (with_reducible intro _)); simp only [go_sem, e1]))))) | ((with_reducible apply evC_cond); rfl; rfl; all_goals (intro hc; first | (cases hc; done) | (try simp only at hc))) | ((with_reducible refine evD_nil ?_ ?_); kernel_rfl; (with_reducible refine hR _ ?_); clear hR R) | (((with_reducible apply evD_any); rfl; rfl; (simp only [rdE, rdOf, go_sem, e1]; rfl); (intro τ hA hQ hN; ((try simp only [agree, Op.operands, Call.operands, go_sem, e1, go_sem, List.mem_cons, List.not_mem_nil, forall_eq_or_imp, forall_eq, List.append_toArray, Option.toArray] at hA); (try simp only [go_sem, e1, List.mem_cons, List.not_mem_nil, forall_eq_or_imp, forall_eq] at hQ hN); (first | (revert hA; intro hA) | have hA := trivial); (first | (revert hQ; intro hQ) | have hQ := trivial); (first | (revert hN; intro hN) | have hN := trivial); simp only [go_sem, e1, go_sem, hA, hQ, hN]; (repeat (refine ndI (by first | assumption | omega | rfl) ?_)); (first | apply eff_rd | apply eff_st | apply eff_nw)))); (simp only [St.eff, setO, hputs, go_sem, e1])) | ((with_reducible refine evC_draw ?_ ?_ ?_ ?_); kernel_rfl; kernel_rfl; (first | kernel_rfl | simp [newNames, isNew, St.free, freeH, AV.refsL, AV.refs]); intro R hR))))
    all_goals (refine ⟨by simp, ⟨_, ?_, AV.le_refl _⟩, leH_get (by simp [leH, hget])⟩; simp only [Try.results29, resL, ldA, oneOf, go_sem])
  · simp only [if_neg c1]
    have e1 : decide (t > 1099511627776) = false := decide_eq_false c1
    have n1 := rnone_fn s us
    by_cases c2 : s = 0
    · simp only [if_pos c2, if_neg (show ¬ (172 : Int) = 0 by decide)]
      rw [z4]
      rw [decide_eq_true c2] at n1
      refine Fn.res ?_ (fun _ _ _ _ => imp_tup)
      (refine fn_of Try.func29 rfl (by rfl) ?_; simp only [Try.ntmps29, List.length_cons, List.length_nil, Nat.reduceAdd, Nat.reduceSub, List.replicate, List.cons_append, List.nil_append])
      (repeat (any_goals (first | ((with_reducible refine evL_call ?_ ?_ ?_); rfl; rfl; intro K hK; ((first | (apply opA_callB (fd); rfl; rfl; rfl; rfl; exact Try.func49) | (apply opA_callB (n1); rfl; rfl; rfl; rfl; exact Try.func47)); kernel_rfl; rfl; (simp only [go_sem, e1]; rfl); (first | rfl | simp [AV.inNL, AV.inN])); (simp only [go_sem, e1]; refine hK _ ?_; clear hK K)) | ((with_reducible refine evL_one ?_ ?_); rfl; intro K hK; simp only [go_sem, e1]; ((repeat (refine ndI (by first | assumption | omega | rfl) ?_)); refine hK _ ?_; clear hK K)) | (with_reducible first | (refine evL_nil ?_; refine hR _ ?_; clear hR R) | ((first | refine evC_seq ?_ | refine evC_block ?_); intro Ψ hΨ hΨ') | (refine evC_region ?_; intro R hR) | (refine hΨ _ ?_; clear hΨ hΨ' Ψ) | refine evC_skip ?_ | refine evC_ret ?_ | refine evC_exit ?_) | ((with_reducible refine hΨ' _ _ ?_ ?_); (focus (simp; done)); clear hΨ hΨ' Ψ) | ((with_reducible apply evL_unmet); rfl; rfl; rfl; (try simp only [go_sem, e1])) | ((with_reducible apply evL_grd); rfl; rfl; rfl; all_goals (intro hb; first | (cases hb; done) | ((try simp only [Bool.not_true, Bool.not_false] at hb); (first | ((with_reducible intro K hK); simp only [go_sem, e1]; ((repeat (refine ndI (by first | assumption | omega | rfl) ?_)); refine hK _ ?_; clear hK K)) | ((fail_if_success (with_reducible intro _)); simp only [go_sem, e1]))))) | ((with_reducible apply evC_cond); rfl; rfl; all_goals (intro hc; first | (cases hc; done) | (try simp only at hc))) | ((with_reducible refine evD_nil ?_ ?_); kernel_rfl; (with_reducible refine hR _ ?_); clear hR R) | (((with_reducible apply evD_any); rfl; rfl; (simp only [rdE, rdOf, go_sem, e1]; rfl); (intro τ hA hQ hN; ((try simp only [agree, Op.operands, Call.operands, go_sem, e1, go_sem, List.mem_cons, List.not_mem_nil, forall_eq_or_imp, forall_eq, List.append_toArray, Option.toArray] at hA); (try simp only [go_sem, e1, List.mem_cons, List.not_mem_nil, forall_eq_or_imp, forall_eq] at hQ hN); (first | (revert hA; intro hA) | have hA := trivial); (first | (revert hQ; intro hQ) | have hQ := trivial); (first | (revert hN; intro hN) | have hN := trivial); simp only [go_sem, e1, go_sem, hA, hQ, hN]; (repeat (refine ndI (by first | assumption | omega | rfl) ?_)); (first | apply eff_rd | apply eff_st | apply eff_nw)))); (simp only [St.eff, setO, hputs, go_sem, e1])) | ((with_reducible refine evC_draw ?_ ?_ ?_ ?_); kernel_rfl; kernel_rfl; (first | kernel_rfl | simp [newNames, isNew, St.free, freeH, AV.refsL, AV.refs]); intro R hR))))
      all_goals (refine ⟨by simp, ⟨_, ?_, AV.le_refl _⟩, leH_get (by simp [leH, hget])⟩; simp only [Try.results29, resL, ldA, oneOf, go_sem])
    · have hs0 := sm c2
      simp only [if_neg c2]
      rw [decide_eq_false c2] at n1
      by_cases c3 : f = 0 ∨ t < f
      · simp only [if_pos c3, if_neg (show ¬ (173 : Int) = 0 by decide)]
        rw [z4]
        have e4 : (f == 0) = true ∨ ((f == 0) = false ∧ decide (t < f) = true) := by
          by_cases h : f = 0
          · exact .inl (by simp [h])
          · exact .inr ⟨by simpa using h, decide_eq_true (c3.resolve_left h)⟩
        refine Fn.res ?_ (fun _ _ _ _ => imp_tup)
        rcases e4 with e4 | ⟨e4, e5⟩
        · (refine fn_of Try.func29 rfl (by rfl) ?_; simp only [Try.ntmps29, List.length_cons, List.length_nil, Nat.reduceAdd, Nat.reduceSub, List.replicate, List.cons_append, List.nil_append])
          (repeat (any_goals (first | ((with_reducible refine evL_call ?_ ?_ ?_); rfl; rfl; intro K hK; ((first | (apply opA_callB (fd); rfl; rfl; rfl; rfl; exact Try.func49) | (apply opA_callB (n1); rfl; rfl; rfl; rfl; exact Try.func47)); kernel_rfl; rfl; (simp only [go_sem, e1, e4]; rfl); (first | rfl | simp [AV.inNL, AV.inN])); (simp only [go_sem, e1, e4]; refine hK _ ?_; clear hK K)) | ((with_reducible refine evL_one ?_ ?_); rfl; intro K hK; simp only [go_sem, e1, e4]; ((repeat (refine ndI (by first | assumption | omega | rfl) ?_)); refine hK _ ?_; clear hK K)) | (with_reducible first | (refine evL_nil ?_; refine hR _ ?_; clear hR R) | ((first | refine evC_seq ?_ | refine evC_block ?_); intro Ψ hΨ hΨ') | (refine evC_region ?_; intro R hR) | (refine hΨ _ ?_; clear hΨ hΨ' Ψ) | refine evC_skip ?_ | refine evC_ret ?_ | refine evC_exit ?_) | ((with_reducible refine hΨ' _ _ ?_ ?_); (focus (simp; done)); clear hΨ hΨ' Ψ) | ((with_reducible apply evL_unmet); rfl; rfl; rfl; (try simp only [go_sem, e1, e4])) | ((with_reducible apply evL_grd); rfl; rfl; rfl; all_goals (intro hb; first | (cases hb; done) | ((try simp only [Bool.not_true, Bool.not_false] at hb); (first | ((with_reducible intro K hK); simp only [go_sem, e1, e4]; ((repeat (refine ndI (by first | assumption | omega | rfl) ?_)); refine hK _ ?_; clear hK K)) | ((fail_if_success (with_reducible intro _)); simp only [go_sem, e1, e4]))))) | ((with_reducible apply evC_cond); rfl; rfl; all_goals (intro hc; first | (cases hc; done) | (try simp only at hc))) | ((with_reducible refine evD_nil ?_ ?_); kernel_rfl; (with_reducible refine hR _ ?_); clear hR R) | (((with_reducible apply evD_any); rfl; rfl; (simp only [rdE, rdOf, go_sem, e1, e4]; rfl); (intro τ hA hQ hN; ((try simp only [agree, Op.operands, Call.operands, go_sem, e1, e4, go_sem, List.mem_cons, List.not_mem_nil, forall_eq_or_imp, forall_eq, List.append_toArray, Option.toArray] at hA); (try simp only [go_sem, e1, e4, List.mem_cons, List.not_mem_nil, forall_eq_or_imp, forall_eq] at hQ hN); (first | (revert hA; intro hA) | have hA := trivial); (first | (revert hQ; intro hQ) | have hQ := trivial); (first | (revert hN; intro hN) | have hN := trivial); simp only [go_sem, e1, e4, go_sem, hA, hQ, hN]; (repeat (refine ndI (by first | assumption | omega | rfl) ?_)); (first | apply eff_rd | apply eff_st | apply eff_nw)))); (simp only [St.eff, setO, hputs, go_sem, e1, e4])) | ((with_reducible refine evC_draw ?_ ?_ ?_ ?_); kernel_rfl; kernel_rfl; (first | kernel_rfl | simp [newNames, isNew, St.free, freeH, AV.refsL, AV.refs]); intro R hR))))
          all_goals (refine ⟨by simp, ⟨_, ?_, AV.le_refl _⟩, leH_get (by simp [leH, hget])⟩; simp only [Try.results29, resL, ldA, oneOf, go_sem])
        · (refine fn_of Try.func29 rfl (by rfl) ?_; simp only [Try.ntmps29, List.length_cons, List.length_nil, Nat.reduceAdd, Nat.reduceSub, List.replicate, List.cons_append, List.nil_append])
          (have W := ndI e1 (ndI e4 e5); (repeat (any_goals (first | ((with_reducible refine evL_call ?_ ?_ ?_); rfl; rfl; intro K hK; ((first | (apply opA_callB (fd); rfl; rfl; rfl; rfl; exact Try.func49) | (apply opA_callB (n1); rfl; rfl; rfl; rfl; exact Try.func47)); kernel_rfl; rfl; (simp only [go_sem, W]; rfl); (first | rfl | simp [AV.inNL, AV.inN])); (simp only [go_sem, W]; refine hK _ ?_; clear hK K)) | ((with_reducible refine evL_one ?_ ?_); rfl; intro K hK; simp only [go_sem, W]; ((repeat (refine ndI (by first | assumption | omega | rfl) ?_)); refine hK _ ?_; clear hK K)) | (with_reducible first | (refine evL_nil ?_; refine hR _ ?_; clear hR R) | ((first | refine evC_seq ?_ | refine evC_block ?_); intro Ψ hΨ hΨ') | (refine evC_region ?_; intro R hR) | (refine hΨ _ ?_; clear hΨ hΨ' Ψ) | refine evC_skip ?_ | refine evC_ret ?_ | refine evC_exit ?_) | ((with_reducible refine hΨ' _ _ ?_ ?_); (focus (simp; done)); clear hΨ hΨ' Ψ) | ((with_reducible apply evL_unmet); rfl; rfl; rfl; (try simp only [go_sem, W])) | ((with_reducible apply evL_grd); rfl; rfl; rfl; all_goals (intro hb; first | (cases hb; done) | ((try simp only [Bool.not_true, Bool.not_false] at hb); (first | ((with_reducible intro K hK); simp only [go_sem, W]; ((repeat (refine ndI (by first | assumption | omega | rfl) ?_)); refine hK _ ?_; clear hK K)) | ((fail_if_success (with_reducible intro _)); simp only [go_sem, W]))))) | ((with_reducible apply evC_cond); rfl; rfl; all_goals (intro hc; first | (cases hc; done) | (try simp only at hc))) | ((with_reducible refine evD_nil ?_ ?_); kernel_rfl; (with_reducible refine hR _ ?_); clear hR R) | (((with_reducible apply evD_any); rfl; rfl; (simp only [rdE, rdOf, go_sem, W]; rfl); (intro τ hA hQ hN; ((try simp only [agree, Op.operands, Call.operands, go_sem, W, go_sem, List.mem_cons, List.not_mem_nil, forall_eq_or_imp, forall_eq, List.append_toArray, Option.toArray] at hA); (try simp only [go_sem, W, List.mem_cons, List.not_mem_nil, forall_eq_or_imp, forall_eq] at hQ hN); (first | (revert hA; intro hA) | have hA := trivial); (first | (revert hQ; intro hQ) | have hQ := trivial); (first | (revert hN; intro hN) | have hN := trivial); simp only [go_sem, W, go_sem, hA, hQ, hN]; (repeat (refine ndI (by first | assumption | omega | rfl) ?_)); (first | apply eff_rd | apply eff_st | apply eff_nw)))); (simp only [St.eff, setO, hputs, go_sem, W])) | ((with_reducible refine evC_draw ?_ ?_ ?_ ?_); kernel_rfl; kernel_rfl; (first | kernel_rfl | simp [newNames, isNew, St.free, freeH, AV.refsL, AV.refs]); intro R hR)))))
          all_goals (refine ⟨by simp, ⟨_, ?_, AV.le_refl _⟩, leH_get (by simp [leH, hget])⟩; simp only [Try.results29, resL, ldA, oneOf, go_sem])
      · simp only [if_neg c3, if_pos]
        rw [not_or] at c3
        have e4 : (f == 0) = false := by simpa using c3.1
        have e5 : decide (t < f) = false := decide_eq_false c3.2
        have pt := rput5_fn ex l hk ok b p 0 0 0 ⟨ub, up, by show 0 < WW; decide, (by show U 0; exact ⟨Int.le_refl 0, by decide⟩), (by show U 0; exact ⟨Int.le_refl 0, by decide⟩)⟩
        rw [hs0, if_pos rfl] at pt
        generalize putL l ⟨b, p, 0, 0, 0⟩ = M at pt ⊢
        simp only [h11, c11, l0_zero, l1_zero, l2_zero, l3_zero] at pt
        (refine fn_of Try.func29 rfl (by rfl) ?_; simp only [Try.ntmps29, List.length_cons, List.length_nil, Nat.reduceAdd, Nat.reduceSub, List.replicate, List.cons_append, List.nil_append])
        (have W := ndI e1 (ndI e4 e5); (repeat (any_goals (first | ((with_reducible refine evL_call ?_ ?_ ?_); rfl; rfl; intro K hK; ((first | (apply opA_callB (fd); rfl; rfl; rfl; rfl; exact Try.func49) | (apply opA_callB (n1); rfl; rfl; rfl; rfl; exact Try.func47) | (apply opA_callB (pt); rfl; rfl; rfl; rfl; exact Try.func51)); kernel_rfl; rfl; (simp only [go_sem, W]; rfl); (first | rfl | simp [AV.inNL, AV.inN])); (simp only [go_sem, W]; refine hK _ ?_; clear hK K)) | ((with_reducible refine evL_one ?_ ?_); rfl; intro K hK; simp only [go_sem, W]; ((repeat (refine ndI (by first | assumption | omega | rfl) ?_)); refine hK _ ?_; clear hK K)) | (with_reducible first | (refine evL_nil ?_; refine hR _ ?_; clear hR R) | ((first | refine evC_seq ?_ | refine evC_block ?_); intro Ψ hΨ hΨ') | (refine evC_region ?_; intro R hR) | (refine hΨ _ ?_; clear hΨ hΨ' Ψ) | refine evC_skip ?_ | refine evC_ret ?_ | refine evC_exit ?_) | ((with_reducible refine hΨ' _ _ ?_ ?_); (focus (simp; done)); clear hΨ hΨ' Ψ) | ((with_reducible apply evL_unmet); rfl; rfl; rfl; (try simp only [go_sem, W])) | ((with_reducible apply evL_grd); rfl; rfl; rfl; all_goals (intro hb; first | (cases hb; done) | ((try simp only [Bool.not_true, Bool.not_false] at hb); (first | ((with_reducible intro K hK); simp only [go_sem, W]; ((repeat (refine ndI (by first | assumption | omega | rfl) ?_)); refine hK _ ?_; clear hK K)) | ((fail_if_success (with_reducible intro _)); simp only [go_sem, W]))))) | ((with_reducible apply evC_cond); rfl; rfl; all_goals (intro hc; first | (cases hc; done) | (try simp only at hc))) | ((with_reducible refine evD_nil ?_ ?_); kernel_rfl; (with_reducible refine hR _ ?_); clear hR R) | (((with_reducible apply evD_any); rfl; rfl; (simp only [rdE, rdOf, go_sem, W]; rfl); (intro τ hA hQ hN; ((try simp only [agree, Op.operands, Call.operands, go_sem, W, go_sem, List.mem_cons, List.not_mem_nil, forall_eq_or_imp, forall_eq, List.append_toArray, Option.toArray] at hA); (try simp only [go_sem, W, List.mem_cons, List.not_mem_nil, forall_eq_or_imp, forall_eq] at hQ hN); (first | (revert hA; intro hA) | have hA := trivial); (first | (revert hQ; intro hQ) | have hQ := trivial); (first | (revert hN; intro hN) | have hN := trivial); simp only [go_sem, W, go_sem, hA, hQ, hN]; (repeat (refine ndI (by first | assumption | omega | rfl) ?_)); (first | apply eff_rd | apply eff_st | apply eff_nw)))); (simp only [St.eff, setO, hputs, go_sem, W])) | ((with_reducible refine evC_draw ?_ ?_ ?_ ?_); kernel_rfl; kernel_rfl; (first | kernel_rfl | simp [newNames, isNew, St.free, freeH, AV.refsL, AV.refs]); intro R hR)))))
        all_goals (refine ⟨by simp, ⟨_, ?_, AV.le_refl _⟩, leH_get (by simp [leH, hget])⟩; simp only [Try.results29, resL, ldA, oneOf, go_sem])
end Go.Proofs.Ytmibmodibicibaa
