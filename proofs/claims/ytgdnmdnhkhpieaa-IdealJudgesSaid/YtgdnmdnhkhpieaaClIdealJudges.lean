/-
  Proved: the law IdealJudges answers true for every turn, and its argument reads behind the call as before. Conditions: none.
-/
import Derived.Test.YtgdnmdnhkhpieaaIl
import Derived.Test.YtgdnmdnhkhpieaaMa
set_option linter.unusedSimpArgs false
set_option linter.unusedVariables false
namespace Go.Proofs.Ytgdnmdnhkhpieaa
open Go.RowKit
open Nat (reduceBEq)
set_option maxRecDepth 20000
set_option maxHeartbeats 4000000
theorem St.to.cells {σ : St} (r : Nat) {cs ds : List AV} (hr : hget σ.H r = some cs) (hle : leL cs ds) : σ.to ⟨σ.T, hput σ.H r ds⟩ := fun E ι a w hg => by
  refine ⟨ι, ?_⟩
  obtain ⟨hlen0, hle2⟩ := leL_get hle
  have hget' : ∀ q es, hget (hput σ.H r ds) q = some es → (q = r ∧ es = ds) ∨ (q ≠ r ∧ hget σ.H q = some es) := fun q es hq => by
    rw [hget_put] at hq
    split at hq
    · rename_i e; cases hq; exact .inl ⟨e, rfl⟩
    · rename_i e; exact .inr ⟨e, hq⟩
  have hold : ∀ q es, hget (hput σ.H r ds) q = some es → ∃ fs, hget σ.H q = some fs := fun q es hq => by
    rcases hget' q es hq with ⟨rfl, _⟩ | ⟨_, h⟩
    · exact ⟨_, hr⟩
    · exact ⟨_, h⟩
  have hSx : ∀ b, Sx E ι σ.H b → Sx E ι (hput σ.H r ds) b := fun b ⟨g1, g2⟩ => ⟨g1, fun q es hq hz => by
    obtain ⟨fs, hes⟩ := hold q es hq
    exact g2 q fs hes hz⟩
  have hR : ∀ {v : Value} {x : AV}, RV (Sx E ι σ.H) ι w v x → RV (Sx E ι (hput σ.H r ds)) ι w v x := fun hv => hv.mono (fun b hb _ => ⟨hSx b hb, rfl⟩) fun _ _ => rfl
  refine ⟨hg.defers.mono fun b hb _ => ⟨hSx b hb, rfl⟩, hg.size, fun i => hR (hg.tmp i), ⟨fun q es hq => ?_, fun q q' es fs hq hq' => ?_⟩, ⟨hg.keep.os, hg.keep.tape, hg.keep.output, hg.keep.size, hg.keep.block, fun q es hq => ?_⟩⟩
  · rcases hget' q es hq with ⟨rfl, rfl⟩ | ⟨_, h⟩
    · rcases hg.heap.blk q cs hr with ⟨h0, rfl⟩ | ⟨cur, hh, hs, hlen, hcur, hone1⟩
      · exact .inl ⟨h0, List.eq_nil_of_length_eq_zero hlen0.symm⟩
      · refine .inr ⟨cur, hh, hs, by rw [← hlen0]; exact hlen, fun i u x hu hx => ?_, hone1⟩
        have hi : i < cs.length := by rw [hlen0]; exact (List.getElem?_eq_some_iff.1 hx).1
        have hy : cs[i]? = some cs[i] := List.getElem?_eq_getElem hi
        exact ⟨hle2 i _ _ hy hx _ _ _ _ (hR (hcur i u _ hu hy).1), (hcur i u _ hu hy).2⟩
    · rcases hg.heap.blk q es h with h0 | ⟨cur, hh, hs, hlen, hcur, hone1⟩
      · exact .inl h0
      · exact .inr ⟨cur, hh, hs, hlen, fun i u x hu hx => ⟨hR (hcur i u x hu hx).1, (hcur i u x hu hx).2⟩, hone1⟩
  · obtain ⟨ds', h1'⟩ := hold q es hq
    obtain ⟨es', h2'⟩ := hold q' fs hq'
    exact hg.heap.inj q q' ds' es' h1' h2'
  · obtain ⟨ds', h1'⟩ := hold q es hq
    exact hg.keep.mine q ds' h1'
def smW (d : Nat) : Wl := ⟨[⟨1, 9, 0, [], []⟩, ⟨20, 100, 0, [], []⟩], [⟨20, d, 0, 0, 0⟩], []⟩
abbrev nilA : AV := .c (.v (.slice none 0 0))
abbrev smB (d : Nat) : List PV := [.v (.int .u64 20), .v (.int .u64 d), .v (.int .u64 0), .v (.int .u64 0), .v (.int .u64 0), .v (.int .u64 0), .v (.int .u64 0), .v (.int .u64 0), .v (.int .u64 0), .v (.int .u64 0), .v (.int .u64 0)]
theorem small_row (d : Nat) : Fn Try.prog 13 [vi .u64 d] [] (.agg [.row 7 58 8 2, .row 12 66 11 1, nilA])
    [(7, [vi .u64 1, vi .u64 9, vi .u64 0, vi .u64 0, vi .u64 0, vi .u64 0, nilA, nilA, vi .u64 20, vi .u64 100, vi .u64 0, vi .u64 0, vi .u64 0, vi .u64 0, nilA, nilA]), (12, (smB d).map .c)] := by
  (refine fn_of Try.func13 rfl (by rfl) ?_; simp only [Try.ntmps13, List.length_cons, List.length_nil, Nat.reduceAdd, Nat.reduceSub, List.replicate, List.cons_append, List.nil_append])
  (repeat (any_goals (first | ((with_reducible refine evL_one ?_ ?_); rfl; intro K hK; simp only [go_sem]; ((repeat (refine ndI (by first | assumption | omega | rfl) ?_)); refine hK _ ?_; clear hK K)) | (with_reducible first | (refine evL_nil ?_; refine hR _ ?_; clear hR R) | ((first | refine evC_seq ?_ | refine evC_block ?_); intro Ψ hΨ hΨ') | (refine evC_region ?_; intro R hR) | (refine hΨ _ ?_; clear hΨ hΨ' Ψ) | refine evC_skip ?_ | refine evC_ret ?_ | refine evC_exit ?_) | ((with_reducible refine hΨ' _ _ ?_ ?_); (focus (simp; done)); clear hΨ hΨ' Ψ) | ((with_reducible apply evC_cond); rfl; rfl; all_goals (intro hc; first | (cases hc; done) | (try simp only at hc))))))
  all_goals (refine ⟨by simp, ⟨_, ?_, AV.le_refl _⟩, leH_get (by simp [leH, hget])⟩; simp only [Try.results13, resL, ldA, oneOf, go_sem])
theorem small_fn (d : Nat) (hd : d < 18446744073709551616) : Fn Try.prog 13 [vi .u64 d] [] (wlA (smW d)) [] := by
  have k1 := (small_row d).to (St.to.cells 7 (ds := ((smW d).S.flatMap Ac.pv).map .c) rfl (by
    simp only [smW, List.flatMap_cons, List.flatMap_nil, Ac.pv, List.cons_append, List.nil_append, List.map_cons, List.map_nil, leL]
    exact ⟨AV.le_refl _, AV.le_refl _, AV.le_refl _, AV.le_refl _, AV.le_refl _, AV.le_refl _, AV.le_nil _ _, AV.le_nil _ _, AV.le_refl _, AV.le_refl _, AV.le_refl _, AV.le_refl _, AV.le_refl _, AV.le_refl _, AV.le_nil _ _, AV.le_nil _ _, trivial⟩))
  have k2 := k1.frzN (d := 7) (pcs := (smW d).S.flatMap Ac.pv) rfl
  have e : smB d = (smW d).L.flatMap lg.Hd.pv := by
    have h0 : l0 d = (d : Int) := by unfold l0; rw [Nat.mod_eq_of_lt hd]
    have h1 : l1 d = 0 := by unfold l1; rw [Nat.div_eq_of_lt hd]; rfl
    have h2 : l2 d = 0 := by unfold l2; rw [Nat.div_eq_of_lt hd]; rfl
    have h3 : l3 d = 0 := by unfold l3; rw [Nat.div_eq_of_lt hd]; rfl
    simp [smW, lg.Hd.pv, h0, h1, h2, h3, l0_zero, l1_zero, l2_zero, l3_zero]
  have k3 := k2.frzN (d := 12) (pcs := smB d) rfl
  refine k3.weaken ?_ (fun r cs h => by cases h)
  simp only [AV.frz, AV.frzL, if_true, eq_self, ↓reduceIte, Nat.reduceEqDiff]
  rw [e]
  exact AV.le_agg ⟨AV.le_refl _, AV.le_refl _, AV.le_nil _ _, trivial⟩
theorem smW_ok (d : Nat) (hd : d < WW) : (smW d).ok := by
  have hu : ∀ x : Int, 0 ≤ x → x ≤ 18446744073709551615 → U x := fun x h1 h2 => ⟨h1, h2⟩
  refine ⟨⟨(by decide : 2 ≤ 45), fun x hx => ?_⟩, ⟨(by decide : 1 ≤ 40), fun x hx => ?_⟩, ⟨(by decide : 0 ≤ 70), fun x hx => by cases hx⟩⟩
  · simp only [smW, List.mem_cons, List.not_mem_nil, or_false] at hx
    rcases hx with rfl | rfl
    · exact ⟨⟨hu 1 (by decide) (by decide), (by decide : 9 < WW), hu 0 (by decide) (by decide), ⟨Nat.zero_le _, fun c h => by cases h⟩, Nat.zero_le _, fun p h => by cases h⟩, Nat.zero_le _, Nat.zero_le _⟩
    · exact ⟨⟨hu 20 (by decide) (by decide), (by decide : 100 < WW), hu 0 (by decide) (by decide), ⟨Nat.zero_le _, fun c h => by cases h⟩, Nat.zero_le _, fun p h => by cases h⟩, Nat.zero_le _, Nat.zero_le _⟩
  · simp only [smW, List.mem_cons, List.not_mem_nil, or_false] at hx
    subst hx
    exact ⟨hu 20 (by decide) (by decide), hd, (by decide : 0 < WW), hu 0 (by decide) (by decide), hu 0 (by decide) (by decide)⟩
def smT (a b : Nat) : Tn := ⟨smW a, smW b, [], 0, 0, 0⟩
theorem smT_ok {a b : Nat} (ha : a < WW) (hb : b < WW) : (smT a b).ok := ⟨smW_ok a ha, smW_ok b hb, ⟨Nat.zero_le _, fun x h => by cases h⟩, ⟨Int.le_refl 0, by show (0 : Int) ≤ _; decide⟩, (by decide : 0 < WW), (by decide : 0 < WW)⟩
abbrev i0 : AV := .c (.v (.int .u64 0))
theorem smJ (a b : Nat) (ha : a < WW) (hb : b < WW) (n : Int) (hn : jdN (smT a b) = n) (he : jdE (smT a b) = 0) : Fn Try.prog 8 [.agg [.c (acV (smW a).S), .c (hdV (smW a).L), .c (noV (smW a).N), .c (acV (smW b).S), .c (hdV (smW b).L), .c (noV (smW b).N), nilA, i0, i0, i0, i0, i0, i0, i0, i0, i0]] [] (.tup [vi .i64 n, vi .i64 0]) [] := by
  have h := judge_fn (smT a b) (smT_ok ha hb)
  rw [hn, he] at h
  unfold tnA smT at h
  simp only [l0_zero, l1_zero, l2_zero, l3_zero] at h
  exact h.args ⟨AV.le_agg ⟨AV.le_refl _, AV.le_refl _, AV.le_refl _, AV.le_refl _, AV.le_refl _, AV.le_refl _, AV.le_nil _ _, AV.le_refl _, AV.le_refl _, AV.le_refl _, AV.le_refl _, AV.le_refl _, AV.le_refl _, AV.le_refl _, AV.le_refl _, AV.le_refl _, trivial⟩, trivial⟩
abbrev c4W (x : Int) : AV := .agg [vi .u64 x, vi .u64 0, vi .u64 0, vi .u64 0]
theorem wakesI_fn : Fn Try.prog 5 [] [] (vb true) [] := by
  have s7 := small_fn 7 (by decide)
  have s8 := small_fn 8 (by decide)
  have g1 : Fn Try.prog 12 [wlA (smW 7)] [] (.tup [c4W 2, vb true]) [] := by
    have h := excess_fn (smW 7) (smW_ok 7 (by decide))
    rw [show exN (smW 7) = 2 by kernel_rfl, show exB (smW 7) = true by kernel_rfl] at h
    exact h
  have g2 := smJ 7 8 (by decide) (by decide) 1 (by kernel_rfl) (by kernel_rfl)
  have g3 := smJ 8 7 (by decide) (by decide) 0 (by kernel_rfl) (by kernel_rfl)
  have g4 : Fn Try.prog 14 [wlA (smW 7), vi .u64 20] [] (c4W 107) [] := by
    have h := wealth_fn (smW 7) (smW_ok 7 (by decide)) 20 ⟨by decide, by decide⟩
    rw [show wealthN (smW 7) 20 = 107 by kernel_rfl] at h
    exact h
  have g5 : Fn Try.prog 15 [wlA (smW 7)] [] (c4W 109) [] := by
    have h := supply_fn (smW 7) (smW_ok 7 (by decide))
    rw [show supplyN (smW 7) = 109 by kernel_rfl] at h
    exact h
  generalize smW 7 = a1 at *
  generalize smW 8 = a2 at *
  (refine fn_of Try.func5 rfl (by rfl) ?_; simp only [Try.ntmps5, List.length_cons, List.length_nil, Nat.reduceAdd, Nat.reduceSub, List.replicate, List.cons_append, List.nil_append])
  (repeat (any_goals (first | ((with_reducible refine evL_call ?_ ?_ ?_); rfl; rfl; intro K hK; (first | ((apply opA_callB (g1); rfl; rfl; rfl; rfl; exact Try.func12); kernel_rfl; rfl; (simp only [go_sem]; rfl); (first | rfl | simp [AV.inNL, AV.inN])) | ((apply opA_callB (s7); rfl; rfl; rfl; rfl; exact Try.func13); kernel_rfl; rfl; (simp only [go_sem]; rfl); (first | rfl | simp [AV.inNL, AV.inN])) | ((apply opA_callB (s8); rfl; rfl; rfl; rfl; exact Try.func13); kernel_rfl; rfl; (simp only [go_sem]; rfl); (first | rfl | simp [AV.inNL, AV.inN])) | ((apply opA_callB (g2); rfl; rfl; rfl; rfl; exact Try.func8); kernel_rfl; rfl; (simp only [go_sem]; rfl); (first | rfl | simp [AV.inNL, AV.inN])) | ((apply opA_callB (g3); rfl; rfl; rfl; rfl; exact Try.func8); kernel_rfl; rfl; (simp only [go_sem]; rfl); (first | rfl | simp [AV.inNL, AV.inN]))); (simp only [go_sem]; refine hK _ ?_; clear hK K)) | ((with_reducible refine evL_one ?_ ?_); rfl; intro K hK; simp only [go_sem]; ((repeat (refine ndI (by first | assumption | omega | rfl) ?_)); refine hK _ ?_; clear hK K)) | (with_reducible first | (refine evL_nil ?_; refine hR _ ?_; clear hR R) | ((first | refine evC_seq ?_ | refine evC_block ?_); intro Ψ hΨ hΨ') | (refine evC_region ?_; intro R hR) | (refine hΨ _ ?_; clear hΨ hΨ' Ψ) | refine evC_skip ?_ | refine evC_ret ?_ | refine evC_exit ?_) | ((with_reducible refine hΨ' _ _ ?_ ?_); (focus (simp; done)); clear hΨ hΨ' Ψ) | ((with_reducible apply evL_unmet); rfl; rfl; rfl; (try simp only [go_sem])) | ((with_reducible apply evL_grd); rfl; rfl; rfl; all_goals (intro hb; first | (cases hb; done) | ((try simp only [Bool.not_true, Bool.not_false] at hb); (first | ((with_reducible intro K hK); (first | ((first | (apply opA_callB (g4); rfl; rfl; rfl; rfl; exact Try.func14) | (apply opA_callB (g5); rfl; rfl; rfl; rfl; exact Try.func15)); kernel_rfl; rfl; (simp only [go_sem]; rfl); (first | rfl | simp [AV.inNL, AV.inN])) | ((apply opA_callB (s7); rfl; rfl; rfl; rfl; exact Try.func13); kernel_rfl; rfl; (simp only [go_sem]; rfl); (first | rfl | simp [AV.inNL, AV.inN])) | ((apply opA_callB (s8); rfl; rfl; rfl; rfl; exact Try.func13); kernel_rfl; rfl; (simp only [go_sem]; rfl); (first | rfl | simp [AV.inNL, AV.inN])) | skip); simp only [go_sem]; ((repeat (refine ndI (by first | assumption | omega | rfl) ?_)); refine hK _ ?_; clear hK K)) | ((fail_if_success (with_reducible intro _)); simp only [go_sem]))))) | ((with_reducible apply evC_cond); rfl; rfl; all_goals (intro hc; first | (cases hc; done) | (try simp only at hc))))))
  all_goals (refine ⟨by simp, ⟨_, ?_, AV.le_refl _⟩, leH_get (by simp [leH, hget])⟩; simp only [Try.results5, resL, ldA, oneOf, go_sem])
end Go.Proofs.Ytgdnmdnhkhpieaa
namespace Go.Proofs.Ytgdnmdnhkhpieaa
open Go.RowKit
set_option maxRecDepth 20000
set_option maxHeartbeats 4000000
theorem decV_bool {P : Program} {t : TypeId} (ht : P.underlying t = some .bool) (hc : P.cellsOf t = 1) : DecV P t 1 (fun b : Bool => [PV.v (.bool b)]) (fun _ => True) :=
  ⟨hc, fun H enc w base spare held fuel cs x h => by
    obtain ⟨b, rfl, _⟩ := DataW.trod_bool ht h
    refine ⟨b, rfl, rfl, fun j u y hu hy => ?_, trivial⟩
    match j with
    | 0 => cases hu; cases hy; exact .v _ rfl
    | j + 1 => simp at hu⟩
theorem decVH : DecV Try.prog 66 11 lg.Hd.pv lg.Hd.ok :=
  (decV_struct (sz := 1 + (4 + (4 + (1 + 1)))) Try.underlying66 (by kernel_rfl) (decF_cons decV_addr rfl (decF_cons decV_word rfl (decF_cons decV_word rfl (decF_cons decV_num rfl (decF_one decV_num rfl)))))).map fun x hx => ⟨⟨x.1, x.2.1, x.2.2.1, x.2.2.2.1, x.2.2.2.2⟩, rfl, hx⟩
theorem decVHs : DecV Try.prog 25 1 (fun l : List lg.Hd => [hdV l]) (fun l => l.length ≤ maxLen ∧ ∀ h ∈ l, h.ok) :=
  decV_slice Try.underlying25 (by kernel_rfl) decVH (by omega) lg.hd_len
theorem decVL : DecV Try.prog 27 1 (fun l : List lg.Hd => [hdV l]) (fun l => l.length ≤ maxLen ∧ ∀ h ∈ l, h.ok) :=
  decV_struct Try.underlying27 (by kernel_rfl) (decF_one decVHs rfl)
theorem decVS : DecV Try.prog 24 1 (fun l : List Ac => [acV l]) (fun l => l.length ≤ maxLen ∧ ∀ h ∈ l, h.ok) :=
  decV_struct Try.underlying24 (by kernel_rfl) (decF_one decV_accounts rfl)
theorem decVN : DecV Try.prog 69 6 nz.N6.pv nz.N6.ok :=
  (decV_triple (s0 := 1) (s1 := 4) (s2 := 1) Try.underlying69 (by kernel_rfl) (decV_u64 Try.underlying33 (by kernel_rfl)) (decV_w4 Try.underlying35 (by kernel_rfl) Try.underlying32 (by kernel_rfl)) (decV_u64 Try.underlying32 (by kernel_rfl)) rfl rfl rfl).map
    fun v ⟨h1, ⟨h2, h3, h4, h5⟩, h6⟩ => ⟨⟨v.1, v.2.1.1, v.2.1.2.1, v.2.1.2.2.1, v.2.1.2.2.2, v.2.2⟩, rfl, h1, h2, h3, h4, h5, h6⟩
theorem decVNs : DecV Try.prog 28 1 (fun l : List nz.N6 => [noV l]) (fun l => l.length ≤ maxLen ∧ ∀ n ∈ l, n.ok) :=
  decV_slice Try.underlying28 (by kernel_rfl) decVN (by omega) (fun _ => rfl)
theorem decVW : DecV Try.prog 30 3 Wl.pv Wl.raw :=
  (decV_struct (sz := 1 + (1 + 1)) Try.underlying30 (by kernel_rfl) (decF_cons decVS rfl (decF_cons decVL rfl (decF_one decVNs rfl)))).map fun x hx => ⟨⟨x.1, x.2.1, x.2.2⟩, rfl, hx.1, hx.2.1, hx.2.2⟩
theorem decVR : DecV Try.prog 71 12 Rp.pv Rp.ok :=
  (decV_struct (sz := 1 + (4 + (4 + (1 + (1 + 1))))) Try.underlying71 (by kernel_rfl) (decF_cons decV_addr rfl (decF_cons decV_word rfl (decF_cons decV_word rfl (decF_cons decV_num rfl (decF_cons (decV_bool Try.underlying4 (by kernel_rfl)) rfl (decF_one (decV_bool Try.underlying4 (by kernel_rfl)) rfl))))))).map fun x hx => ⟨⟨x.1, x.2.1, x.2.2.1, x.2.2.2.1, x.2.2.2.2.1, x.2.2.2.2.2⟩, rfl, hx.1, hx.2.1, hx.2.2.1, hx.2.2.2.1⟩
theorem decVRs : DecV Try.prog 31 1 (fun l : List Rp => [rpV l]) (fun l => l.length ≤ maxLen ∧ ∀ r ∈ l, r.ok) :=
  decV_slice Try.underlying31 (by kernel_rfl) decVR (by omega) rp_len
end Go.Proofs.Ytgdnmdnhkhpieaa
namespace Go.Proofs.Ytgdnmdnhkhpieaa
open Go.RowKit
open Nat (reduceBEq)
set_option maxRecDepth 20000
set_option maxHeartbeats 4000000
structure Tn.raw (t : Tn) : Prop where
  w : t.w.raw
  v : t.v.raw
  r : t.r.length ≤ maxLen ∧ ∀ x ∈ t.r, x.ok
  f : U t.f
  m : t.m < WW
  b : t.b < WW
theorem decVT : DecV Try.prog 37 16 Tn.pv Tn.raw :=
  (decV_struct (sz := 3 + (3 + (1 + (1 + (4 + 4))))) Try.underlying37 (by kernel_rfl) (decF_cons decVW rfl (decF_cons decVW rfl (decF_cons decVRs rfl (decF_cons decV_addr rfl (decF_cons decV_word rfl (decF_one decV_word rfl))))))).map fun x hx => ⟨⟨x.1, x.2.1, x.2.2.1, x.2.2.2.1, x.2.2.2.2.1, x.2.2.2.2.2⟩, rfl, hx.1, hx.2.1, hx.2.2.1, hx.2.2.2.1, hx.2.2.2.2.1, hx.2.2.2.2.2⟩
def cutT (t : Tn) : Tn := ⟨cutW t.w, cutW t.v, t.r.take 50, t.f, t.m, t.b⟩
theorem cutT_ok {t : Tn} (h : t.raw) : (cutT t).ok := ⟨cutW_ok h.w, cutW_ok h.v, ⟨by show (t.r.take 50).length ≤ 900; rw [List.length_take]; omega, fun x hx => h.r.2 x (List.mem_of_mem_take hx)⟩, h.f, h.m, h.b⟩
theorem judges_fn (t : Tn) (ht : t.raw) : Fn Try.prog 3 [tnA t] [] (vb true) [] := by
  have w1 := world_fn t.w ht.w
  have w2 := world_fn t.v ht.v
  have fw := few_fn false t.r ht.r.1
  have j1 := judge_fn (cutT t) (cutT_ok ht)
  have j2 := rjudge_fn (cutT t) (cutT_ok ht)
  have wk := wakesI_fn
  unfold jdE jdN at j1
  unfold rjN at j2
  unfold cutT at j1 j2
  dsimp only at j1 j2
  generalize brk _ = B at j1 j2
  generalize cutW t.w = v1 at *
  generalize cutW t.v = v2 at *
  generalize t.r.take 50 = rr at *
  have eB := beq_self_eq_true B
  generalize (rightW v1 && rightW v2) = q at j1 j2
  cases q
  all_goals simp only [Bool.false_eq_true, if_false, if_true] at j1 j2
  all_goals (refine fn_of Try.func3 rfl (by rfl) ?_; simp only [Try.ntmps3, List.length_cons, List.length_nil, Nat.reduceAdd, Nat.reduceSub, List.replicate, List.cons_append, List.nil_append])
  all_goals (repeat (any_goals (first | ((with_reducible refine evL_call ?_ ?_ ?_); rfl; rfl; intro K hK; ((first | (apply opA_callB (wk); rfl; rfl; rfl; rfl; exact Try.func5) | (apply opA_callB (j1); rfl; rfl; rfl; rfl; exact Try.func8) | (apply opA_callB (j2); rfl; rfl; rfl; rfl; exact Try.func9)); kernel_rfl; rfl; (simp only [go_sem, eB]; rfl); (first | rfl | simp [AV.inNL, AV.inN])); (simp only [go_sem, eB]; refine hK _ ?_; clear hK K)) | ((with_reducible refine evL_one ?_ ?_); rfl; intro K hK; simp only [go_sem, eB]; ((repeat (refine ndI (by first | assumption | omega | rfl) ?_)); refine hK _ ?_; clear hK K)) | (with_reducible first | (refine evL_nil ?_; refine hR _ ?_; clear hR R) | ((first | refine evC_seq ?_ | refine evC_block ?_); intro Ψ hΨ hΨ') | (refine evC_region ?_; intro R hR) | (refine hΨ _ ?_; clear hΨ hΨ' Ψ) | refine evC_skip ?_ | refine evC_ret ?_ | refine evC_exit ?_) | ((with_reducible refine hΨ' _ _ ?_ ?_); (focus (simp; done)); clear hΨ hΨ' Ψ) | ((with_reducible apply evL_unmet); rfl; rfl; rfl; (try simp only [go_sem, eB])) | ((with_reducible apply evL_grd); rfl; rfl; rfl; all_goals (intro hb; first | (cases hb; done) | ((try simp only [Bool.not_true, Bool.not_false] at hb); (first | ((with_reducible intro K hK); simp only [go_sem, eB]; ((repeat (refine ndI (by first | assumption | omega | rfl) ?_)); refine hK _ ?_; clear hK K)) | ((fail_if_success (with_reducible intro _)); simp only [go_sem, eB]))))) | ((with_reducible apply evC_cond); rfl; rfl; all_goals (intro hc; first | (cases hc; done) | (try simp only at hc))) | ((with_reducible refine evD_nil ?_ ?_); kernel_rfl; (with_reducible refine hR _ ?_); clear hR R) | ((first | ((with_reducible apply evD_fcall); rfl; rfl; (first | ((apply opF_callB (fw); rfl; rfl; rfl; rfl; exact Try.func7); kernel_rfl; rfl; (simp only [go_sem, eB]; rfl); (first | rfl | simp [AV.inNL, AV.inN])) | ((apply opF_callB (w1); rfl; rfl; rfl; rfl; exact Try.func6); kernel_rfl; rfl; (simp only [go_sem, eB]; rfl); (first | rfl | simp [AV.inNL, AV.inN])) | ((apply opF_callB (w2); rfl; rfl; rfl; rfl; exact Try.func6); kernel_rfl; rfl; (simp only [go_sem, eB]; rfl); (first | rfl | simp [AV.inNL, AV.inN])))) | ((with_reducible apply evD_any); rfl; rfl; (simp only [rdE, rdOf, go_sem, eB]; rfl); (intro τ hA hQ hN; ((try simp only [agree, Op.operands, Call.operands, go_sem, eB, go_sem, List.mem_cons, List.not_mem_nil, forall_eq_or_imp, forall_eq, List.append_toArray, Option.toArray] at hA); (try simp only [go_sem, eB, List.mem_cons, List.not_mem_nil, forall_eq_or_imp, forall_eq] at hQ hN); (first | (revert hA; intro hA) | have hA := trivial); (first | (revert hQ; intro hQ) | have hQ := trivial); (first | (revert hN; intro hN) | have hN := trivial); simp only [go_sem, eB, go_sem, hA, hQ, hN]; (repeat (refine ndI (by first | assumption | omega | rfl) ?_)); (first | apply eff_rd | apply eff_st | apply eff_nw))))); (simp only [St.eff, setO, hputs, go_sem, eB])) | ((with_reducible refine evC_draw ?_ ?_ ?_ ?_); kernel_rfl; kernel_rfl; (first | kernel_rfl | simp [newNames, isNew, St.free, freeH, AV.refsL, AV.refs]); intro R hR))))
  all_goals (refine ⟨by simp, ⟨_, ?_, AV.le_refl _⟩, leH_get (by simp [leH, hget])⟩; simp only [Try.results3, resL, ldA, oneOf, go_sem])
theorem law_judges {l : Tn} {v0 : Value} {W : World} (h0 : RV (fun _ => True) (fun _ => (0, 0, 0)) W v0 (.agg (l.pv.map .c))) (g0 : l.raw) : Calls Try.prog 3 #[v0] W (RetT W true) := by
  refine Fn.law (judges_fn l g0) (vs := [_]) rfl fun j v x hj hx => ?_
  rcases j with _ | j
  · cases hj; cases hx; exact h0
  · simp at hj
end Go.Proofs.Ytgdnmdnhkhpieaa
namespace Go.Proofs.Ytgdnmdnhkhpieaa.idealJudgesDone
open Go.RowKit Go.ChangeShapes Go.WideShapes Go.ChangeAt

theorem own : ownKnob Try.prog.godebug = none := by kernel_rfl
theorem laidOut : laidOutB Try.prog = true := by kernel_rfl
theorem reads : ∀ t ∈ Try.f3.params.toList, Try.prog.readableRec t = true ∧ t < Try.prog.types.size := by
  rw [Try.params3]
  intro t ht
  simp only [List.mem_cons, List.not_mem_nil, or_false] at ht
  subst ht
  · exact ⟨by kernel_rfl, of_decide_eq_true (by kernel_rfl)⟩

set_option maxRecDepth 100000 in
theorem lifted (os : Os) (started : os.Started) (H : Type) (enc : TypeId × Value → H) :
    ReturnsInHanded {} Try.checked os 3 .any (Rows.idealJudgesSpec.pre6 enc Try.prog Try.f3 Rows.idealJudgesRow.domain false) (Rows.idealJudgesSpec.post enc Try.prog Try.f3 false true false false) := by
  refine returnsInHanded_of_change (C := Try.checked) own started (by kernel_rfl) Try.func3
    (ChangeSpec.witness6 (enc := enc) (C := Try.checked) false ⟨#[], #[.agg #[.slice none 0 0, .slice none 0 0, .slice none 0 0, .slice none 0 0, .slice none 0 0, .slice none 0 0, .slice none 0 0, .int .u64 0, .int .u64 0, .int .u64 0, .int .u64 0, .int .u64 0, .int .u64 0, .int .u64 0, .int .u64 0, .int .u64 0]], []⟩ 8 (by kernel_rfl) (by kernel_rfl) (by kernel_rfl) (by kernel_rfl)) ?_
  intro W base args ds gs before hval0 hW hcnd _
  have hval : ∀ (j : Nat) t v, Try.f3.params[j]? = some t → args[j]? = some v → Value.okWide Try.prog W .any base t v := hval0
  refine law_post (P := Try.prog) laidOut rfl Try.underlying4 rfl reads (fun ds hds => by
    match ds, hds with
    | [d1], _ => rfl) hW ?_
  obtain ⟨p, q, hA0, hV, rfl, hfz, hnd⟩ := hW
  have hA : DataW.TrodAll enc Try.prog W 0 (fun _ => true) true Try.f3.params.toList args.toList ds p := hA0
  rw [Try.params3] at hA hval
  obtain ⟨v0, vs0, d0, ds0, p0, q0, hargs, rfl, rfl, h0, r0⟩ := trodAll_cons hA
  obtain ⟨rfl, rfl, rfl⟩ := trodAll_nil r0
  obtain rfl : args = #[v0] := by cases args; simp_all
  obtain ⟨cs0, rfl⟩ := okWide_struct Try.underlying37 (hval 0 37 v0 rfl rfl)
  obtain ⟨l0, hr0, hg0⟩ := open_VA decVT h0 (fun _ => (0, 0, 0))
  exact law_judges hr0 hg0

theorem over : Rows.idealJudgesRow.holds Try.pinned (OpenSpec.ofChange Rows.idealJudgesSpec) :=
  OpenClaim.holds_of_wide 3 Try.f3 rfl rfl rfl rfl rfl rfl rfl ⟨rfl, rfl, rfl, rfl, rfl⟩ rfl rfl rfl rfl rfl (by kernel_rfl) Try.func3 (by kernel_rfl)
    (of_decide_eq_true (by kernel_rfl)) (by unfold Func.isWrapper; first | (rw [if_pos (by decide +kernel)]; kernel_rfl) | (rw [if_neg (by decide +kernel)]; exact ⟨rfl, rfl⟩))
    (fun os started H enc _ => lifted os started H enc)

theorem proved : Rows.IdealJudgesSaid := over
end Go.Proofs.Ytgdnmdnhkhpieaa.idealJudgesDone
