/-
 Proved: the tied card of the law RulesStakes: it answers true for every case and number, and its arguments read behind the call as before. Conditions: the package variables that the row lists hold what the program lays into them (tied to its text).
-/
import Derived.Test.YtgdjkkapgghdbaaGreatDoorRlq
import Derived.Test.YtgdjkkapgghdbaaGreatDoorRll
import Derived.Test.YtgdjkkapgghdbaaGreatDoorYm
import Derived.Test.YtgdjkkapgghdbaaGreatDoorRows
import Derived.Test.YtgdjkkapgghdbaaGreatDoorAvF
import Derived.ProofKit
import Derived.OpenShut
import Derived.ChangeOld
import Derived.Deep.Slices
import Derived.Test.YtgdjkkapgghdbaaGreatDoorAvO
import Derived.Test.YtgdjkkapgghdbaaGreatDoorTrh
import Derived.MakeChecks
import Derived.Test.YtgdjkkapgghdbaaGreatDoorTie
import Derived.Test.YtgdjkkapgghdbaaGreatDoorCards
import Derived.LaidMore
import Derived.Lay
import Derived.SevenTiedAt
import Derived.Stop.Joined
set_option linter.unusedSimpArgs false
set_option linter.unusedVariables false
namespace Go.Proofs.YtgdjkkapgghdbaaGreatDoor
open Go.RowKit
open Nat (reduceBEq)
attribute [-go_sem] IntKind.bits
set_option maxRecDepth 20000
set_option maxHeartbeats 4000000
abbrev phT : Nat := 54
abbrev evT : Nat := 58
abbrev zC : List AV := [vi .u64 0, nilA, nilA]
abbrev stU (s : Int) (M : List Ph) (r rc : Nat) (m : Nat) (cd cs X : List AV) (n i : Nat) : St := ⟨[.any, .any, .ptr 2 0, .ptr 3 0, .any, .any, .any, .any, .any, .any, .any, .any, .any, .any, .any, .any, .any, .any, .any, .any, .any, .any, .any, .any, phs false M, vi .i64 M.length, vi .i64 i, .any, .any, .any, .any, .any, .any, .any, .any, .any, .any, .any, .any, .any, .any, .any, .any, .any, .any, .any, .any, .any, .any, .any, .any, .any, .any, .any, .any, .any, .any, .any, .any, .any, .any, .any, .any, .any, .any, .any, .any, .any, .any, .any, .any, .any, .any, .any, .any], [(2, zC), (3, [vi .u64 s, .row r phT 4 n, .row rc 23 1 m]), (r, cs), (rc, cd), (700, X)]⟩
abbrev fewS1 (s : Int) (M : List Ph) (m : Nat) (cd cs : List AV) (y : Ph) (i n : Nat) (tc : AV) (j : Nat) (X E : List AV) : St := ⟨[.any, .any, .ptr 2 0, .ptr 3 0, .any, .ptr 5 0, .any, .any, .any, .any, .any, .any, .any, .any, .any, .any, .any, .any, .any, .any, .any, .any, .any, .any, phs false M, vi .i64 M.length, vi .i64 i, .any, .any, .any, .any, .any, .any, .any, .any, .any, .any, .any, .any, .any, .any, vi .i64 n, vi .i64 j, .any, .any, .any, .any, .any, .any, .any, .any, .any, .any, .any, .any, .any, .any, .any, .any, .any, .any, .any, .any, .any, .any, .any, .any, .any, .any, .any, .any, .any, .any, .any, .any], [(2, zC), (3, [vi .u64 s, .row 600 phT 4 i, .row 601 23 1 m]), (5, [vi .i64 y.role, vi .u64 y.who, vb y.stk, tc]), (600, cs), (601, cd), (700, X), (37, E)]⟩
abbrev fewS2 (s : Int) (M : List Ph) (m : Nat) (cd cs : List AV) (y : Ph) (i n : Nat) (tc : AV) (j : Nat) (r : Nat) (E : List AV) : St := ⟨[.any, .any, .ptr 2 0, .ptr 3 0, .any, .ptr 5 0, .any, .any, .any, .any, .any, .any, .any, .any, .any, .any, .any, .any, .any, .any, .any, .any, .any, .any, phs false M, vi .i64 M.length, vi .i64 i, .any, .any, .any, .any, .any, .any, .any, .any, .any, .any, .any, .any, .any, .any, vi .i64 n, vi .i64 j, .any, .any, .any, .any, .any, .any, .any, .any, .any, .any, .any, .any, .any, .any, .any, .any, .any, .any, .any, .any, .any, .any, .any, .any, .any, .any, .any, .any, .any, .any, .any, .any], [(2, zC), (3, [vi .u64 s, .row 600 phT 4 i, .row 601 23 1 m]), (5, [vi .i64 y.role, vi .u64 y.who, vb y.stk, tc]), (600, cs), (601, cd), (r, E)]⟩
theorem few_frz (s : Int) (M : List Ph) (m : Nat) (cd cs : List AV) (y : Ph) (i : Nat) (N : List Ev) (X : List AV) (h1 : AV.frzL 37 (N.flatMap Ev.pv) cd = cd) (h2 : AV.frzL 37 (N.flatMap Ev.pv) cs = cs) (h3 : AV.frzL 37 (N.flatMap Ev.pv) X = X) : (fewS1 s M m cd cs y i N.length (.row 37 evT 14 N.length) N.length X (raE N)).to (fewS2 s M m cd cs y i N.length (evs false N) N.length 700 X) := by
 have h := St.to.frz (σ := fewS1 s M m cd cs y i N.length (.row 37 evT 14 N.length) N.length X (raE N)) 37 (pcs := N.flatMap Ev.pv) rfl
 have e : ((fewS1 s M m cd cs y i N.length (.row 37 evT 14 N.length) N.length X (raE N)).frz 37 (N.flatMap Ev.pv)) = fewS2 s M m cd cs y i N.length (evs false N) N.length 700 X := by
  simp [St.frz, AV.frz, AV.frzL, frzH, flat_length ev_len, h1, h2, h3]
 rwa [e] at h
theorem few_rn (s : Int) (M : List Ph) (m : Nat) (cd cs : List AV) (y : Ph) (i n : Nat) (X E : List AV) (h1 : ∀ ρ, ρ 700 = 700 → AV.renL ρ cs = cs) (h2 : ∀ ρ, AV.renL ρ cd = cd) (h3 : ∀ ρ, AV.renL ρ E = E) (g2 : ∀ N, AV.inNL N cd = true) (g3 : ∀ N, AV.inNL N E = true) (gi : ∀ N, AV.inNL N cs = true) : (fewS1 s M m cd cs y i n (.row 37 evT 14 n) n X E).to (fewS2 s M m cd cs y i n (.row 700 evT 14 n) n 700 E) := by
 refine St.to.trans (St.to.of_le (τ := fewS2 s M m cd cs y i n (.row 37 evT 14 n) n 37 E) (St.le_of (by simp [leT]) (by simp [leH, hget]))) ?_
 have h := St.to.rn (σ := fewS2 s M m cd cs y i n (.row 37 evT 14 n) n 37 E) (fun r => if r = 37 then 700 else r) (fun r => if r = 700 then 37 else r) [2, 3, 5, 600, 601, 37] (by simp [AV.inNL, AV.inN]) (by simp) (by simp [inH, AV.inNL, AV.inN, inNL_map, g2, g3, gi]) (by simp) (by simp)
 simp [AV.renL, AV.ren, renH, h1, h2, h3] at h
 exact h
theorem stU_rn (s : Int) (M : List Ph) (m : Nat) (cd cs X : List AV) (n i : Nat) (h1 : ∀ ρ, ρ 700 = 700 → AV.renL ρ cs = cs) (h2 : ∀ ρ, AV.renL ρ cd = cd) (h3 : ∀ ρ, AV.renL ρ X = X) (g1 : ∀ N : List Nat, N.contains 700 = true → AV.inNL N cs = true) (g2 : ∀ N, AV.inNL N cd = true) (g3 : ∀ N, AV.inNL N X = true) : (stU s M 71 601 m cd cs X n i).to (stU s M 600 601 m cd cs X n i) := by
 have h := St.to.rn (σ := stU s M 71 601 m cd cs X n i) (fun r => if r = 71 then 600 else r) (fun r => if r = 600 then 71 else r) [2, 3, 71, 601, 700] (by simp [AV.inNL, AV.inN]) (by simp) (by simp [inH, AV.inNL, AV.inN, inNL_map, g1, g2, g3]) (by simp) (by simp)
 simp [AV.renL, AV.ren, renH, h1, h2, h3] at h
 exact h
theorem min_if (n k : Nat) : (if (k : Int) < (n : Int) then (k : Int) else (n : Int)) = ((min n k : Nat) : Int) := by split <;> omega
theorem take_min' {α : Type} (l : List α) (k : Nat) : l.take (min l.length k) = l.take k := by
 rcases Nat.le_total l.length k with h | h
 · rw [Nat.min_eq_left h, List.take_length, List.take_of_length_le h]
 · rw [Nat.min_eq_right h]
theorem cellsX_refs (k : Nat) (l : List Ph) (d : Nat) : AV.refsL d (cellsX k l) = false := by
 unfold cellsX
 split
 · exact refsL_map d _
 · rfl
theorem cellsX_ren (k : Nat) (l : List Ph) (ρ : Nat → Nat) : AV.renL ρ (cellsX k l) = cellsX k l := by
 unfold cellsX
 split
 · exact renL_map ρ _
 · rfl
theorem cellsX_in (k : Nat) (l : List Ph) (N : List Nat) : AV.inNL N (cellsX k l) = true := by
 unfold cellsX
 split
 · exact inNL_map N _
 · rfl
theorem cellsX_frz (k : Nat) (l : List Ph) (pcs : List PV) : AV.frzL 37 pcs (cellsX k l) = cellsX k l := by
 unfold cellsX
 split
 · exact frzL_map _ _ _
 · rfl
theorem frzL_app2 (r : Nat) (pcs : List PV) (a b : List AV) : AV.frzL r pcs (a ++ b) = AV.frzL r pcs a ++ AV.frzL r pcs b := by
 induction a with
 | nil => simp [AV.frzL]
 | cons x a ih => simp [AV.frzL, ih]
theorem cellsK_frz : ∀ (k : Nat) (l : List Ph) (pcs : List PV), AV.frzL 37 pcs (cellsK k l) = cellsK k l
 | _, [], pcs => by simp [cellsK, AV.frzL]
 | 0, p :: l, pcs => by simp [cellsK, AV.frzL, AV.frz]
 | k + 1, p :: l, pcs => by
  simp only [cellsK]
  rw [frzL_app2, frzL_map, cellsK_frz k l pcs]
theorem few_fnK (k : Nat) (c : Cs) (hc : c.raw) : Fn Tryz.prog 9 [csA c] [] (.agg [vi .u64 c.snd, .row 600 phT 4 (cutC c).ph.length, .row 601 23 1 (cutC c).cd.length]) [(600, cellsK k (cutC c).ph), (601, raA (cutC c).cd), (700, cellsX k (cutC c).ph)] := by
 obtain ⟨s, ph, cd⟩ := c
 obtain ⟨hs, ⟨hpl, hpo⟩, hcl, hco⟩ := hc
 dsimp only at hs hpl hpo hcl hco
 have p8 : ph.length < 9223372036854775808 := Nat.lt_succ_of_le hpl
 have c8 : cd.length < 9223372036854775808 := Nat.lt_succ_of_le hcl
 have c1 := cloneA_fn false (cd.take 60) (by rw [List.length_take]; omega)
 have e1 : (if (60 : Int) < (cd.length : Int) then (60 : Int) else (cd.length : Int)) = ((min cd.length 60 : Nat) : Int) := min_if cd.length 60
 have e2 : (cd.flatMap apv).take (min cd.length 60 * 1) = (cd.take 60).flatMap apv := by rw [flat_take apv_len, take_min']
 have e3 : (cd.take 60).length = min cd.length 60 := by rw [List.length_take, Nat.min_comm]
 have e4 : (if (4 : Int) < (ph.length : Int) then (4 : Int) else (ph.length : Int)) = ((min ph.length 4 : Nat) : Int) := min_if ph.length 4
 have e5 : (ph.flatMap Ph.pv).take (min ph.length 4 * 4) = (ph.take 4).flatMap Ph.pv := by rw [flat_take ph_len, take_min']
 have e6 : (ph.take 4).length = min ph.length 4 := by rw [List.length_take, Nat.min_comm]
 have hpo' : ∀ p ∈ ph.take 4, p.raw := fun p hp => hpo p (List.mem_of_mem_take hp)
 show Fn Tryz.prog 9 [.agg [vi .u64 s, phs false ph, asl false cd]] [] (.agg [vi .u64 s, .row 600 phT 4 ((ph.take 4).map cutP).length, .row 601 23 1 (cd.take 60).length]) [(600, cellsK k ((ph.take 4).map cutP)), (601, raA (cd.take 60)), (700, cellsX k ((ph.take 4).map cutP))]
 have h4 : (ph.take 4).length ≤ 4 := by rw [List.length_take]; omega
 rw [e3] at c1
 rw [← e3] at e1 e2 c1
 rw [Nat.mul_one] at e2
 rw [← e6] at e4 e5
 generalize cd.take 60 = D at *
 generalize ph.take 4 = M at *
 unfold rcA at c1
 have f1 : ∀ d, AV.refsL d ((D.flatMap apv).map .c) = false := fun d => refsL_map d _
 have f4 : ((D.flatMap apv).map AV.c).length = D.length := by rw [List.length_map, flat_length apv_len, Nat.mul_one]
 rw [show (M.map cutP).length = M.length from List.length_map _]
 (refine fn_of Tryz.func9 rfl (by rfl) ?_; simp only [Tryz.ntmps9, List.length_cons, List.length_nil, Nat.reduceAdd, Nat.reduceSub, List.replicate, List.cons_append, List.nil_append])
 (repeat (any_goals (first | ((with_reducible refine evL_one ?_ ?_); rfl; intro K hK; simp (disch := omega) only [go_sem, e1, e2, Bool.false_and, Nat.mul_one]; ((repeat (refine ndI (by first | assumption | rfl) ?_)); refine hK _ ?_; clear hK K)) | (with_reducible first | (refine evL_nil ?_; refine hR _ ?_; clear hR R) | ((first | refine evC_seq ?_); intro J hJ hJ') | (refine evC_region ?_; intro R hR) | (refine hJ _ ?_; clear hJ hJ' J)) | ((first | ((with_reducible apply evD_any); rfl; rfl; (simp (disch := omega) only [rdE, rdOf, go_sem, e1, e2, Bool.false_and, Nat.mul_one]; rfl); (intro τ hA hQ hN; ((try simp only [agree, Op.operands, Call.operands, go_sem, e1, e2, Bool.false_and, Nat.mul_one, go_sem, List.mem_cons, List.not_mem_nil, forall_eq_or_imp, forall_eq, List.append_toArray, Option.toArray] at hA); (try simp only [go_sem, e1, e2, Bool.false_and, Nat.mul_one, List.mem_cons, List.not_mem_nil, forall_eq_or_imp, forall_eq] at hQ hN); (first | (revert hA; intro hA)); (first | (revert hQ; intro hQ)); (first | (revert hN; intro hN)); simp (disch := omega) only [go_sem, e1, e2, Bool.false_and, Nat.mul_one, go_sem, hA, hQ, hN]; (repeat (refine ndI (by first | assumption | omega | rfl) ?_)); (first | apply eff_rd))))); (simp (disch := omega) only [St.eff, setO, hputs, go_sem, e1, e2, Bool.false_and, Nat.mul_one])) | ((with_reducible refine evC_draw ?_ ?_ ?_ ?_); kernel_rfl; kernel_rfl; (first | kernel_rfl); intro R hR))))
 refine evD_call_new c1 rfl rfl rfl rfl rfl Tryz.func36 (by kernel_rfl) rfl ?_ rfl (by omega) ?_
 · simp only [argsOk, argOk, AV.ren, go_sem]
 simp only [St.eff, setO, hputs, go_sem]
 (have W := ndI e4 (ndI e5 (ndI f1 f4)); (repeat (any_goals (first | ((with_reducible refine evL_one ?_ ?_); rfl; intro K hK; simp (disch := omega) only [go_sem, W, Bool.false_and]; ((repeat (refine ndI (by first | assumption | omega | rfl) ?_)); refine hK _ ?_; clear hK K)) | (with_reducible first | (refine evL_nil ?_; refine hR _ ?_; clear hR R) | ((first | refine evC_seq ?_ | refine evC_block ?_); intro J hJ hJ') | (refine evC_region ?_; intro R hR) | (refine hJ _ ?_; clear hJ hJ' J)) | ((with_reducible refine evD_nil ?_ ?_); (apply drawOK_sim); (focus (repeat (first | exact Sims.nil | ((apply Sims.cons); (focus (first | ((apply Ef.sim_row); assumption) | exact Ef.sim_refl _)))))); kernel_rfl; (with_reducible refine hR _ ?_); clear hR R) | ((first | ((with_reducible apply evD_any); rfl; rfl; (simp (disch := omega) only [rdE, rdOf, go_sem, W, Bool.false_and]; rfl); (intro τ hA hQ hN; ((try simp only [agree, Op.operands, Call.operands, go_sem, W, Bool.false_and, go_sem, List.mem_cons, List.not_mem_nil, forall_eq_or_imp, forall_eq, List.append_toArray, Option.toArray] at hA); (try simp only [go_sem, W, Bool.false_and, List.mem_cons, List.not_mem_nil, forall_eq_or_imp, forall_eq] at hQ hN); (first | (revert hA; intro hA)); (first | (revert hQ; intro hQ)); (first | (revert hN; intro hN)); simp (disch := omega) only [go_sem, W, Bool.false_and, go_sem, hA, hQ, hN]; (repeat (refine ndI (by first | assumption | rfl) ?_)); (first | apply eff_rd | apply eff_st)))) | ((first | ((with_reducible apply evD_new); rfl; rfl; rfl)); (intro τ hA hQ hN; ((try simp (disch := omega) only [agree, Op.operands, Call.operands, go_sem, W, Bool.false_and, go_sem, List.mem_cons, List.not_mem_nil, forall_eq_or_imp, forall_eq, List.append_toArray, Option.toArray] at hA); (try simp (disch := omega) only [go_sem, W, Bool.false_and, List.mem_cons, List.not_mem_nil, forall_eq_or_imp, forall_eq] at hQ); (first | (revert hA; intro hA)); (first | (revert hQ; intro hQ)); simp (disch := omega) only [go_sem, W, Bool.false_and, go_sem, hA, hQ, hN]; (repeat (refine ndI (by first | assumption | rfl) ?_)); exact eff_nw _ _ _ _)))); (simp (disch := omega) only [St.eff, setO, hputs, go_sem, W, Bool.false_and]))))))
 have snoc : ∀ {i : Nat} {y : Ph}, M[i]? = some y → (M.take (i + 1)).map cutP = (M.take i).map cutP ++ [cutP y] := fun h => by
  rw [List.take_add_one, h, List.map_append]; rfl
 have tl : ∀ i, i ≤ M.length → ((M.take i).map cutP).length = i := fun i h => by rw [List.length_map, List.length_take]; omega
 refine evC_uptoT M.length (fun i => stU s M 600 601 D.length (raA D) (cellsK k ((M.take i).map cutP)) (cellsX k ((M.take i).map cutP)) i i) ?_ ?_
 · refine St.to.trans (St.to.nilcell 3 600 phT 4 1 (cs := [vi .u64 s, nilA, .row 16 23 1 D.length]) (by simp [hget]) rfl (by simp [St.free, freeH, AV.refsL, AV.refs]) (by decide) (by decide)) ?_
   refine St.to.trans (St.to.noname 700 evT (by simp [St.free, freeH, hput, AV.refsL, AV.refs]) (by decide)) ?_
   refine St.to.trans (St.to.of_le (τ := stU s M 600 16 D.length (raA D) [] [] 0 0) (St.le_of (by simp [leT]) (by simp [leH, hget, hput]))) ?_
   have h := St.to.rn (σ := stU s M 600 16 D.length (raA D) [] [] 0 0) (fun r => if r = 16 then 601 else r) (fun r => if r = 601 then 16 else r) [2, 3, 600, 16, 700] (by simp [AV.inNL, AV.inN]) (by simp) (by simp [inH, AV.inNL, AV.inN, inNL_map]) (by simp) (by simp)
   have e0 : cellsX k ([] : List Ph) = [] := rfl
   have e9 : cellsK k ([] : List Ph) = [] := by unfold cellsK; rfl
   simp only [List.take_zero, List.map_nil, e0, e9]
   simp [AV.renL, AV.ren, renH] at h
   exact h
 intro i hi J hJ hJ'
 (try dsimp only at hJ ⊢)
 have k8 : M.length < 9223372036854775808 := by omega
 rcases Nat.lt_or_ge i M.length with hlt | hge
 · obtain ⟨y, hy⟩ : ∃ x, M[i]? = some x := ⟨_, List.getElem?_eq_getElem hlt⟩
   have k1 : (decide ((i : Int) < (M.length : Int))) = true := decide_eq_true (by omega)
   have k2 := ph_at hy
   have k7 : (i : Int) + 1 = ((i + 1 : Nat) : Int) := by omega
   have yo := hpo' y (List.mem_of_getElem? hy)
   have y8 : y.tr.length < 9223372036854775808 := Nat.lt_succ_of_le yo.2.1
   have ce := cloneE_fn false (y.tr.take 60) (by rw [List.length_take]; omega)
   have g1 : (if (60 : Int) < (y.tr.length : Int) then (60 : Int) else (y.tr.length : Int)) = ((min y.tr.length 60 : Nat) : Int) := min_if y.tr.length 60
   have g2 : (y.tr.flatMap Ev.pv).take (min y.tr.length 60 * 14) = (y.tr.take 60).flatMap Ev.pv := by rw [flat_take ev_len, take_min']
   have g3 : (y.tr.take 60).length = min y.tr.length 60 := by rw [List.length_take, Nat.min_comm]
   have yo' : ∀ e ∈ y.tr.take 60, e.raw := fun e he => yo.2.2 e (List.mem_of_mem_take he)
   have ey : cutP y = { y with tr := (y.tr.take 60).map cutE } := rfl
   have sn := snoc hy
   have tli := tl i hi
   have ck := cellsK_snoc k ((M.take i).map cutP) (cutP y)
   rw [← sn, tli] at ck
   have cx : cellsX k ((M.take (i + 1)).map cutP) = if i = k then raE ((y.tr.take 60).map cutE) else cellsX k ((M.take i).map cutP) := by
    rw [sn]
    unfold cellsX
    rcases Nat.lt_trichotomy k i with h | h | h
    · rw [if_neg (by omega), List.getElem?_append_left (by omega)]
    · rw [if_pos h.symm, List.getElem?_append_right (by omega), tli, h, Nat.sub_self]; rfl
    · rw [if_neg (by omega), List.getElem?_eq_none (by rw [List.length_append, tli]; simp; omega), List.getElem?_eq_none (by omega)]
   have cz : i = k → cellsX k ((M.take i).map cutP) = [] := fun h => by
    unfold cellsX
    rw [List.getElem?_eq_none (by omega)]
   have q1 := fun d h => cellsK_refs k ((M.take i).map cutP) d h
   have q2 := fun ρ h => cellsK_ren k ((M.take i).map cutP) ρ h
   have q3 := fun N h => cellsK_in k ((M.take i).map cutP) N h
   have q5 := fun pcs => cellsK_frz k ((M.take i).map cutP) pcs
   have q4 := cellsK_len k ((M.take i).map cutP)
   rw [tli] at q4
   have x1 := fun d => cellsX_refs k ((M.take i).map cutP) d
   have x2 := fun ρ => cellsX_ren k ((M.take i).map cutP) ρ
   have x4 := fun pcs => cellsX_frz k ((M.take i).map cutP) pcs
   have x3 := fun N => cellsX_in k ((M.take i).map cutP) N
   have hP : i = k → ∀ N, AV.inNL N (cellsK k ((M.take i).map cutP)) = true := fun h N => by
    rw [cellsK_ge _ _ (by omega)]; exact inNL_map N _
   rw [ck, cx] at hJ
   generalize cellsK k ((M.take i).map cutP) = cs at q1 q2 q3 q4 q5 hP hJ ck ⊢
   generalize cellsX k ((M.take i).map cutP) = X at x1 x2 x3 x4 cx cz hJ ⊢
   have hcp : cutP y = ⟨y.role, y.who, y.stk, (y.tr.take 60).map cutE⟩ := rfl
   rw [hcp] at hJ
   rw [← g3] at g1 g2
   clear snoc sn ck cx hcp ey tl
   generalize y.tr.take 60 = N at *
   have hJ0 := fun σ' => hJ σ' (by omega)
   (have W := ndI k1 (ndI k2 (ndI k7 (ndI g1 (ndI g2 (ndI q1 (ndI q2 (ndI q3 (ndI q4 (ndI x1 (ndI x2 x3)))))))))); (repeat (any_goals (first | ((with_reducible refine evL_call ?_ ?_ ?_); rfl; rfl; intro K hK; (apply opA_callR (ce) (fun r => 37); rfl; rfl; rfl; rfl; exact Tryz.func37; kernel_rfl; rfl; rfl; (intro r hr q hq h; simp (disch := omega) only [List.map_cons, List.map_nil, List.cons_append, List.nil_append, List.mem_cons, List.not_mem_nil, or_false] at hr hq; (try dsimp only at h); first | omega); (simp (disch := omega) only [argsOk, argOk, AV.ren, AV.renL, renL_map, List.mem_cons, List.not_mem_nil, forall_eq_or_imp, forall_eq, newOk, List.contains_cons, List.contains_nil, AV.refsL, AV.refs, refsL_map, AV.inN, AV.inNL, inH, inNL_map, go_sem, W, Bool.false_and])); (simp (disch := omega) only [hputs, hdels, renH, AV.ren, AV.renL, renL_map, go_sem, W, Bool.false_and]; refine hK _ ?_; clear hK K)) | ((with_reducible refine evL_one ?_ ?_); rfl; intro K hK; simp (disch := omega) only [go_sem, W, Bool.false_and]; ((repeat (refine ndI (by first | assumption | omega | rfl) ?_)); refine hK _ ?_; clear hK K)) | (with_reducible first | (refine evL_nil ?_; refine hR _ ?_; clear hR R) | ((first | refine evC_seq ?_ | refine evC_block ?_); intro J hJ hJ') | (refine evC_region ?_; intro R hR) | (refine hJ _ ?_; clear hJ hJ' J) | refine evC_skip ?_) | ((with_reducible apply evC_cond); rfl; rfl; all_goals (intro hc; first | (cases hc; done) | (try simp only at hc)))))))
   refine evC_uptoT N.length (fun j => if j < N.length then fewS1 s M D.length (raA D) cs y i N.length (.row 37 evT 14 N.length) j X (raE ((N.take j).map cutE ++ N.drop j)) else if i = k then fewS2 s M D.length (raA D) cs y i N.length (.row 700 evT 14 N.length) j 700 (raE (N.map cutE)) else fewS2 s M D.length (raA D) cs y i N.length (evs false (N.map cutE)) j 700 X) ?_ ?_
   · have r0 : ∀ ρ, AV.renL ρ (raA D) = raA D := fun ρ => renL_map ρ _
     by_cases h0 : 0 < N.length
     · rw [if_pos h0]
       exact St.to.of_le (St.le_of (by simp [leT]) (by simp [leH, hget]))
     · obtain rfl : N = [] := List.eq_nil_of_length_eq_zero (by omega)
       rw [if_neg h0]
       by_cases hik : i = k
       · rw [if_pos hik]
         exact St.to.trans (St.to.of_le (τ := fewS1 s M D.length (raA D) cs y i 0 (.row 37 evT 14 0) 0 X (raE [])) (St.le_of (by simp [leT]) (by simp [leH, hget]))) (few_rn s M D.length (raA D) cs y i 0 X (raE []) q2 r0 (fun ρ => renL_map ρ _) (fun N => inNL_map N _) (fun N => inNL_map N _) (hP hik))
       · rw [if_neg hik]
         exact St.to.trans (St.to.of_le (τ := fewS1 s M D.length (raA D) cs y i 0 (.row 37 evT 14 0) 0 X (raE [])) (St.le_of (by simp [leT]) (by simp [leH, hget]))) (few_frz s M D.length (raA D) cs y i [] X (frzL_map _ _ _) (q5 _) (x4 _))
   intro j hj J hJ hJ'
   (try dsimp only at hJ ⊢)
   have n8 : N.length < 9223372036854775808 := by omega
   have r0 : ∀ ρ, AV.renL ρ (raA D) = raA D := fun ρ => renL_map ρ _
   rcases Nat.lt_or_ge j N.length with hjt | hje
   · obtain ⟨e, he⟩ : ∃ e, N[j]? = some e := ⟨N[j], List.getElem?_eq_getElem hjt⟩
     have c1 : (decide ((j : Int) < (N.length : Int))) = true := by simpa using hjt
     have c7 : (j : Int) + 1 = ((j + 1 : Nat) : Int) := by omega
     rw [if_pos hjt]
     have hA : ((N.take j).map cutE).length = j := by rw [List.length_map, List.length_take]; omega
     have d1 : N.drop j = e :: N.drop (j + 1) := by
      rw [List.drop_eq_getElem_cons hjt]
      congr 1
      exact (List.getElem?_eq_some_iff.1 he).2
     have d2 : (N.take (j + 1)).map cutE ++ N.drop (j + 1) = (N.take j).map cutE ++ (e.with (e.data.take 80)) :: N.drop (j + 1) := by
      rw [List.take_add_one, he, List.map_append]; simp [cutE]
     have eo := yo' e (List.mem_of_getElem? he)
     have e8 : e.data.length < 9223372036854775808 := Nat.lt_succ_of_le eo.2.2.1
     have cb := cloneB_val false (e.data.take 80) (by rw [List.length_take]; omega)
     have m1 : (if (80 : Int) < (e.data.length : Int) then (80 : Int) else (e.data.length : Int)) = ((min e.data.length 80 : Nat) : Int) := min_if e.data.length 80
     have m2 : (e.data.flatMap bpv).take (min e.data.length 80) = (e.data.take 80).flatMap bpv := by
      have := flat_take (f := bpv) bpv_len e.data (min e.data.length 80)
      rw [Nat.mul_one] at this
      rw [this, take_min']
     have m3 : (e.data.take 80).length = min e.data.length 80 := by rw [List.length_take, Nat.min_comm]
     have fin : ∀ σ' : St, σ'.to (fewS1 s M D.length (raA D) cs y i N.length (.row 37 evT 14 N.length) (j + 1) X (raE ((N.take (j + 1)).map cutE ++ N.drop (j + 1)))) → J .normal σ' := fun σ' h => hJ σ' (by omega) (by
      by_cases hl : j + 1 < N.length
      · rw [if_pos hl]; exact h
      · have ej : j + 1 = N.length := by omega
        rw [if_neg hl]
        rw [ej, List.take_length, List.drop_length, List.append_nil] at h
        rw [ej]
        have lm : (N.map cutE).length = N.length := List.length_map _
        by_cases hik : i = k
        · rw [if_pos hik]
          exact h.trans (few_rn s M D.length (raA D) cs y i N.length X (raE (N.map cutE)) q2 r0 (fun ρ => renL_map ρ _) (fun N => inNL_map N _) (fun N => inNL_map N _) (hP hik))
        · rw [if_neg hik]
          have hf := few_frz s M D.length (raA D) cs y i (N.map cutE) X (frzL_map _ _ _) (q5 _) (x4 _)
          rw [lm] at hf
          exact h.trans hf)
     rw [d2] at fin
     rw [d1]
     generalize (N.take j).map cutE = A at hA fin ⊢
     generalize N.drop (j + 1) = B at fin ⊢
     have u1 := ecell (B := B) (y := e) hA
     have u3 := spl_data (B := B) (y := e) hA (e.data.take 80)
     have u5 := raE_len (A ++ e :: B)
     have v1 : j * 14 + 14 ≤ (raE (A ++ e :: B)).length := by rw [u5, List.length_append, List.length_cons]; omega
     rw [← m3] at m1 m2
     generalize e.data.take 80 = D8 at *
     have w1 : ∀ d, AV.refsL d (raE (A ++ e :: B)) = false := fun d => refsL_map d _
     have w2 : ∀ d, AV.refsL d (raE (A ++ e.with D8 :: B)) = false := fun d => refsL_map d _
     (have W := ndI c1 (ndI c7 (ndI m1 (ndI m2 (ndI u1 (ndI u3 (ndI w1 (ndI w2 (ndI q1 (ndI x1 @wrI))))))))); (repeat (any_goals (first | ((with_reducible refine evL_one ?_ ?_); rfl; intro K hK; simp (disch := omega) only [go_sem, W, Bool.false_and, Nat.mul_one]; ((repeat (refine ndI (by first | assumption | rfl) ?_)); refine hK _ ?_; clear hK K)) | (with_reducible first | (refine evL_nil ?_; refine hR _ ?_; clear hR R) | ((first | refine evC_seq ?_ | refine evC_block ?_); intro J hJ hJ') | (refine evC_region ?_; intro R hR) | (refine hJ _ ?_; clear hJ hJ' J) | refine evC_skip ?_) | ((with_reducible refine hJ' _ _ ?_ ?_); (focus (simp; done)); clear hJ hJ' J) | ((with_reducible apply evC_cond); rfl; rfl; all_goals (intro hc; first | (cases hc; done) | (try simp only at hc))) | ((with_reducible refine evD_nil ?_ ?_); (apply drawOK_sim); (focus (repeat (first | exact Sims.nil | ((apply Sims.cons); (focus (first | ((apply Ef.sim_row); assumption) | exact Ef.sim_refl _)))))); kernel_rfl; (with_reducible refine hR _ ?_); clear hR R) | ((first | ((with_reducible apply evD_fcall); rfl; rfl; ((apply opF_callB (cb); rfl; rfl; rfl; rfl; exact Tryz.func38); kernel_rfl; rfl; (focus ((simp (disch := omega) only [go_sem, W, Bool.false_and, Nat.mul_one]); (try rfl); done)); (first | rfl))) | ((with_reducible apply evD_any); rfl; rfl; (simp (disch := omega) only [rdE, rdOf, go_sem, W, Bool.false_and, Nat.mul_one]; rfl); (intro τ hA hQ hN; ((try simp only [agree, Op.operands, Call.operands, go_sem, W, Bool.false_and, Nat.mul_one, go_sem, List.mem_cons, List.not_mem_nil, forall_eq_or_imp, forall_eq, List.append_toArray, Option.toArray] at hA); (try simp only [go_sem, W, Bool.false_and, Nat.mul_one, List.mem_cons, List.not_mem_nil, forall_eq_or_imp, forall_eq] at hQ hN); (first | (revert hA; intro hA)); (first | (revert hQ; intro hQ)); (first | (revert hN; intro hN)); simp (disch := omega) only [go_sem, W, Bool.false_and, Nat.mul_one, go_sem, hA, hQ, hN]; (repeat (refine ndI (by first | assumption | omega | rfl) ?_)); (first | apply eff_rd | apply eff_st))))); (simp (disch := omega) only [St.eff, setO, hputs, go_sem, W, Bool.false_and, Nat.mul_one])) | ((with_reducible refine evC_draw ?_ ?_ ?_ ?_); kernel_rfl; kernel_rfl; (simp [newNames, isNew, St.free, freeH, AV.refsL, AV.refs, q1, x1, w1]); intro R hR)))))
     all_goals exact fin _ (St.to.of_le (St.le_of (by simp [leT]) (by simp [leH, hget])))
   · have c1 : (decide ((j : Int) < (N.length : Int))) = false := by simpa using hje
     rw [if_neg (by omega)]
     have f5 : (raA D).length = D.length := by rw [List.length_map, flat_length apv_len, Nat.mul_one]
     have w3 : ∀ d, AV.refsL d (raA D) = false := fun d => refsL_map d _
     have w4 : ∀ d, AV.refsL d (raE (N.map cutE)) = false := fun d => refsL_map d _
     have q6 : cs.length = i * 4 := q4
     have lm : (N.map cutE).length = N.length := List.length_map _
     by_cases hik : i = k
     · rw [if_pos hik]
       rw [if_pos hik, if_pos hik] at hJ0
       dsimp only [fewS2]
       (repeat (any_goals (first | ((with_reducible refine evL_one ?_ ?_); rfl; intro K hK; simp (disch := omega) only [go_sem, c1, k7, q1, q6, w3, w4, wrI]; ((repeat (refine ndI (by first | assumption | omega | rfl) ?_)); refine hK _ ?_; clear hK K)) | (with_reducible first | (refine evL_nil ?_; refine hR _ ?_; clear hR R) | ((first | refine evC_seq ?_); intro J hJ hJ') | (refine evC_region ?_; intro R hR) | (refine hJ _ ?_; clear hJ hJ' J) | refine evC_exit ?_) | ((with_reducible refine hJ' _ _ ?_ ?_); (focus (simp; done)); clear hJ hJ' J) | ((with_reducible apply evC_cond); rfl; rfl; all_goals (intro hc; first | (cases hc; done) | (try simp only at hc))))))
       all_goals refine hJ0 _ (St.to.trans (St.to.of_le (τ := stU s M 71 601 D.length (raA D) (cs ++ phR ⟨y.role, y.who, y.stk, N.map cutE⟩) (raE (N.map cutE)) (i + 1) (i + 1)) (St.le_of (by simp [leT]) (by simp [leH, hget]))) (stU_rn s M D.length (raA D) _ _ _ _ ?_ r0 (fun ρ => renL_map ρ _) ?_ (fun N => inNL_map N _) (fun N => inNL_map N _)))
       · intro ρ h
         rw [renL_app, q2 ρ h]
         simp [AV.renL, AV.ren, h]
       · intro N h
         rw [inNL_app, q3 N h]
         simp [AV.inNL, AV.inN]
         simpa using h
     · rw [if_neg hik]
       rw [if_neg hik, if_neg hik] at hJ0
       dsimp only [fewS2]
       (repeat (any_goals (first | ((with_reducible refine evL_one ?_ ?_); rfl; intro K hK; simp (disch := omega) only [go_sem, c1, k7, q1, q6, w3, x1, wrI]; ((repeat (refine ndI (by first | assumption | omega | rfl) ?_)); refine hK _ ?_; clear hK K)) | (with_reducible first | (refine evL_nil ?_; refine hR _ ?_; clear hR R) | ((first | refine evC_seq ?_); intro J hJ hJ') | (refine evC_region ?_; intro R hR) | (refine hJ _ ?_; clear hJ hJ' J) | refine evC_exit ?_) | ((with_reducible refine hJ' _ _ ?_ ?_); (focus (simp; done)); clear hJ hJ' J) | ((with_reducible apply evC_cond); rfl; rfl; all_goals (intro hc; first | (cases hc; done) | (try simp only at hc))))))
       all_goals refine hJ0 _ (St.to.trans (St.to.of_le (τ := stU s M 71 601 D.length (raA D) (cs ++ (Ph.pv ⟨y.role, y.who, y.stk, N.map cutE⟩).map .c) X (i + 1) (i + 1)) (St.le_of (by simp [leT]) (by simp [leH, hget, Ph.pv]))) (stU_rn s M D.length (raA D) _ _ _ _ ?_ r0 x2 ?_ (fun N => inNL_map N _) x3))
       · intro ρ h
         rw [renL_app, q2 ρ h, renL_map]
       · intro N h
         rw [inNL_app, q3 N h, inNL_map]
         rfl
 · have k1 : (decide ((i : Int) < (M.length : Int))) = false := decide_eq_false (by omega)
   have ei : i = M.length := by omega
   rw [ei, List.take_length]
   have w3 : ∀ d, AV.refsL d (raA D) = false := fun d => refsL_map d _
   have q1 := fun d h => cellsK_refs k (M.map cutP) d h
   have x1 := fun d => cellsX_refs k (M.map cutP) d
   rw [ei] at k1
   (repeat (any_goals (first | ((with_reducible refine evL_one ?_ ?_); rfl; intro K hK; simp (disch := omega) only [go_sem, k1, q1, x1, w3, wrI]; ((repeat (refine ndI (by first | assumption | rfl) ?_)); refine hK _ ?_; clear hK K)) | (with_reducible first | (refine evL_nil ?_; refine hR _ ?_; clear hR R) | ((first | refine evC_seq ?_); intro J hJ hJ') | (refine evC_region ?_; intro R hR) | (refine hJ _ ?_; clear hJ hJ' J) | refine evC_ret ?_ | refine evC_exit ?_) | ((with_reducible refine hJ' _ _ ?_ ?_); (focus (simp; done)); clear hJ hJ' J) | ((with_reducible apply evC_cond); rfl; rfl; all_goals (intro hc; first | (cases hc; done) | (try simp only at hc))))))
   all_goals (refine ⟨by simp, ⟨_, ?_, AV.le_refl _⟩, leH_get (by simp [leH, hget])⟩; simp only [Tryz.results9, resL, ldA, oneOf, go_sem])
end Go.Proofs.YtgdjkkapgghdbaaGreatDoor
namespace Go.Proofs.YtgdjkkapgghdbaaGreatDoor
open Go.RowKit
open Nat (reduceBEq)
attribute [-go_sem] IntKind.bits
set_option maxRecDepth 20000
set_option maxHeartbeats 2000000
theorem few_row (c : Cs) (hc : c.raw) : Fn Tryz.prog 9 [csA c] [] (.agg [vi .u64 c.snd, .row 600 phT 4 (cutC c).ph.length, asl false (cutC c).cd]) [(600, raP (cutC c).ph)] := by
 have h := few_fnK 10 c hc
 have h4 := cutC_len c
 rw [cellsK_ge 10 _ (by omega)] at h
 have h1 := h.frzN (d := 601) (pcs := (cutC c).cd.flatMap apv) (by simp [hget])
 have h2 := h1.weaken (H2 := [(600, raP (cutC c).ph)]) (AV.le_refl _) (fun r cs hr => by
  rw [hget_cons] at hr
  split at hr
  · rename_i e
    subst e; cases hr
    exact ⟨[], by simp [frzH, hget]⟩
  · cases hr)
 have e1 : ((cutC c).cd.flatMap apv).length = (cutC c).cd.length * 1 := flat_length apv_len _
 simpa [-List.length_flatMap, AV.frz, AV.frzL, e1] using h2
def PV.le (p q : PV) : Prop := ∀ S w v, RVp S w v p → RVp S w v q
theorem PV.le_refl (p : PV) : p.le p := fun _ _ _ h => h
theorem PV.le_nil (ex : Bool) (sz : Nat) : (PV.v (.slice none 0 0)).le (.sl ex sz 0 []) := fun S w v h => by
 cases h with
 | v _ h => exact .sl ex sz none 0 0 [] [] (Nat.le_refl _) (Nat.zero_le _) (fun _ => rfl) (fun _ => rfl) rfl (by simp) (fun h => absurd rfl h) fun j u x hu => by cases hu
def PV.leL : List PV → List PV → Prop
 | [], [] => True
 | p :: l, q :: m => p.le q ∧ PV.leL l m
 | _, _ => False
theorem PV.leL_len : ∀ {l m : List PV}, PV.leL l m → l.length = m.length
 | [], [], _ => rfl
 | p :: l, q :: m, h => by simp [PV.leL_len h.2]
theorem PV.leL_get : ∀ {l m : List PV}, PV.leL l m → ∀ (j : Nat) (p q : PV), l[j]? = some p → m[j]? = some q → p.le q
 | [], [], _, j, p, q, h, _ => by simp at h
 | x :: l, y :: m, h, 0, p, q, h1, h2 => by simp at h1 h2; subst h1 h2; exact h.1
 | x :: l, y :: m, h, j + 1, p, q, h1, h2 => PV.leL_get h.2 j p q (by simpa using h1) (by simpa using h2)
theorem PV.le_sl {ex ex' : Bool} (he : ex' = true → ex = true) {sz n : Nat} {ps qs : List PV} (h : PV.leL ps qs) : (PV.sl ex sz n ps).le (.sl ex' sz n qs) := fun S w v hv => by
 cases hv with
 | sl _ _ A _ c us _ h1 h2 h3 hx hl hn h4 h5 =>
  have hlen := PV.leL_len h
  refine .sl ex' sz A n c us qs h1 h2 h3 (fun e => hx (he e)) (hl.trans hlen) (by rw [← hlen]; exact hn) h4 fun j u x hu hx' => ?_
  have hj := (List.getElem?_eq_some_iff.1 hx').1
  have hp : ps[j]? = some ps[j] := List.getElem?_eq_getElem (by omega)
  exact PV.leL_get h j _ _ hp hx' S w u (h5 j u _ hu hp)
theorem AV.le_pv {p q : PV} (h : p.le q) : (AV.c p).le (.c q) := fun S ι w v hv => by
 cases hv with
 | c _ _ hp => exact .c _ _ (h S w v hp)
def plainE : Ev := ⟨2, 0, 30, 0, 0, 5, 0, []⟩
def plainC (b : Bool) : Cs := ⟨20, [⟨2, 20, false, []⟩, ⟨3, 30, b, [plainE]⟩], []⟩
theorem plain_fn (b : Bool) : Fn Tryz.prog 35 [vb b] [] (csA (plainC b)) [] := by
 have h : Fn Tryz.prog 35 [vb b] [] (.agg [vi .u64 20, .c (.sl true 4 2 [.v (.int .i64 2), .v (.int .u64 20), .v (.bool false), .v (.slice none 0 0), .v (.int .i64 3), .v (.int .u64 30), .v (.bool b), .sl true 14 1 [.v (.int .i64 2), .v (.int .i64 0), .v (.int .u64 30), .v (.int .u64 0), .v (.int .u8 0), .v (.int .u64 5), .v (.int .u64 0), .v (.int .u64 0), .v (.int .u64 0), .v (.int .u64 0), .v (.int .u64 0), .v (.int .u64 0), .v (.int .u64 0), .v (.slice none 0 0)]]), nilA]) [] := by
  (refine fn_of Tryz.func35 rfl (by rfl) ?_; simp only [Tryz.ntmps35, List.length_cons, List.length_nil, Nat.reduceAdd, Nat.reduceSub, List.replicate, List.cons_append, List.nil_append])
  (repeat (any_goals (first | ((with_reducible refine evL_op ?_ ?_); rfl; intro K hK; apply opA_buildSlice_flat; rfl; rfl; (focus (simp only [go_sem]; try rfl)); (focus (simp only [go_sem]; try rfl)); rfl; (first | omega); (first | omega); (first | omega); (simp only [go_sem]; rfl); rfl; (focus ((simp only [unC, Option.map_some]); (try rfl))); (simp only [go_sem]; refine hK _ ?_; clear hK K)) | ((with_reducible refine evL_one ?_ ?_); rfl; intro K hK; simp only [go_sem]; ((repeat (refine ndI (by first | assumption) ?_)); refine hK _ ?_; clear hK K)) | (with_reducible first | (refine evL_nil ?_; refine hR _ ?_; clear hR R) | ((first | refine evC_seq ?_); intro J hJ hJ') | (refine evC_region ?_; intro R hR) | (refine hJ _ ?_; clear hJ hJ' J) | refine evC_ret ?_))))
  all_goals (refine ⟨by simp, ⟨_, ?_, AV.le_refl _⟩, leH_get (by simp [leH, hget])⟩; simp only [Tryz.results35, resL, ldA, oneOf, go_sem])
 have hle : (AV.agg [vi .u64 20, .c (.sl true 4 2 [.v (.int .i64 2), .v (.int .u64 20), .v (.bool false), .v (.slice none 0 0), .v (.int .i64 3), .v (.int .u64 30), .v (.bool b), .sl true 14 1 [.v (.int .i64 2), .v (.int .i64 0), .v (.int .u64 30), .v (.int .u64 0), .v (.int .u8 0), .v (.int .u64 5), .v (.int .u64 0), .v (.int .u64 0), .v (.int .u64 0), .v (.int .u64 0), .v (.int .u64 0), .v (.int .u64 0), .v (.int .u64 0), .v (.slice none 0 0)]]), nilA]).le (csA (plainC b)) := by
  refine AV.le_agg ⟨AV.le_refl _, AV.le_pv (PV.le_sl (by simp) ?_), AV.le_nil false 1, trivial⟩
  refine ⟨PV.le_refl _, PV.le_refl _, PV.le_refl _, PV.le_nil false 14, PV.le_refl _, PV.le_refl _, PV.le_refl _, PV.le_sl (by simp) ?_, trivial⟩
  exact ⟨PV.le_refl _, PV.le_refl _, PV.le_refl _, PV.le_refl _, PV.le_refl _, PV.le_refl _, PV.le_refl _, PV.le_refl _, PV.le_refl _, PV.le_refl _, PV.le_refl _, PV.le_refl _, PV.le_refl _, PV.le_nil false 1, trivial⟩
 exact h.weaken hle (fun r cs hr => by cases hr)
theorem plain_ok (b : Bool) : (plainC b).ok := by
 refine ⟨by cases b <;> decide, ⟨by cases b <;> decide, fun p hp => ?_⟩, by cases b <;> decide, fun a ha => by cases ha⟩
 rcases List.mem_cons.1 hp with rfl | hp
 · exact ⟨by decide, by decide, fun e he => by cases he⟩
 · rcases List.mem_cons.1 hp with rfl | hp
   · refine ⟨by cases b <;> decide, by cases b <;> decide, fun e he => ?_⟩
     rcases List.mem_cons.1 he with rfl | he
     · exact ⟨by decide, by decide, by decide, fun b hb => (by cases hb), by decide, by decide⟩
     · cases he
   · cases hp
theorem plain_case (b : Bool) : caseB (plainC b) = true := by cases b <;> rfl
theorem plain_b0 : brkC (plainC false) = [⟨1, 0, 7⟩] := by rfl
theorem plain_b1 : brkC (plainC true) = [] := by rfl
theorem plain_for : (foreignC (plainC true)).length = 1 := by
 unfold foreignC
 rw [if_pos (plain_case true)]
 have e : canS (keepL (fun s => belongsB (plainC true) s (plainC true).snd) ((plainC true).ph.flatMap fun p => canS (toldS [2, 3] p.tr))) = [⟨30, 5⟩] := by
  have e1 : ((plainC true).ph.flatMap fun p => canS (toldS [2, 3] p.tr)) = [⟨30, 5⟩] := by
   show canS [] ++ (canS [(⟨30, 5⟩ : Sp)] ++ []) = _
   simp [canS, ddS]
  rw [e1]
  have e2 : keepL (fun s => belongsB (plainC true) s (plainC true).snd) [⟨30, 5⟩] = [⟨30, 5⟩] := by rfl
  rw [e2]
  simp [canS, ddS]
 rw [e]
 rfl
theorem wakes_fn : Fn Tryz.prog 8 [] [] (vb true) [] := by
 have p0 := plain_fn false
 have p1 := plain_fn true
 have h0 := holds_fn (plainC false) (plain_ok false)
 have h1 := holds_fn (plainC true) (plain_ok true)
 obtain ⟨r, hr1, hr2, en⟩ := entities_yes (plainC true) (plain_ok true) (plain_case true)
 have fo := foreign_fn (plainC true) (plain_ok true)
 have e0 : holdsB (plainC false) = ⟨1, 0, 7⟩ := by unfold holdsB brokenC; rw [if_pos (plain_case false), plain_b0]
 have e1 : holdsE (plainC false) = 321 := by unfold holdsE; rw [if_pos (plain_case false), plain_b0]
 have e2 : holdsB (plainC true) = ⟨0, 0, 0⟩ := by unfold holdsB brokenC; rw [if_pos (plain_case true), plain_b1]
 have e3 : holdsE (plainC true) = 0 := by unfold holdsE; rw [if_pos (plain_case true), plain_b1]
 rw [e0, e1] at h0
 rw [e2, e3] at h1
 have er : r = [20, 30] := rise_eq hr1 (by decide) fun x => by rw [hr2]; rfl
 subst er
 have ef := plain_for
 generalize foreignC (plainC true) = F at fo ef
 clear e0 e1 e2 e3 hr1 hr2
 generalize plainC false = P0 at p0 h0
 generalize plainC true = P1 at p1 h1 en fo
 have k1 : ((F.length : Int) == 1) = true := by rw [ef]; rfl
 (refine fn_of Tryz.func8 rfl (by rfl) ?_; simp only [Tryz.ntmps8, List.length_cons, List.length_nil, Nat.reduceAdd, Nat.reduceSub, List.replicate, List.cons_append, List.nil_append])
 (repeat (any_goals (first | ((with_reducible refine evL_call ?_ ?_ ?_); rfl; rfl; intro K hK; (first | ((apply opA_callB (p0); rfl; rfl; rfl; rfl; exact Tryz.func35); kernel_rfl; rfl; (focus ((simp only [go_sem, k1]); (try rfl); done)); (first | rfl)) | ((apply opA_callB (p1); rfl; rfl; rfl; rfl; exact Tryz.func35); kernel_rfl; rfl; (focus ((simp only [go_sem, k1]); (try rfl); done)); (first | rfl)) | ((apply opA_callB (h0); rfl; rfl; rfl; rfl; exact Tryz.func27); kernel_rfl; rfl; (focus ((simp only [go_sem, k1]); (try rfl); done)); (first | rfl)) | ((apply opA_callB (h1); rfl; rfl; rfl; rfl; exact Tryz.func27); kernel_rfl; rfl; (focus ((simp only [go_sem, k1]); (try rfl); done)); (first | rfl))); (simp only [go_sem, k1]; refine hK _ ?_; clear hK K)) | ((with_reducible refine evL_one ?_ ?_); rfl; intro K hK; simp only [go_sem, k1]; ((repeat (refine ndI (by first | assumption) ?_)); refine hK _ ?_; clear hK K)) | (with_reducible first | (refine evL_nil ?_; refine hR _ ?_; clear hR R) | ((first | refine evC_seq ?_); intro J hJ hJ') | (refine evC_region ?_; intro R hR) | (refine hJ _ ?_; clear hJ hJ' J) | refine evC_ret ?_) | ((with_reducible apply evL_grd); rfl; rfl; rfl; all_goals (intro hb; first | (cases hb; done) | ((try simp only [Bool.not_true, Bool.not_false] at hb); (first | ((with_reducible intro K hK); (first | ((first | (apply opA_callB (en); rfl; rfl; rfl; rfl; exact Tryz.func17) | (apply opA_callB (fo); rfl; rfl; rfl; rfl; exact Tryz.func13)); kernel_rfl; rfl; (focus ((simp only [go_sem, k1]); (try rfl); done)); (first | rfl)) | ((apply opA_callB (p1); rfl; rfl; rfl; rfl; exact Tryz.func35); kernel_rfl; rfl; (focus ((simp only [go_sem, k1]); (try rfl); done)); (first | rfl)) | skip); simp only [go_sem, k1]; ((repeat (refine ndI (by first | assumption) ?_)); refine hK _ ?_; clear hK K)))))))))
 all_goals (refine ⟨by simp, ⟨_, ?_, AV.le_refl _⟩, leH_get (by simp [leH, hget])⟩; simp only [Tryz.results8, resL, ldA, oneOf, go_sem])
end Go.Proofs.YtgdjkkapgghdbaaGreatDoor
namespace Go.Proofs.YtgdjkkapgghdbaaGreatDoor
open Go.RowKit
def leP (p q : Ph) : Prop := p.role = q.role ∧ p.who = q.who ∧ p.tr = q.tr ∧ (p.stk = true → q.stk = true)
def lePs : List Ph → List Ph → Prop
 | [], [] => True
 | p :: l, q :: m => leP p q ∧ lePs l m
 | _, _ => False
def leC (c d : Cs) : Prop := c.snd = d.snd ∧ c.cd = d.cd ∧ lePs c.ph d.ph
theorem phsB_le (s : Int) : ∀ {l m : List Ph}, lePs l m → ∀ k, phsB s l k = phsB s m k
 | [], [], _, _ => rfl
 | p :: l, q :: m, h, k => by
  obtain ⟨⟨h1, h2, h3, _⟩, h4⟩ := h
  unfold phsB phB
  rw [h1, h2, h3, phsB_le s h4]
theorem any_le {f : Ph → Bool} (hf : ∀ p q, leP p q → f p = f q) : ∀ {l m : List Ph}, lePs l m → l.any f = m.any f
 | [], [], _ => rfl
 | p :: l, q :: m, h => by
  simp only [List.any_cons]
  rw [hf p q h.1, any_le hf h.2]
theorem ofS_le : ∀ {l m : List Ph}, lePs l m → ∀ (a b b' : Bool), (b = true → b' = true) → (ofS l (a, b)).1 = (ofS m (a, b')).1 ∧ ((ofS l (a, b)).2 = true → (ofS m (a, b')).2 = true)
 | [], [], _, a, b, b', hb => ⟨rfl, hb⟩
 | p :: l, q :: m, h, a, b, b', hb => by
  obtain ⟨⟨h1, h2, h3, h4⟩, h5⟩ := h
  unfold ofS
  rw [h1]
  cases hq : (q.role == 1)
  · simp only [Bool.false_eq_true, if_false]
    exact ofS_le h5 a b b' hb
  · simp only [if_true]
    exact ofS_le h5 true p.stk q.stk h4
theorem case_le {c d : Cs} (h : leC c d) : caseB c = caseB d := by
 obtain ⟨h1, h2, h3⟩ := h
 unfold caseB
 rw [h1, h2, phsB_le _ h3, any_le (fun p q hpq => by rw [hpq.1]) h3]
theorem belongs_le {c d : Cs} (h : leC c d) (s : Sp) (a : Int) : belongsB c s a = belongsB d s a := by
 unfold belongsB
 rw [any_le (f := assP a s) (fun p q hpq => by unfold assP; rw [hpq.2.2.1]) h.2.2]
theorem ofM_le {c d : Cs} (h : leC c d) : ofM c = ofM d := (ofS_le h.2.2 false true true id).1
theorem ofF_le {c d : Cs} (h : leC c d) : ofF c = true → ofF d = true := (ofS_le h.2.2 false true true id).2
theorem coded_le {c d : Cs} (h : leC c d) (a : Int) : codedB c (ofM c) a = codedB d (ofM d) a := by
 unfold codedB
 rw [ofM_le h, h.1, h.2.1]
theorem makes_le {c d : Cs} (h : leC c d) {p q : Ph} (hp : leP p q) (j : Nat) (e : Ev) : makesB c p j e = makesB d q j e := by
 unfold makesB
 rw [h.1, hp.1, hp.2.2.1]
theorem touch_le {c d : Cs} (h : leC c d) {p q : Ph} (hp : leP p q) (e : Ev) (ht : touchB c (ofF c) p e = true) : touchB d (ofF d) q e = true := by
 unfold touchB at ht ⊢
 rw [← h.1, ← belongs_le h, ← belongs_le h, ← hp.2.1]
 have h1 := ofF_le h
 have h2 := hp.2.2.2
 generalize belongsB c e.sp c.snd = b1 at *
 generalize belongsB c e.sp p.who = b2 at *
 generalize (e.self == c.snd) = b3 at *
 generalize (e.kind == 2) = b4 at *
 generalize ofF c = b5 at *
 generalize ofF d = b6 at *
 generalize p.stk = b7 at *
 generalize q.stk = b8 at *
 revert b1 b2 b3 b4 b5 b6 b7 b8
 decide
theorem rule_le {c d : Cs} (h : leC c d) {p q : Ph} (hp : leP p q) (j : Nat) (e : Ev) (hr : ruleC d q j e > 0) : ruleC c p j e = ruleC d q j e := by
 have ht := touch_le h hp e
 unfold ruleC at hr ⊢
 rw [← makes_le h hp, ← coded_le h] at hr ⊢
 have hs := hp.2.2.2
 generalize makesB c p j e = b1 at *
 generalize codedB c (ofM c) e.to = b2 at *
 generalize touchB c (ofF c) p e = b3 at *
 generalize touchB d (ofF d) q e = b4 at *
 generalize decide (e.op ∈ [49, 71]) = b5 at *
 generalize p.stk = b6 at *
 generalize q.stk = b7 at *
 by_cases k5 : e.kind = 5
 · simp only [k5] at hr ⊢
   revert hr
   unfold ruleN
   simp
   revert hs
   revert b5 b6 b7
   decide
 have k5' : (e.kind == 5) = false := by simpa using k5
 rw [k5', Bool.false_and] at hr ⊢
 rw [Bool.false_and]
 by_cases k23 : ((e.kind == 2) || (e.kind == 3)) = true
 · have g1 : (e.kind == 6) = false := by
     rw [Bool.or_eq_true, beq_iff_eq, beq_iff_eq] at k23
     rcases k23 with k | k <;> rw [k] <;> rfl
   have g2 : (e.kind == 4) = false := by
    rw [Bool.or_eq_true, beq_iff_eq, beq_iff_eq] at k23
    rcases k23 with k | k <;> rw [k] <;> rfl
   rw [k23, g1, g2] at hr ⊢
   simp only [Bool.false_and, Bool.true_and] at hr ⊢
   unfold ruleN at hr ⊢
   revert hr ht
   revert b3 b4
   decide
 · have k23' : ((e.kind == 2) || (e.kind == 3)) = false := by simpa using k23
   rw [k23', Bool.false_and]
   rw [Bool.false_and]
theorem brkP_le {R R' : Nat → Ev → Int} (h : ∀ j e, R' j e > 0 → R j e = R' j e) (i : Nat) : ∀ (l : List Ev) (k : Nat) (b : Bk), b ∈ brkP R' i l k → b ∈ brkP R i l k
 | [], _, b, hb => hb
 | e :: l, k, b, hb => by
  unfold brkP at hb ⊢
  split at hb
  · rename_i hz
    have he := h k e hz
    rw [if_pos (by rw [he]; exact hz), he]
    rcases List.mem_cons.1 hb with rfl | hb
    · exact List.mem_cons_self
    · exact List.mem_cons_of_mem _ (brkP_le h i l (k + 1) b hb)
  · split
    · exact List.mem_cons_of_mem _ (brkP_le h i l (k + 1) b hb)
    · exact brkP_le h i l (k + 1) b hb
theorem brkG_le {R R' : Ph → Nat → Ev → Int} (h : ∀ p q j e, leP p q → R' q j e > 0 → R p j e = R' q j e) : ∀ {l m : List Ph}, lePs l m → ∀ (k : Nat) (b : Bk), b ∈ brkG R' m k → b ∈ brkG R l k
 | [], [], _, _, b, hb => hb
 | p :: l, q :: m, hl, k, b, hb => by
  unfold brkG at hb ⊢
  rcases List.mem_append.1 hb with hb | hb
  · refine List.mem_append_left _ ?_
    rw [hl.1.2.2.1]
    exact brkP_le (fun j e => h p q j e hl.1) k q.tr 0 b hb
  · exact List.mem_append_right _ (brkG_le h hl.2 (k + 1) b hb)
theorem broken_le {c d : Cs} (h : leC c d) (b : Bk) (hb : b ∈ brokenC d) : b ∈ brokenC c := by
 unfold brokenC at hb ⊢
 rw [case_le h]
 split at hb
 · rename_i hc
   rw [if_pos hc]
   exact brkG_le (fun p q j e hpq hr => rule_le h hpq j e hr) h.2.2 0 b hb
 · cases hb
/-! stakes given, and taken -/
def setStk (b : Bool) (p : Ph) : Ph := { p with stk := b }
theorem lePs_refl : ∀ l : List Ph, lePs l l
 | [] => trivial
 | p :: l => ⟨⟨rfl, rfl, rfl, id⟩, lePs_refl l⟩
theorem lePs_set : ∀ (l : List Ph) (k : Nat) (p : Ph), l[k]? = some p → lePs l (l.set k (setStk true p))
 | [], k, p, h => by simp at h
 | q :: l, 0, p, h => by
  simp at h; subst h
  exact ⟨⟨rfl, rfl, rfl, fun _ => rfl⟩, lePs_refl l⟩
 | q :: l, k + 1, p, h => ⟨⟨rfl, rfl, rfl, id⟩, lePs_set l k p (by simpa using h)⟩
theorem lePs_map : ∀ l : List Ph, lePs (l.map (setStk false)) l
 | [] => trivial
 | p :: l => ⟨⟨rfl, rfl, rfl, fun h => by cases h⟩, lePs_map l⟩
theorem bare_own {c : Cs} {p : Ph} (hp : p.stk = false) {j : Nat} {e : Ev} (hk : e.kind = 2 ∨ e.kind = 3) (hr : ruleC c p j e = 0) : belongsB c e.sp c.snd = true := by
 have k23 : ((e.kind == 2) || (e.kind == 3)) = true := by rw [Bool.or_eq_true, beq_iff_eq, beq_iff_eq]; exact hk
 have g1 : (e.kind == 6) = false := by rcases hk with k | k <;> rw [k] <;> rfl
 have g2 : (e.kind == 4) = false := by rcases hk with k | k <;> rw [k] <;> rfl
 have g3 : (e.kind == 5) = false := by rcases hk with k | k <;> rw [k] <;> rfl
 unfold ruleC at hr
 rw [k23, g1, g2, g3] at hr
 simp only [Bool.false_and, Bool.true_and] at hr
 have ht : touchB c (ofF c) p e = true := by
  cases h : touchB c (ofF c) p e
  · rw [h] at hr; simp [ruleN] at hr
  · rfl
 unfold touchB at ht
 rw [hp, Bool.false_and, Bool.or_false] at ht
 have hs : e.sp.a = e.self := rfl
 rcases Bool.or_eq_true_iff.1 ht with h | h
 · unfold belongsB
   rw [hs, h]; rfl
 · exact (Bool.and_eq_true_iff.1 h).2
end Go.Proofs.YtgdjkkapgghdbaaGreatDoor
namespace Go.Proofs.YtgdjkkapgghdbaaGreatDoor
open Go.RowKit
open Nat (reduceBEq)
attribute [-go_sem] IntKind.bits
set_option maxRecDepth 20000
set_option maxHeartbeats 2000000
theorem bk_at {l : List Bk} {i : Nat} {b : Bk} (h : l[i]? = some b) : ((l.flatMap Bk.pv).drop (i * 3)).take 3 = [.v (.int .i64 b.i), .v (.int .i64 b.j), .v (.int .i64 b.r)] := flat_at (f := Bk.pv) bk_len h
theorem bk_eq (p q : Bk) : (p.i == q.i && (p.j == q.j && p.r == q.r)) = decide (p = q) := by
 obtain ⟨a, b, c⟩ := p
 obtain ⟨d, e, f⟩ := q
 rw [Bool.eq_iff_iff]
 simp
theorem indexBk_fn (ex : Bool) (l : List Bk) (x : Bk) (hl : l.length ≤ 1000000) : Fn Tryz.prog 69 [bks ex l, bkA x] [] (vi .i64 (idxF (fun y => decide (x = y)) l 0)) [] := by
 obtain ⟨r, hr⟩ : ∃ r, idxF (fun y => decide (x = y)) l 0 = r := ⟨_, rfl⟩
 rw [hr]
 (refine fn_of Tryz.func69 rfl (by rfl) ?_; simp only [Tryz.ntmps69, List.length_cons, List.length_nil, Nat.reduceAdd, Nat.reduceSub, List.replicate, List.cons_append, List.nil_append])
 (repeat (any_goals (first | ((with_reducible refine evL_one ?_ ?_); rfl; intro K hK; simp only [go_sem]; ((repeat (refine ndI (by first | assumption) ?_)); refine hK _ ?_; clear hK K)) | (with_reducible first | (refine evL_nil ?_; refine hR _ ?_; clear hR R) | ((first | refine evC_seq ?_ | refine evC_block ?_); intro J hJ hJ') | (refine evC_region ?_; intro R hR) | (refine hJ _ ?_; clear hJ hJ' J)))))
 refine evC_loop (α := { i : Nat // i ≤ l.length ∧ idxF (fun y => decide (x = y)) (l.drop i) i = r }) (fun p => ⟨[bks ex l, .any, .any, .ptr 3 0, .any, .any, .any, vi .i64 l.length, vi .i64 (p.1 : Int), .any, .any, .any, .any, .any, .any, .any, .any, .any, .any], [(3, [vi .i64 x.i, vi .i64 x.j, vi .i64 x.r])]⟩) (fun p => l.length - p.1) ⟨0, Nat.zero_le _, hr⟩ (St.le_of (by simp [leT]) (by simp [leH, hget])) ?_
 rintro ⟨i, hi, hd⟩ J hJ hJ'
 (try dsimp only at hJ ⊢)
 rcases Nat.lt_or_ge i l.length with hlt | hge
 · obtain ⟨y, hy⟩ : ∃ y, l[i]? = some y := ⟨_, List.getElem?_eq_getElem hlt⟩
   have k1 : (decide ((i : Int) < (l.length : Int))) = true := by simp; omega
   have k2 := bk_at hy
   have k7 : (i : Int) + 1 = ((i + 1 : Nat) : Int) := by omega
   have hdr : l.drop i = y :: l.drop (i + 1) := by
    rw [List.drop_eq_getElem_cons hlt]
    rw [List.getElem?_eq_getElem hlt] at hy
    rw [Option.some.inj hy]
   have k4 := bk_eq x y
   rw [hdr] at hd
   unfold idxF at hd
   by_cases hxy : x = y
   · rw [decide_eq_true hxy] at k4
     rw [if_pos (by simp [hxy])] at hd
     (have W := ndI k1 (ndI k2 (ndI k4 (ndI k7 @wrI))); (repeat (any_goals (first | ((with_reducible refine evL_one ?_ ?_); rfl; intro K hK; simp (disch := omega) only [go_sem, W]; ((repeat (refine ndI (by first | assumption | rfl) ?_)); refine hK _ ?_; clear hK K)) | (with_reducible first | (refine evL_nil ?_; refine hR _ ?_; clear hR R) | ((first | refine evC_seq ?_ | refine evC_block ?_); intro J hJ hJ') | (refine evC_region ?_; intro R hR) | (refine hJ _ ?_; clear hJ hJ' J) | refine evC_skip ?_ | refine evC_ret ?_) | ((with_reducible refine hJ' _ _ ?_ ?_); (focus (simp; done)); clear hJ hJ' J) | ((with_reducible apply evC_cond); rfl; rfl; all_goals (intro hc; first | (cases hc; done) | (try simp only at hc))) | ((with_reducible refine evD_nil ?_ ?_); kernel_rfl; (with_reducible refine hR _ ?_); clear hR R) | (((with_reducible apply evD_any); rfl; rfl; (simp (disch := omega) only [rdE, rdOf, go_sem, W]; rfl); (intro τ hA hQ hN; ((try simp only [agree, Op.operands, Call.operands, go_sem, W, go_sem, List.mem_cons, List.not_mem_nil, forall_eq_or_imp, forall_eq, List.append_toArray, Option.toArray] at hA); (try simp only [go_sem, W, List.mem_cons, List.not_mem_nil, forall_eq_or_imp, forall_eq] at hQ hN); (first | (revert hA; intro hA)); (first | (revert hQ; intro hQ)); (first | (revert hN; intro hN)); simp (disch := omega) only [go_sem, W, go_sem, hA, hQ, hN]; (repeat (refine ndI (by first | assumption | omega | rfl) ?_)); (first | apply eff_rd)))); (simp (disch := omega) only [St.eff, setO, hputs, go_sem, W])) | ((with_reducible refine evC_draw ?_ ?_ ?_ ?_); kernel_rfl; kernel_rfl; (first | kernel_rfl); intro R hR)))))
     all_goals rw [← hd]
     all_goals (refine ⟨by simp, ⟨_, ?_, AV.le_refl _⟩, leH_get (by simp [leH, hget])⟩; simp only [Tryz.results69, resL, ldA, oneOf, go_sem])
   · rw [decide_eq_false hxy] at k4
     rw [if_neg (by simp [hxy])] at hd
     have hJ1 := fun σ' => hJ σ' ⟨i + 1, hlt, hd⟩ (by dsimp only; omega)
     dsimp only at hJ1
     (have W := ndI k1 (ndI k2 (ndI k4 (ndI k7 @wrI))); (repeat (any_goals (first | ((with_reducible refine evL_one ?_ ?_); rfl; intro K hK; simp (disch := omega) only [go_sem, W]; ((repeat (refine ndI (by first | assumption | rfl) ?_)); refine hK _ ?_; clear hK K)) | (with_reducible first | (refine evL_nil ?_; refine hR _ ?_; clear hR R) | ((first | refine evC_seq ?_ | refine evC_block ?_); intro J hJ hJ') | (refine evC_region ?_; intro R hR) | (refine hJ _ ?_; clear hJ hJ' J) | refine evC_skip ?_) | ((with_reducible refine hJ' _ _ ?_ ?_); (focus (simp; done)); clear hJ hJ' J) | ((with_reducible apply evC_cond); rfl; rfl; all_goals (intro hc; first | (cases hc; done) | (try simp only at hc))) | ((with_reducible refine evD_nil ?_ ?_); kernel_rfl; (with_reducible refine hR _ ?_); clear hR R) | (((with_reducible apply evD_any); rfl; rfl; (simp (disch := omega) only [rdE, rdOf, go_sem, W]; rfl); (intro τ hA hQ hN; ((try simp only [agree, Op.operands, Call.operands, go_sem, W, go_sem, List.mem_cons, List.not_mem_nil, forall_eq_or_imp, forall_eq, List.append_toArray, Option.toArray] at hA); (try simp only [go_sem, W, List.mem_cons, List.not_mem_nil, forall_eq_or_imp, forall_eq] at hQ hN); (first | (revert hA; intro hA)); (first | (revert hQ; intro hQ)); (first | (revert hN; intro hN)); simp (disch := omega) only [go_sem, W, go_sem, hA, hQ, hN]; (repeat (refine ndI (by first | assumption | omega | rfl) ?_)); (first | apply eff_rd)))); (simp (disch := omega) only [St.eff, setO, hputs, go_sem, W])) | ((with_reducible refine evC_draw ?_ ?_ ?_ ?_); kernel_rfl; kernel_rfl; (first | kernel_rfl); intro R hR)))))
     all_goals exact hJ1 _ (St.le_of (by simp [leT]) (by simp [leH, hget]))
 · have k1 : (decide ((i : Int) < (l.length : Int))) = false := by simp; omega
   rw [List.drop_eq_nil_of_le hge] at hd
   have hd : r = -1 := hd.symm
   (repeat (any_goals (first | ((with_reducible refine evL_one ?_ ?_); rfl; intro K hK; simp only [go_sem, k1]; ((repeat (refine ndI (by first | assumption) ?_)); refine hK _ ?_; clear hK K)) | (with_reducible first | (refine evL_nil ?_; refine hR _ ?_; clear hR R) | ((first | refine evC_seq ?_); intro J hJ hJ') | (refine evC_region ?_; intro R hR) | (refine hJ _ ?_; clear hJ hJ' J) | refine evC_ret ?_ | refine evC_exit ?_) | ((with_reducible refine hJ' _ _ ?_ ?_); (focus (simp; done)); clear hJ hJ' J) | ((with_reducible apply evC_cond); rfl; rfl; all_goals (intro hc; first | (cases hc; done) | (try simp only at hc))))))
   all_goals rw [hd]
   all_goals (refine ⟨by simp, ⟨_, ?_, AV.le_refl _⟩, leH_get (by simp [leH, hget])⟩; simp only [Tryz.results69, resL, ldA, oneOf, go_sem])
theorem containsBk_fn (ex : Bool) (l : List Bk) (x : Bk) (hl : l.length ≤ 1000000) : Fn Tryz.prog 34 [bks ex l, bkA x] [] (vb (decide (x ∈ l))) [] := by
 have h := indexBk_fn ex l x hl
 have e := idxF_ge (fun y => decide (x = y)) l 0
 rw [show (l.any fun y => decide (x = y)) = decide (x ∈ l) by rw [Bool.eq_iff_iff]; simp] at e
 generalize idxF (fun y => decide (x = y)) l 0 = r at h e
 rw [← e]
 (refine fn_of Tryz.func34 rfl (by rfl) ?_; simp only [Tryz.ntmps34, List.length_cons, List.length_nil, Nat.reduceAdd, Nat.reduceSub, List.replicate, List.cons_append, List.nil_append])
 (repeat (any_goals (first | ((with_reducible refine evL_call ?_ ?_ ?_); rfl; rfl; intro K hK; ((apply opA_callB (h); rfl; rfl; rfl; rfl; exact Tryz.func69); kernel_rfl; rfl; (focus ((simp only [go_sem]); (try rfl); done)); (first | rfl)); (simp only [go_sem]; refine hK _ ?_; clear hK K)) | ((with_reducible refine evL_one ?_ ?_); rfl; intro K hK; simp only [go_sem]; ((repeat (refine ndI (by first | assumption) ?_)); refine hK _ ?_; clear hK K)) | (with_reducible first | (refine evL_nil ?_; refine hR _ ?_; clear hR R) | ((first | refine evC_seq ?_); intro J hJ hJ') | (refine evC_region ?_; intro R hR) | (refine hJ _ ?_; clear hJ hJ' J) | refine evC_ret ?_))))
 all_goals (refine ⟨by simp, ⟨_, ?_, AV.le_refl _⟩, leH_get (by simp [leH, hget])⟩; simp only [Tryz.results34, resL, ldA, oneOf, go_sem])
end Go.Proofs.YtgdjkkapgghdbaaGreatDoor
namespace Go.Proofs.YtgdjkkapgghdbaaGreatDoor
open Go.RowKit
section
variable {P : Program} {o : Oper} {σ : St} {K : St → Prop}
theorem opA_callv_row {f : FuncId} {fn : Func} {cargs : List AV} {d r e sz n : Nat} {pcs : List PV} {fo : Operand} {cas : Array Operand} {ts : Array TypeId} {caps : List AV} (hF : Fn P f cargs [] (.row r e sz n) [(r, pcs.map .c)]) (hpc : ∀ p ∈ pcs, ∃ x, p = .v x) (ho : o.op = .call { callee := .value fo, args := cas, argTypes := ts }) (hfo : okConst fo = true) (has : cas.toList.all okConst = true) (hf : σ.ev fo = .fn f caps)
    (hfn : P.funcs[f]? = some fn) (hname : (fn.name == "runtime.NumGoroutine") = false) (hbody : fn.body.isNone = false)
    (hargs : AV.viewL σ.H (cas.toList.map σ.ev ++ caps) = cargs) (hfr : σ.free d = true) (hd2 : d < 1000) (hK : K ((St.mk σ.T (hput σ.H d (pcs.map .c))).put o.dst (.row d e sz n))) : OpA P o σ K := by
 intro E ι a w hc K' Q hK'
 have hfv := hc.ev fo hfo
 rw [hf] at hfv
 generalize hfe : a.eval fo = fv at hfv
 cases hfv with
 | fn _ us _ hul hus =>
  have hvs : ∀ (j : Nat) (v : Value) (y : AV), (cas.toList.map a.eval ++ us)[j]? = some v → (cas.toList.map σ.ev ++ caps)[j]? = some y → RV (Sx E ι σ.H) ι w v y := fun j v y hv hy => by
   rw [List.getElem?_append] at hv hy
   simp only [List.length_map] at hv hy
   split at hv
   · rename_i hj
     rw [if_pos hj] at hy
     rw [List.getElem?_map, Option.map_eq_some_iff] at hv hy
     obtain ⟨x1, hx1, rfl⟩ := hv
     obtain ⟨x2, hx2, rfl⟩ := hy
     rw [hx1] at hx2; cases hx2
     exact hc.ev x1 (List.all_eq_true.1 has x1 (List.mem_of_getElem? hx1))
   · rename_i hj
     rw [if_neg hj] at hy
     exact hus _ v y hv hy
  have hlen : (cas.toList.map a.eval ++ us).length = cargs.length := by rw [← hargs, viewL_length]; simp [hul]
  have hcall := hF { w := w, S := fun _ => True, ι := ι, D := [], hD := fun r hr => (by cases hr), hG := hc.glob0 } (cas.toList.map a.eval ++ us) rfl (fun r cs b hr => (by cases hr)) ⟨fun r cs hr => (by cases hr), fun r q cs ds hr => (by cases hr)⟩ hlen (fun j v x hv hx => by
   rw [← hargs, viewL_get, Option.map_eq_some_iff] at hx
   obtain ⟨y, hy, rfl⟩ := hx
   exact (hvs j v y hv hy).view hc.heap.blk)
  have hrun : (execOp a.eval o).run P w = .ok (.enter f (cas.toList.map a.eval ++ us).toArray) w := by
   have h1 : cas.map a.eval = (cas.toList.map a.eval).toArray := by rw [← Array.toList_map]
   have hen := run_enter hfn hname hbody ((cas.toList.map a.eval).toArray ++ us.toArray) w
   simp only [List.append_toArray] at hen
   simp only [execOp, ho, resolve, hfe, Deferred.ofValue, h1, Sem.run_bind, Sem.run_pure, Result.andThen_ok, invoke, Array.empty_append, List.append_toArray, List.nil_append, hen]
  unfold Oper.wp
  rw [hrun, Oper.upon_enter]
  refine hcall.mono fun e' w' => ?_
  rintro ⟨v, ι', rfl, hres, hH1, hk⟩
  simp only
  have hblk : ∀ b, b < w.heap.size → w'.heap[b]? = w.heap[b]? := fun b hb => hk.block b hb fun r hr => by cases hr
  have hg : w.grownBy w' none := ⟨hk.os, hk.tape, hk.output, hk.size, fun b hb _ => hblk b hb⟩
  have hgr : hget [(r, pcs.map AV.c)] r = some (pcs.map .c) := by simp [hget]
  have hm := (hk.mine r _ hgr).2 (fun h => by cases h)
  have hcg := hc.grow hfr hd2 hg none (fun b hb => by cases hb) (ι' r) (cs := pcs.map .c) (fun h => .inr (by
   rcases hm h with h1 | ⟨q, hq, _⟩
   · exact h1
   · cases hq)) (refsL_map d pcs) (by
   rcases hH1.blk r _ hgr with h0 | ⟨cur, hh, hs, hl, hcur, h1⟩
   · exact .inl h0
   · refine .inr ⟨cur, hh, hs, hl, fun j u x hu hx => ?_, h1⟩
     obtain ⟨hrv, h2⟩ := hcur j u x hu hx
     rw [List.getElem?_map, Option.map_eq_some_iff] at hx
     obtain ⟨p, hp, rfl⟩ := hx
     obtain ⟨y, rfl⟩ := hpc p (List.mem_of_getElem? hp)
     cases hrv with
     | c _ _ h => cases h with
      | v _ hone => exact ⟨.c _ _ (.v _ hone), h2⟩)
  have hcg : Conc E (upd ι d (ι' r)) ⟨σ.T, hput σ.H d (pcs.map .c)⟩ a w' := hcg
  refine hK' _ _ _ _ hK (hcg.put o.dst ?_)
  cases hres with
  | row _ _ _ _ c g1 g2 g3 g4 g0 => 
   have eu : upd ι d (ι' r) d = ι' r := upd_same
   have := RV.row (S := Sx E (upd ι d (ι' r)) (hput σ.H d (pcs.map .c))) (ι := upd ι d (ι' r)) (w := w') d e sz n c g1 g2 (by rw [eu]; exact g3) (by rw [eu]; exact g4) (by rw [eu]; exact g0)
   rw [eu] at this
   exact this
  | rnil A _ _ _ g => exact .rnil A d e sz (by rw [upd_same]; exact g)
end
end Go.Proofs.YtgdjkkapgghdbaaGreatDoor
namespace Go.Proofs.YtgdjkkapgghdbaaGreatDoor
open Go.RowKit
open Nat (reduceBEq)
attribute [-go_sem] IntKind.bits
set_option maxRecDepth 100000
set_option maxHeartbeats 4000000
theorem collect_row (snd : Int) (ph : List Ph) (cs : List PV) (R : Ph → Nat → Ev → Int) (hl : ph.length ≤ 1000) (hp : ∀ p ∈ ph, p.tr.length ≤ 1000)
    (hRu : ∀ p ∈ ph, ∀ (j : Nat) (e : Ev), p.tr[j]? = some e → Fn Tryz.prog 68 [.ep (.v (.int .u64 snd) :: .sl false 4 ph.length (ph.flatMap Ph.pv) :: cs), phA p, vi .i64 j] [] (vi .i64 (R p j e)) []) :
    Fn Tryz.prog 60 [.fn 94 [.ptr 1001 0]] [(1001, [.ep (.v (.int .u64 snd) :: .sl false 4 ph.length (ph.flatMap Ph.pv) :: cs)])] (.row 600 bkT 3 (brkG R ph 0).length) [(600, raB (brkG R ph 0))] := by
 have h0 := appseq_row snd ph cs R hl hp hRu
 generalize (.v (.int .u64 snd) :: .sl false 4 ph.length (ph.flatMap Ph.pv) :: cs) = ks at h0 ⊢
 generalize brkG R ph 0 = res at h0 ⊢
 have h := h0
 clear h0 hRu
 have r9 : ∀ r, AV.refsL r (raB res) = false := fun r => refsL_map r _
 (refine fn_of Tryz.func60 rfl (by rfl) ?_; simp only [Tryz.ntmps60, List.length_cons, List.length_nil, Nat.reduceAdd, Nat.reduceSub, List.replicate, List.cons_append, List.nil_append])
 (repeat (any_goals (first | ((with_reducible refine evL_call ?_ ?_ ?_); rfl; rfl; intro K hK; (apply opA_callR (h) (fun r => r); rfl; rfl; rfl; rfl; exact Tryz.func93; kernel_rfl; rfl; rfl; (intro r hr q hq h; simp only [List.map_cons, List.map_nil, List.cons_append, List.nil_append, List.mem_cons, List.not_mem_nil, or_false] at hr hq; (try dsimp only at h); first | omega); (simp only [argsOk, argOk, AV.ren, AV.renL, renL_map, List.mem_cons, List.not_mem_nil, forall_eq_or_imp, forall_eq, newOk, List.contains_cons, List.contains_nil, AV.refsL, AV.refs, refsL_map, AV.inN, AV.inNL, inH, inNL_map, go_sem, r9])); (simp only [hputs, hdels, renH, AV.ren, AV.renL, renL_map, go_sem, r9]; refine hK _ ?_; clear hK K)) | ((with_reducible refine evL_one ?_ ?_); rfl; intro K hK; simp only [go_sem, r9]; ((repeat (refine ndI (by first | assumption) ?_)); refine hK _ ?_; clear hK K)) | (with_reducible first | (refine evL_nil ?_; refine hR _ ?_; clear hR R) | ((first | refine evC_seq ?_); intro J hJ hJ') | (refine evC_region ?_; intro R hR) | (refine hJ _ ?_; clear hJ hJ' J) | refine evC_ret ?_))))
 all_goals (refine ⟨by simp, ⟨_, ?_, AV.le_refl _⟩, leH_get (by simp [leH, hget])⟩; simp only [Tryz.results60, resL, ldA, oneOf, go_sem])
theorem broken_row (c : Cs) (hc : c.ok) (hr : caseB c = true) : Fn Tryz.prog 22 [csA c] [] (.row 600 bkT 3 (brkC c).length) [(600, raB (brkC c))] := by
 have h := court_fn c hc hr
 change Fn _ _ [.agg [vi .u64 c.snd, phs false c.ph, asl false c.cd]] _ _ _ at h
 have co := collect_row c.snd c.ph [.sl false 1 c.cd.length (c.cd.flatMap apv), .v (.bool (ofM c)), .v (.bool (ofF c))] (ruleC c) hc.2.1.1 (fun p hp => (hc.2.1.2 p hp).2.1) fun p hp j e he => rule_fn c hc (case_rise hr) p (hc.2.1.2 p hp) j e he
 unfold brkC
 generalize brkG (ruleC c) c.ph 0 = res at co ⊢
 have r9 : ∀ r, AV.refsL r (raB res) = false := fun r => refsL_map r _
 have br := breaks_fn (ktL c)
 change Fn _ _ _ _ (.ep (ktL c)) _ at h
 change Fn _ _ _ [(1001, [.ep (ktL c)])] _ _ at co
 generalize ktL c = ks at h co br
 clear hr hc
 (refine fn_of Tryz.func22 rfl (by rfl) ?_; simp only [Tryz.ntmps22, List.length_cons, List.length_nil, Nat.reduceAdd, Nat.reduceSub, List.replicate, List.cons_append, List.nil_append])
 (repeat (any_goals (first | ((with_reducible refine evL_op ?_ ?_); rfl; intro K hK; (first | (apply opA_epnil; rfl; rfl; kernel_rfl; rfl)); (simp only [go_sem, r9]; refine hK _ ?_; clear hK K)) | ((with_reducible refine evL_call ?_ ?_ ?_); rfl; rfl; intro K hK; (first | ((apply opA_callB (h); rfl; rfl; rfl; rfl; exact Tryz.func43); kernel_rfl; rfl; (focus ((simp only [go_sem, r9]); (try rfl); done)); (first | rfl)) | (apply opA_callR (br) (fun r => r + 99); rfl; rfl; rfl; rfl; exact Tryz.func61; kernel_rfl; rfl; rfl; (intro r hr q hq h; simp only [List.map_cons, List.map_nil, List.cons_append, List.nil_append, List.mem_cons, List.not_mem_nil, or_false] at hr hq; (try dsimp only at h); first | omega); (simp only [argsOk, argOk, AV.ren, AV.renL, renL_map, List.mem_cons, List.not_mem_nil, forall_eq_or_imp, forall_eq, newOk, List.contains_cons, List.contains_nil, AV.refsL, AV.refs, refsL_map, AV.inN, AV.inNL, inH, inNL_map, go_sem, r9])) | (apply opA_callR (co) (fun r => if r = 1001 then 100 else r); rfl; rfl; rfl; rfl; exact Tryz.func60; kernel_rfl; rfl; rfl; (intro r hr q hq h; simp only [List.map_cons, List.map_nil, List.cons_append, List.nil_append, List.mem_cons, List.not_mem_nil, or_false] at hr hq; (try dsimp only at h); first | (rcases hr with rfl | rfl | rfl <;> rcases hq with rfl | rfl | rfl <;> simp at h ⊢)); (simp only [argsOk, argOk, AV.ren, AV.renL, renL_map, List.mem_cons, List.not_mem_nil, forall_eq_or_imp, forall_eq, newOk, List.contains_cons, List.contains_nil, AV.refsL, AV.refs, refsL_map, AV.inN, AV.inNL, inH, inNL_map, go_sem, r9]))); (simp only [hputs, hdels, renH, AV.ren, AV.renL, renL_map, go_sem, r9]; refine hK _ ?_; clear hK K)) | ((with_reducible refine evL_one ?_ ?_); rfl; intro K hK; simp only [go_sem, r9]; ((repeat (refine ndI (by first | assumption) ?_)); refine hK _ ?_; clear hK K)) | (with_reducible first | (refine evL_nil ?_; refine hR _ ?_; clear hR R) | ((first | refine evC_seq ?_); intro J hJ hJ') | (refine evC_region ?_; intro R hR) | (refine hJ _ ?_; clear hJ hJ' J) | refine evC_skip ?_ | refine evC_ret ?_) | ((with_reducible apply evC_cond); rfl; rfl; all_goals (intro hc; first | (cases hc; done) | (try simp only at hc))))))
 all_goals (refine ⟨by simp, ⟨_, ?_, AV.le_refl _⟩, leH_get (by simp [leH, hget])⟩; simp only [Tryz.results22, resL, ldA, oneOf, go_sem])
theorem raP_len (l : List Ph) : (raP l).length = l.length * 4 := by rw [List.length_map, flat_length ph_len]
theorem raP_mid (A B : List Ph) (y : Ph) : raP (A ++ y :: B) = raP A ++ ([vi .i64 y.role, vi .u64 y.who, vb y.stk, evs false y.tr] ++ raP B) := by simp [raP, Ph.pv]
theorem spl_stk {A B : List Ph} {y : Ph} {k : Nat} (hA : A.length = k) (b : Bool) : spl (raP (A ++ y :: B)) (k * 4 + 2) [vb b] = raP (A ++ setStk b y :: B) := by
 have hl := raP_len A
 rw [hA] at hl
 rw [raP_mid, raP_mid]
 generalize raP A = X at hl
 unfold spl
 rw [List.take_append, List.drop_append]
 simp [hl, setStk, List.take_of_length_le, show k * 4 + 2 - k * 4 = 2 by omega, show k * 4 + 2 + 1 - k * 4 = 3 by omega, show X.length ≤ k * 4 + 2 by omega, List.drop_eq_nil_of_le, show k * 4 ≤ k * 4 + 2 + 1 by omega]
theorem raB_v {l : List Bk} {x : PV} (h : x ∈ l.flatMap Bk.pv) : ∃ v, x = .v v := by
 obtain ⟨b, _, hb⟩ := List.mem_flatMap.1 h
 simp only [Bk.pv, List.mem_cons, List.not_mem_nil, or_false] at hb
 rcases hb with rfl | rfl | rfl <;> exact ⟨_, rfl⟩
theorem brkC_len {c : Cs} (hc : c.ok) : (brkC c).length ≤ 1000000 := by
 have h := brkG_len (ruleC c) c.ph 0 fun p hp => (hc.2.1.2 p hp).2.1
 have := hc.2.1.1
 unfold brkC
 omega
abbrev stS1 (s : Int) (P : List Ph) (cd : List Int) (B1 B2 : List Bk) (i : Nat) : St := ⟨[.any, .any, .any, .any, vb false, .ptr 5 0, .any, bks false B1, .any, .any, .any, .any, .any, .any, .any, .any, .any, .any, .any, .any, .any, .any, .any, .any, .any, .any, .any, .any, .any, .any, .any, .any, .any, .any, .any, .any, .any, .any, .any, .any, .any, .any, .any, bks false B2, vi .i64 B2.length, vi .i64 i, .any, .any, .any, .any, .any, .any, .any, .any, .any, .any, .any, .any, .any, .any, .any, .any, .any, .any, .any, .any, .any, .any, .any, .any, .any, .any, .any, .any, .any, .any, .any, .any, .any, .any, .any, .any, .any, .any, .any, .any, .any, .any, .any, .any, .any, .any, .any, .any, .any, .any, .any, .any, .any, .any, .any, .any, .any, .any, .any, .any, .any, .any, .any], [(5, [vi .u64 s, .row 18 phT 4 P.length, asl false cd]), (18, raP P)]⟩
abbrev stS2 (s : Int) (cd : List Int) (n i : Nat) (Q : List Ph) : St := ⟨[.any, .any, .any, .any, vb false, .ptr 5 0, .any, .any, .any, .any, .any, .any, .any, .any, .any, .any, .any, .any, .any, .any, .any, .any, .any, .any, .any, .any, .any, .any, .any, .any, .any, .any, .any, .any, .any, .any, .any, .any, .any, .any, .any, .any, .any, .any, .any, .any, .any, .any, .any, .any, .any, .any, .any, .any, .any, .any, vi .i64 n, vi .i64 i, .any, .any, .any, .any, .any, .any, .any, .any, .any, .any, .any, .any, .any, .any, .any, .any, .any, .any, .any, .any, .any, .any, .any, .any, .any, .any, .any, .any, .any, .any, .any, .any, .any, .any, .any, .any, .any, .any, .any, .any, .any, .any, .any, .any, .any, .any, .any, .any, .any, .any, .any], [(5, [vi .u64 s, .row 18 phT 4 n, asl false cd]), (18, raP Q)]⟩
abbrev stS3 (s : Int) (cd : List Int) (n i : Nat) (Q : List Ph) : St := ⟨[.any, .any, .any, .any, vb false, .ptr 5 0, .any, .any, .any, .any, .any, .any, .any, .any, .any, .any, .any, .any, .any, .any, .any, .any, .any, .any, .any, .any, .any, .any, .any, .any, .any, .any, .any, .any, .any, .any, .any, .any, .any, .any, .any, .any, .any, .any, .any, .any, .any, .any, .any, .any, .any, .any, .any, .any, .any, .any, vi .i64 n, vi .i64 i, .any, .any, .any, .any, .any, .any, .any, .any, .any, .any, .any, .any, .any, .any, .any, .any, .any, .any, .any, .any, .any, .any, .any, .any, .any, .any, .any, .any, .any, .any, .any, .any, .any, .any, .any, .any, .any, .any, .any, .any, .any, .any, .any, .any, .any, .any, .any, .any, .any, .any, .any], [(5, [vi .u64 s, phs false Q, asl false cd])]⟩
abbrev stS4 (s : Int) (cd : List Int) (Q : List Ph) (i : Nat) : St := ⟨[.any, .any, .any, .any, vb false, .ptr 5 0, .any, .any, .any, .any, .any, .any, .any, .any, .any, .any, .any, .any, .any, .any, .any, .any, .any, .any, .any, .any, .any, .any, .any, .any, .any, .any, .any, .any, .any, .any, .any, .any, .any, .any, .any, .any, .any, .any, .any, .any, .any, .any, .any, .any, .any, .any, .any, .any, .any, .any, .any, .any, .any, .any, .any, .any, .any, .any, .any, .any, .any, phs false Q, vi .i64 Q.length, vi .i64 i, .any, .any, .any, .any, .any, .any, .any, .any, .any, .any, .any, .any, .any, .any, .any, .any, .any, .any, .any, .any, .any, .any, .any, .any, .any, .any, .any, .any, .any, .any, .any, .any, .any, .any, .any, .any, .any, .any, .any], [(5, [vi .u64 s, phs false Q, asl false cd])]⟩
abbrev stS5 (s : Int) (cd : List Int) (Q : List Ph) (l : List Ev) (i j : Nat) : St := ⟨[.any, .any, .any, .any, vb false, .ptr 5 0, .any, .any, .any, .any, .any, vi .i64 i, .any, .any, .any, .any, .any, .any, .any, .any, .any, .any, .any, .any, .any, .any, .any, .any, .any, .any, .any, .any, .any, .any, .any, .any, .any, .any, .any, .any, .any, .any, .any, .any, .any, .any, .any, .any, .any, .any, .any, .any, .any, .any, .any, .any, .any, .any, .any, .any, .any, .any, .any, .any, .any, .any, .any, phs false Q, vi .i64 Q.length, vi .i64 i, .any, .any, .any, .any, .any, evs false l, vi .i64 l.length, vi .i64 j, .any, .any, .any, .any, .any, .any, .any, .any, .any, .any, .any, .any, .any, .any, .any, .any, .any, .any, .any, .any, .any, .any, .any, .any, .any, .any, .any, .any, .any, .any, .any], [(5, [vi .u64 s, phs false Q, asl false cd])]⟩
theorem stS2_frz (s : Int) (cd : List Int) (n i : Nat) (Q : List Ph) (h : Q.length = n) : (stS2 s cd n i Q).to (stS3 s cd n i Q) := by
 have lf : (Q.flatMap Ph.pv).length = n * 4 := by rw [flat_length ph_len, h]
 have h2 := St.to.frz (σ := stS2 s cd n i Q) 18 (pcs := Q.flatMap Ph.pv) rfl
 have e : ((stS2 s cd n i Q).frz 18 (Q.flatMap Ph.pv)) = stS3 s cd n i Q := by
  simp [St.frz, AV.frz, AV.frzL, frzH, frzL_map, -List.length_flatMap, lf, h]
 rwa [e] at h2
theorem stakes_fnE (x c : Cs) (hc : c.ok) (hl4 : c.ph.length ≤ 4) (fr : Fn Tryz.prog 9 [csA x] [] (.agg [vi .u64 c.snd, .row 600 phT 4 c.ph.length, asl false c.cd]) [(600, raP c.ph)]) (n : Int) : Fn Tryz.prog 7 [csA x, vi .i64 n] [] (vb true) [] := by
 have ck := rcheck_fn c hc
 have br := broken_fn c hc
 have p1 : unC (raP c.ph) = some (c.ph.flatMap Ph.pv) := unC_map _
 have p2 : (c.ph.flatMap Ph.pv).length = c.ph.length * 4 := flat_length ph_len _
 have p3 := raP_len c.ph
 have p4 : ∀ d, AV.refsL d (raP c.ph) = false := fun d => refsL_map d _
 have p5 : ∀ ρ, AV.renL ρ (raP c.ph) = raP c.ph := fun ρ => renL_map ρ _
 cases hr : caseB c with
 | false =>
  rw [hr, if_neg (by simp)] at ck
  have eb : brokenC c = [] := by unfold brokenC; rw [hr]; rfl
  rw [eb] at br
  (refine fn_of Tryz.func7 rfl (by rfl) ?_; simp only [Tryz.ntmps7, List.length_cons, List.length_nil, Nat.reduceAdd, Nat.reduceSub, List.replicate, List.cons_append, List.nil_append])
  (have W := ndI p1 (ndI p2 (ndI p3 (ndI p4 p5))); (repeat (any_goals (first | ((with_reducible refine evL_call ?_ ?_ ?_); rfl; rfl; intro K hK; (first | ((apply opA_callB (wakes_fn); rfl; rfl; rfl; rfl; exact Tryz.func8); kernel_rfl; rfl; (focus ((simp (disch := omega) only [go_sem, W, eq_self]); (try rfl); done)); (first | rfl)) | ((apply opA_callv (ck); rfl; rfl; rfl; rfl; exact Tryz.func16); kernel_rfl; rfl; (focus ((simp (disch := omega) only [AV.viewL, AV.view, viewRow, unC, Option.map_some, go_sem, W, eq_self]); (try rfl))); rfl) | (apply opA_callR (fr) (fun r => if r = 600 then 18 else r); rfl; rfl; rfl; rfl; exact Tryz.func9; kernel_rfl; rfl; rfl; (intro r hr q hq h; simp (disch := omega) only [List.map_cons, List.map_nil, List.cons_append, List.nil_append, List.mem_cons, List.not_mem_nil, or_false] at hr hq; (try dsimp only at h); first | omega); (simp (disch := omega) only [argsOk, argOk, AV.ren, AV.renL, renL_map, List.mem_cons, List.not_mem_nil, forall_eq_or_imp, forall_eq, newOk, List.contains_cons, List.contains_nil, AV.refsL, AV.refs, refsL_map, AV.inN, AV.inNL, inH, inNL_map, go_sem, W, eq_self]))); (simp (disch := omega) only [hputs, hdels, renH, AV.ren, AV.renL, renL_map, go_sem, W, eq_self]; refine hK _ ?_; clear hK K)) | ((with_reducible refine evL_one ?_ ?_); rfl; intro K hK; simp (disch := omega) only [go_sem, W, eq_self]; ((repeat (refine ndI (by first | assumption | rfl) ?_)); refine hK _ ?_; clear hK K)) | (with_reducible first | (refine evL_nil ?_; refine hR _ ?_; clear hR R) | ((first | refine evC_seq ?_); intro J hJ hJ') | (refine evC_region ?_; intro R hR) | (refine hJ _ ?_; clear hJ hJ' J) | refine evC_skip ?_) | ((with_reducible apply evC_cond); rfl; rfl; all_goals (intro hc; first | (cases hc; done) | (try simp only at hc)))))))
  refine evL_to rfl (St.to.frz 18 (pcs := c.ph.flatMap Ph.pv) rfl) ?_
  simp only [St.frz, AV.frz, AV.frzL, frzH, if_true, eq_self, ↓reduceIte, p2, Nat.reduceEqDiff, if_false, reduceCtorEq]
  (repeat (any_goals (first | ((with_reducible refine evL_call ?_ ?_ ?_); rfl; rfl; intro K hK; ((apply opA_callB (br); rfl; rfl; rfl; rfl; exact Tryz.func22); kernel_rfl; rfl; (focus ((simp only [go_sem]); (try rfl); done)); (first | rfl)); (simp only [go_sem]; refine hK _ ?_; clear hK K)) | ((with_reducible refine evL_one ?_ ?_); rfl; intro K hK; simp only [go_sem]; ((repeat (refine ndI (by first | assumption) ?_)); refine hK _ ?_; clear hK K)) | (with_reducible first | (refine evL_nil ?_; refine hR _ ?_; clear hR R) | (refine hJ _ ?_; clear hJ hJ' J) | refine evC_ret ?_) | ((with_reducible refine hJ' _ _ ?_ ?_); (focus (simp; done)); clear hJ hJ' J))))
  all_goals (refine ⟨by simp, ⟨_, ?_, AV.le_refl _⟩, leH_get (by simp [leH, hget])⟩; simp only [Tryz.results7, resL, ldA, oneOf, go_sem])
  all_goals rfl
 | true =>
  rw [hr, if_pos rfl] at ck
  have bw := broken_row c hc hr
  have hpos : 0 < c.ph.length := by
   rcases Nat.eq_zero_or_pos c.ph.length with h | h
   · have : c.ph = [] := List.eq_nil_of_length_eq_zero h
     unfold caseB at hr
     rw [this] at hr
     simp at hr
   · exact h
  obtain ⟨m, hm⟩ : ∃ m, IntKind.u64.wrap n = m := ⟨_, rfl⟩
  have hm0 : 0 ≤ m := by rw [← hm, IntKind.wrap_u64]; exact Int.emod_nonneg _ (by decide)
  obtain ⟨k, hk⟩ : ∃ k : Nat, m.tmod (c.ph.length : Int) = (k : Int) := ⟨(m.tmod c.ph.length).toNat, (Int.toNat_of_nonneg (Int.tmod_nonneg _ hm0)).symm⟩
  have hkl : k < c.ph.length := by
   have := Int.tmod_lt_of_pos m (show (0 : Int) < c.ph.length by omega)
   rw [hk] at this
   omega
  have g5 : ((c.ph.length : Int) = 0) = False := eq_false (by omega)
  obtain ⟨p, hp⟩ : ∃ p, c.ph[k]? = some p := ⟨_, List.getElem?_eq_getElem hkl⟩
  have dr : c.ph = c.ph.take k ++ p :: c.ph.drop (k + 1) := by
   rw [List.getElem?_eq_getElem hkl] at hp
   rw [← Option.some.inj hp, ← List.drop_eq_getElem_cons hkl, List.take_append_drop]
  have tk : (c.ph.take k).length = k := by rw [List.length_take]; omega
  have ss := spl_stk (B := c.ph.drop (k + 1)) (y := p) tk true
  rw [← dr] at ss
  have es : c.ph.take k ++ setStk true p :: c.ph.drop (k + 1) = c.ph.set k (setStk true p) := by
   rw [List.set_eq_take_append_cons_drop, if_pos hkl]
  rw [es] at ss
  have hl2 : leC c ⟨c.snd, c.ph.set k (setStk true p), c.cd⟩ := ⟨rfl, rfl, lePs_set c.ph k p hp⟩
  have hc2 : Cs.ok ⟨c.snd, c.ph.set k (setStk true p), c.cd⟩ := ⟨hc.1, ⟨by rw [List.length_set]; exact hc.2.1.1, fun q hq => by
   rcases List.mem_or_eq_of_mem_set hq with h | h
   · exact hc.2.1.2 q h
   · rw [h]; exact hc.2.1.2 p (List.mem_of_getElem? hp)⟩, hc.2.2⟩
  have bw2 := broken_row _ hc2 (by rw [← case_le hl2]; exact hr)
  have hbl : ∀ b ∈ brkC ⟨c.snd, c.ph.set k (setStk true p), c.cd⟩, b ∈ brkC c := fun b hb => by
   have h := broken_le hl2 b
   unfold brokenC at h
   rw [← case_le hl2, hr, if_pos rfl, if_pos rfl] at h
   exact h hb
  have bl1 : (brkC c).length ≤ 1000000 := brkC_len hc
  have bl2 : (brkC ⟨c.snd, c.ph.set k (setStk true p), c.cd⟩).length ≤ 1000000 := brkC_len hc2
  have h0 : Cs.ok ⟨c.snd, c.ph.map (setStk false), c.cd⟩ := ⟨hc.1, ⟨by rw [List.length_map]; exact hc.2.1.1, fun q hq => by
   obtain ⟨p', hp', rfl⟩ := List.mem_map.1 hq
   exact hc.2.1.2 p' hp'⟩, hc.2.2⟩
  have h0l : ∀ (i j : Nat) (y : Ph) (e : Ev), (c.ph.map (setStk false))[i]? = some y → y.tr[j]? = some e → (e.kind = 2 ∨ e.kind = 3) → ruleP ⟨c.snd, c.ph.map (setStk false), c.cd⟩ i j = 0 → ownB' ⟨c.snd, c.ph.map (setStk false), c.cd⟩ e.sp = true := fun i j y e hy he hk hz => by
   have hcc : caseB ⟨c.snd, c.ph.map (setStk false), c.cd⟩ = true := by
    rw [case_le (c := ⟨c.snd, c.ph.map (setStk false), c.cd⟩) (d := c) ⟨rfl, rfl, lePs_map c.ph⟩]; exact hr
   unfold ruleP at hz
   rw [if_pos ⟨hcc, by omega, by omega⟩, Int.toNat_natCast, Int.toNat_natCast] at hz
   simp only [hy, he] at hz
   have hs : y.stk = false := by
    rw [List.getElem?_map, Option.map_eq_some_iff] at hy
    obtain ⟨p', _, rfl⟩ := hy
    rfl
   unfold ownB'
   rw [hcc, bare_own hs hk hz]
   rfl
  obtain ⟨P2, hP2⟩ : ∃ P2, c.ph.set k (setStk true p) = P2 := ⟨_, rfl⟩
  rw [hP2] at ss bw2 hbl bl2
  have l2 : P2.length = c.ph.length := by rw [← hP2, List.length_set]
  have k4 : k * 4 + 2 < (raP c.ph).length := by rw [p3]; omega
  (refine fn_of Tryz.func7 rfl (by rfl) ?_; simp only [Tryz.ntmps7, List.length_cons, List.length_nil, Nat.reduceAdd, Nat.reduceSub, List.replicate, List.cons_append, List.nil_append])
  (have W := ndI p1 (ndI p2 (ndI p3 (ndI p4 p5))); (repeat (any_goals (first | ((with_reducible refine evL_call ?_ ?_ ?_); rfl; rfl; intro K hK; (first | ((apply opA_callB (wakes_fn); rfl; rfl; rfl; rfl; exact Tryz.func8); kernel_rfl; rfl; (focus ((simp (disch := omega) only [go_sem, W, eq_self]); (try rfl); done)); (first | rfl)) | ((apply opA_callv (ck); rfl; rfl; rfl; rfl; exact Tryz.func16); kernel_rfl; rfl; (focus ((simp (disch := omega) only [AV.viewL, AV.view, viewRow, unC, Option.map_some, go_sem, W, eq_self]); (try rfl))); rfl) | (apply opA_callR (fr) (fun r => if r = 600 then 18 else r); rfl; rfl; rfl; rfl; exact Tryz.func9; kernel_rfl; rfl; rfl; (intro r hr q hq h; simp (disch := omega) only [List.map_cons, List.map_nil, List.cons_append, List.nil_append, List.mem_cons, List.not_mem_nil, or_false] at hr hq; (try dsimp only at h); first | omega); (simp (disch := omega) only [argsOk, argOk, AV.ren, AV.renL, renL_map, List.mem_cons, List.not_mem_nil, forall_eq_or_imp, forall_eq, newOk, List.contains_cons, List.contains_nil, AV.refsL, AV.refs, refsL_map, AV.inN, AV.inNL, inH, inNL_map, go_sem, W, eq_self]))); (simp (disch := omega) only [hputs, hdels, renH, AV.ren, AV.renL, renL_map, go_sem, W, eq_self]; refine hK _ ?_; clear hK K)) | ((with_reducible refine evL_one ?_ ?_); rfl; intro K hK; simp (disch := omega) only [go_sem, W, eq_self]; ((repeat (refine ndI (by first | assumption | rfl) ?_)); refine hK _ ?_; clear hK K)) | (with_reducible first | (refine evL_nil ?_; refine hR _ ?_; clear hR R) | ((first | refine evC_seq ?_); intro J hJ hJ') | (refine evC_region ?_; intro R hR) | (refine hJ _ ?_; clear hJ hJ' J) | refine evC_skip ?_) | ((with_reducible apply evC_cond); rfl; rfl; all_goals (intro hc; first | (cases hc; done) | (try simp only at hc)))))))
  (have W := ndI p1 (ndI p2 (ndI p3 (ndI p4 (ndI p5 (ndI hk (ndI g5 (ndI k4 (ndI @wrU @wrI)))))))); (repeat (any_goals (first | ((with_reducible refine evL_call ?_ ?_ ?_); rfl; rfl; intro K hK; (apply opA_callR (fr) (fun r => if r = 600 then 27 else r); rfl; rfl; rfl; rfl; exact Tryz.func9; kernel_rfl; rfl; rfl; (intro r hr q hq h; simp (disch := omega) only [List.map_cons, List.map_nil, List.cons_append, List.nil_append, List.mem_cons, List.not_mem_nil, or_false] at hr hq; (try dsimp only at h); first | omega); (simp (disch := omega) only [argsOk, argOk, AV.ren, AV.renL, renL_map, List.mem_cons, List.not_mem_nil, forall_eq_or_imp, forall_eq, newOk, List.contains_cons, List.contains_nil, AV.refsL, AV.refs, refsL_map, AV.inN, AV.inNL, inH, inNL_map, go_sem, W, l2, hm, ss, eq_self])); (simp (disch := omega) only [hputs, hdels, renH, AV.ren, AV.renL, renL_map, go_sem, W, l2, hm, ss, eq_self]; refine hK _ ?_; clear hK K)) | ((with_reducible refine evL_one ?_ ?_); rfl; intro K hK; simp (disch := omega) only [go_sem, W, l2, hm, ss, eq_self]; ((repeat (refine ndI (by first | assumption | rfl) ?_)); refine hK _ ?_; clear hK K)) | (with_reducible first | (refine evL_nil ?_; refine hR _ ?_; clear hR R) | ((first | refine evC_seq ?_); intro J hJ hJ') | (refine evC_region ?_; intro R hR) | (refine hJ _ ?_; clear hJ hJ' J)) | ((with_reducible refine evD_nil ?_ ?_); (apply drawOK_sim); (focus (repeat (first | exact Sims.nil | ((apply Sims.cons); (focus (first | exact Ef.sim_refl _)))))); kernel_rfl; (with_reducible refine hR _ ?_); clear hR R) | (((with_reducible apply evD_any); rfl; rfl; (simp (disch := omega) only [rdE, rdOf, go_sem, W, l2, hm, ss, eq_self]; rfl); (intro τ hA hQ hN; ((try simp only [agree, Op.operands, Call.operands, go_sem, W, l2, hm, ss, eq_self, go_sem, List.mem_cons, List.not_mem_nil, forall_eq_or_imp, forall_eq, List.append_toArray, Option.toArray] at hA); (try simp only [go_sem, W, l2, hm, ss, eq_self, List.mem_cons, List.not_mem_nil, forall_eq_or_imp, forall_eq] at hQ hN); (first | (revert hA; intro hA)); (first | (revert hQ; intro hQ)); (first | (revert hN; intro hN)); simp (disch := omega) only [go_sem, W, l2, hm, ss, eq_self, go_sem, hA, hQ, hN]; (repeat (refine ndI (by first | assumption | omega | rfl) ?_)); (first | apply eff_rd | apply eff_st)))); (simp (disch := omega) only [St.eff, setO, hputs, go_sem, W, l2, hm, ss, eq_self])) | ((with_reducible refine evC_draw ?_ ?_ ?_ ?_); kernel_rfl; kernel_rfl; (simp [newNames, isNew, St.free, freeH, AV.refsL, AV.refs, p4]); intro R hR)))))
  have q1 : unC (raP P2) = some (P2.flatMap Ph.pv) := unC_map _
  have q2 : (P2.flatMap Ph.pv).length = P2.length * 4 := flat_length ph_len _
  have q3 := raP_len P2
  have q4 : ∀ d, AV.refsL d (raP P2) = false := fun d => refsL_map d _
  change Fn _ _ [.agg [vi .u64 c.snd, phs false P2, asl false c.cd]] _ _ _ at bw2
  generalize brkC c = B1 at bw bl1 hbl
  generalize brkC ⟨c.snd, P2, c.cd⟩ = B2 at bw2 bl2 hbl
  with_reducible refine evL_op ?_ ?_
  · rfl
  intro K hK
  refine opA_callv_row (d := 41) bw (fun x hx => raB_v hx) rfl rfl rfl rfl Tryz.func22 (by kernel_rfl) rfl ?_ ?_ (by decide) ?_
  · simp [AV.viewL, AV.view, viewRow, St.ev, hget, p1, p2]
  · simp [St.free, freeH, AV.refs, AV.refsL, p4, q4]
  simp only [go_sem]
  refine hK _ ?_
  clear hK K
  (repeat (any_goals (first | ((with_reducible refine evL_one ?_ ?_); rfl; intro K hK; simp (disch := omega) only [go_sem, p4, q4]; ((repeat (refine ndI (by first | assumption | rfl) ?_)); refine hK _ ?_; clear hK K)) | (with_reducible first | (refine evL_nil ?_; refine hR _ ?_; clear hR R) | ((first | refine evC_seq ?_); intro J hJ hJ') | (refine evC_region ?_; intro R hR) | (refine hJ _ ?_; clear hJ hJ' J)))))
  with_reducible refine evL_op ?_ ?_
  · rfl
  intro K hK
  refine opA_callv_row (d := 43) bw2 (fun x hx => raB_v hx) rfl rfl rfl rfl Tryz.func22 (by kernel_rfl) rfl ?_ ?_ (by decide) ?_
  · simp [AV.viewL, AV.view, viewRow, St.ev, hget, q1, q2, l2]
  · simp [St.free, freeH, AV.refs, AV.refsL, p4, q4]
  simp only [go_sem]
  refine hK _ ?_
  clear hK K
  have b1 : (B1.flatMap Bk.pv).length = B1.length * 3 := flat_length bk_len _
  have b2 : (B2.flatMap Bk.pv).length = B2.length * 3 := flat_length bk_len _
  refine evL_to rfl (St.to.frz 41 (pcs := B1.flatMap Bk.pv) rfl) ?_
  simp only [St.frz, AV.frz, AV.frzL, frzH, frzL_map, if_true, eq_self, ↓reduceIte, b1, b2, Nat.reduceEqDiff, if_false, reduceCtorEq]
  refine evL_to rfl (St.to.frz 43 (pcs := B2.flatMap Bk.pv) rfl) ?_
  simp only [St.frz, AV.frz, AV.frzL, frzH, frzL_map, if_true, eq_self, ↓reduceIte, b1, b2, Nat.reduceEqDiff, if_false, reduceCtorEq]
  (repeat (any_goals (first | ((with_reducible refine evL_one ?_ ?_); rfl; intro K hK; simp (disch := omega) only [go_sem, p4, q4]; ((repeat (refine ndI (by first | assumption | rfl) ?_)); refine hK _ ?_; clear hK K)) | (with_reducible first | (refine evL_nil ?_; refine hR _ ?_; clear hR R) | ((first | refine evC_block ?_); intro J hJ hJ') | (refine hJ _ ?_; clear hJ hJ' J)))))
  clear hr bw bw2 ck br fr g5 hm hm0 hk hkl hp dr tk ss es hP2 k4 q1 q2 q3 q4 hl2 hc2 b1 b2
  refine evC_uptoT B2.length (fun i => stS1 c.snd c.ph c.cd B1 B2 i) (St.to.of_le (St.le_of (by simp [leT]) (by simp [leH, hget]))) ?_
  intro i hi J hJ hJ'
  (try dsimp only at hJ ⊢)
  rcases Nat.lt_or_ge i B2.length with hlt | hge
  · obtain ⟨b, hb⟩ : ∃ b, B2[i]? = some b := ⟨B2[i], List.getElem?_eq_getElem hlt⟩
    have c1 : (decide ((i : Int) < (B2.length : Int))) = true := by simpa using hlt
    have c2 := bk_at hb
    have c7 : (i : Int) + 1 = ((i + 1 : Nat) : Int) := by omega
    have cb := containsBk_fn false B1 b bl1
    rw [decide_eq_true (hbl b (List.mem_of_getElem? hb))] at cb
    (have W := ndI c1 (ndI c2 (ndI c7 (ndI p4 @wrI))); (repeat (any_goals (first | ((with_reducible refine evL_call ?_ ?_ ?_); rfl; rfl; intro K hK; ((apply opA_callB (cb); rfl; rfl; rfl; rfl; exact Tryz.func34); kernel_rfl; rfl; (focus ((simp (disch := omega) only [go_sem, W]); (try rfl); done)); (first | rfl)); (simp (disch := omega) only [go_sem, W]; refine hK _ ?_; clear hK K)) | ((with_reducible refine evL_one ?_ ?_); rfl; intro K hK; simp (disch := omega) only [go_sem, W]; ((repeat (refine ndI (by first | assumption | omega | rfl) ?_)); refine hK _ ?_; clear hK K)) | (with_reducible first | (refine evL_nil ?_; refine hR _ ?_; clear hR R) | ((first | refine evC_seq ?_ | refine evC_block ?_); intro J hJ hJ') | (refine evC_region ?_; intro R hR) | (refine hJ _ ?_; clear hJ hJ' J) | refine evC_skip ?_) | ((with_reducible refine hJ' _ _ ?_ ?_); (focus (simp; done)); clear hJ hJ' J) | ((with_reducible apply evC_cond); rfl; rfl; all_goals (intro hc; first | (cases hc; done) | (try simp only at hc)))))))
    all_goals exact hJ _ hlt (St.to.of_le (St.le_of (by simp [leT]) (by simp [leH, hget])))
  have c1 : (decide ((i : Int) < (B2.length : Int))) = false := by simpa using hge
  (repeat (any_goals (first | ((with_reducible refine evL_one ?_ ?_); rfl; intro K hK; simp (disch := omega) only [go_sem, c1, p4]; ((repeat (refine ndI (by first | assumption | rfl) ?_)); refine hK _ ?_; clear hK K)) | (with_reducible first | (refine evL_nil ?_; refine hR _ ?_; clear hR R) | ((first | refine evC_seq ?_ | refine evC_block ?_); intro J hJ hJ') | (refine evC_region ?_; intro R hR) | (refine hJ _ ?_; clear hJ hJ' J) | refine evC_exit ?_) | ((with_reducible refine hJ' _ _ ?_ ?_); (focus (simp; done)); clear hJ hJ' J) | ((with_reducible apply evC_cond); rfl; rfl; all_goals (intro hc; first | (cases hc; done) | (try simp only at hc))))))
  clear hi hge c1
  refine evC_uptoT c.ph.length (fun i => if i < c.ph.length then stS2 c.snd c.cd c.ph.length i ((c.ph.take i).map (setStk false) ++ c.ph.drop i) else stS3 c.snd c.cd c.ph.length i (c.ph.map (setStk false))) ?_ ?_
  · rw [if_pos hpos]
    exact St.to.of_le (St.le_of (by simp [leT]) (by simp [leH, hget]))
  intro i hi J hJ hJ'
  (try dsimp only at hJ ⊢)
  rcases Nat.lt_or_ge i c.ph.length with hlt | hge
  · obtain ⟨y, hy⟩ : ∃ y, c.ph[i]? = some y := ⟨_, List.getElem?_eq_getElem hlt⟩
    have c1 : (decide ((i : Int) < (c.ph.length : Int))) = true := by simpa using hlt
    have c7 : (i : Int) + 1 = ((i + 1 : Nat) : Int) := by omega
    rw [if_pos hlt]
    have hA : ((c.ph.take i).map (setStk false)).length = i := by rw [List.length_map, List.length_take]; omega
    have d1 : c.ph.drop i = y :: c.ph.drop (i + 1) := by
     rw [List.drop_eq_getElem_cons hlt]
     congr 1
     exact (List.getElem?_eq_some_iff.1 hy).2
    have d2 : (c.ph.take (i + 1)).map (setStk false) ++ c.ph.drop (i + 1) = (c.ph.take i).map (setStk false) ++ setStk false y :: c.ph.drop (i + 1) := by
     rw [List.take_add_one, hy, List.map_append]; simp
    have fin : ∀ σ' : St, σ'.to (stS2 c.snd c.cd c.ph.length (i + 1) ((c.ph.take (i + 1)).map (setStk false) ++ c.ph.drop (i + 1))) → J .normal σ' := fun σ' h => hJ σ' hlt (by
     by_cases hl : i + 1 < c.ph.length
     · rw [if_pos hl]; exact h
     · have ej : i + 1 = c.ph.length := by omega
       rw [if_neg hl]
       rw [ej, List.take_length, List.drop_length, List.append_nil] at h
       rw [ej]
       exact h.trans (stS2_frz c.snd c.cd c.ph.length c.ph.length (c.ph.map (setStk false)) (List.length_map _)))
    rw [d2] at fin
    rw [d1]
    have u5 := raP_len ((c.ph.take i).map (setStk false) ++ y :: c.ph.drop (i + 1))
    have u6 : i * 4 + 2 < (raP ((c.ph.take i).map (setStk false) ++ y :: c.ph.drop (i + 1))).length := by rw [u5, List.length_append, List.length_cons]; omega
    generalize (c.ph.take i).map (setStk false) = A at hA fin u5 u6 ⊢
    generalize c.ph.drop (i + 1) = B at fin u5 u6 ⊢
    have u1 := spl_stk (B := B) (y := y) hA false
    dsimp only [stS2]
    have w1 : ∀ d, AV.refsL d (raP (A ++ y :: B)) = false := fun d => refsL_map d _
    have w2 : ∀ d, AV.refsL d (raP (A ++ setStk false y :: B)) = false := fun d => refsL_map d _
    (have W := ndI c1 (ndI c7 (ndI u1 (ndI u6 (ndI w1 (ndI w2 @wrI))))); (repeat (any_goals (first | ((with_reducible refine evL_one ?_ ?_); rfl; intro K hK; simp (disch := omega) only [go_sem, W]; ((repeat (refine ndI (by first | assumption | omega | rfl) ?_)); refine hK _ ?_; clear hK K)) | (with_reducible first | (refine evL_nil ?_; refine hR _ ?_; clear hR R) | ((first | refine evC_seq ?_ | refine evC_block ?_); intro J hJ hJ') | (refine evC_region ?_; intro R hR) | (refine hJ _ ?_; clear hJ hJ' J) | refine evC_skip ?_) | ((with_reducible refine hJ' _ _ ?_ ?_); (focus (simp; done)); clear hJ hJ' J) | ((with_reducible apply evC_cond); rfl; rfl; all_goals (intro hc; first | (cases hc; done) | (try simp only at hc)))))))
    all_goals exact fin _ (St.to.of_le (St.le_of (by simp [leT]) (by simp [leH, hget])))
  have c1 : (decide ((i : Int) < (c.ph.length : Int))) = false := by simpa using hge
  rw [if_neg (by omega)]
  have lm : (c.ph.map (setStk false)).length = c.ph.length := List.length_map _
  have rf : ∀ (i j : Int), Fn Tryz.prog 33 [.agg [vi .u64 c.snd, phs false (c.ph.map (setStk false)), asl false c.cd], vi .i64 i, vi .i64 j] [] (vi .i64 (ruleP ⟨c.snd, c.ph.map (setStk false), c.cd⟩ i j)) [] := fun i j => Rule_fn ⟨c.snd, c.ph.map (setStk false), c.cd⟩ h0 i j
  have of_ : ∀ s : Sp, s.ok → Fn Tryz.prog 14 [.agg [vi .u64 c.snd, phs false (c.ph.map (setStk false)), asl false c.cd], spA s] [] (vb (ownB' ⟨c.snd, c.ph.map (setStk false), c.cd⟩ s)) [] := fun s hs => own_fn ⟨c.snd, c.ph.map (setStk false), c.cd⟩ h0 s hs
  have hP : ∀ p ∈ c.ph.map (setStk false), p.tr.length ≤ 1000 ∧ ∀ e ∈ p.tr, e.ok := fun p hp => (h0.2.1.2 p hp).2
  rw [← lm] at hl4 hge hi
  clear h0 lm hpos p1 p2 p3 p4 p5 bl1 bl2 hbl l2
  generalize c.ph.map (setStk false) = Q at *
  generalize ruleP ⟨c.snd, Q, c.cd⟩ = Ru at rf h0l
  generalize ownB' ⟨c.snd, Q, c.cd⟩ = Ow at of_ h0l
  dsimp only [stS3]
  (repeat (any_goals (first | ((with_reducible refine evL_one ?_ ?_); rfl; intro K hK; simp (disch := omega) only [go_sem, c1]; ((repeat (refine ndI (by first | assumption | rfl) ?_)); refine hK _ ?_; clear hK K)) | (with_reducible first | (refine evL_nil ?_; refine hR _ ?_; clear hR R) | ((first | refine evC_seq ?_ | refine evC_block ?_); intro J hJ hJ') | (refine evC_region ?_; intro R hR) | (refine hJ _ ?_; clear hJ hJ' J) | refine evC_exit ?_) | ((with_reducible refine hJ' _ _ ?_ ?_); (focus (simp; done)); clear hJ hJ' J) | ((with_reducible apply evC_cond); rfl; rfl; all_goals (intro hc; first | (cases hc; done) | (try simp only at hc))))))
  clear c1 hge
  refine evC_uptoT Q.length (fun i => stS4 c.snd c.cd Q i) (St.to.of_le (St.le_of (by simp [leT]) (by simp [leH, hget]))) ?_
  intro i hi J hJ hJ'
  (try dsimp only at hJ ⊢)
  rcases Nat.lt_or_ge i Q.length with hlt | hge
  · obtain ⟨y, hy⟩ : ∃ y, Q[i]? = some y := ⟨Q[i], List.getElem?_eq_getElem hlt⟩
    have c1 : (decide ((i : Int) < (Q.length : Int))) = true := by simpa using hlt
    have c2 := ph_at hy
    have c7 : (i : Int) + 1 = ((i + 1 : Nat) : Int) := by omega
    obtain ⟨yl, yo⟩ := hP y (List.mem_of_getElem? hy)
    have h0y := fun j e he => h0l i j y e hy he
    have hJ0 := fun σ' => hJ σ' hlt
    (have W := ndI c1 (ndI c2 (ndI c7 @wrI)); (repeat (any_goals (first | ((with_reducible refine evL_one ?_ ?_); rfl; intro K hK; simp (disch := omega) only [go_sem, W]; ((repeat (refine ndI (by first | assumption | omega | rfl) ?_)); refine hK _ ?_; clear hK K)) | (with_reducible first | (refine evL_nil ?_; refine hR _ ?_; clear hR R) | ((first | refine evC_seq ?_ | refine evC_block ?_); intro J hJ hJ') | (refine evC_region ?_; intro R hR) | (refine hJ _ ?_; clear hJ hJ' J) | refine evC_skip ?_) | ((with_reducible apply evC_cond); rfl; rfl; all_goals (intro hc; first | (cases hc; done) | (try simp only at hc)))))))
    refine evC_uptoT y.tr.length (fun j => stS5 c.snd c.cd Q y.tr i j) (St.to.of_le (St.le_of (by simp [leT]) (by simp [leH, hget]))) ?_
    generalize y.tr = L at yl yo h0y ⊢
    intro j hj J hJ hJ'
    (try dsimp only at hJ ⊢)
    rcases Nat.lt_or_ge j L.length with hjt | hje
    · obtain ⟨e, he⟩ : ∃ e, L[j]? = some e := ⟨L[j], List.getElem?_eq_getElem hjt⟩
      have d1 : (decide ((j : Int) < (L.length : Int))) = true := by simpa using hjt
      have d2 := ev_at he
      have d7 : (j : Int) + 1 = ((j + 1 : Nat) : Int) := by omega
      have eo := yo e (List.mem_of_getElem? he)
      have rr := rf i j
      have oo := of_ e.sp ⟨eo.2.2.2.2.1, eo.1⟩
      have hz := h0y j e he
      have fin := fun σ' => hJ σ' hjt
      obtain ⟨b1, h1⟩ : ∃ b, (e.kind == 2) = b := ⟨_, rfl⟩
      obtain ⟨b2, h2⟩ : ∃ b, (e.kind == 3) = b := ⟨_, rfl⟩
      rw [show (e.kind = 2 ∨ e.kind = 3) = ((b1 || b2) = true) by rw [← h1, ← h2]; simp] at hz
      generalize Ru i j = z at rr hz
      obtain ⟨b3, h3⟩ : ∃ b, (z == 0) = b := ⟨_, rfl⟩
      rw [show (z = 0) = (b3 = true) by rw [← h3]; simp] at hz
      change Fn _ _ [_, .agg [vi .u64 e.self, vi .u64 (l0 e.key), vi .u64 (l1 e.key), vi .u64 (l2 e.key), vi .u64 (l3 e.key)]] _ _ _ at oo
      generalize Ow e.sp = b4 at oo hz
      clear hJ0 h0y yo h0l rf of_
      cases b1 <;> cases b2 <;> cases b3 <;> first | (cases (show b4 = true from hz rfl rfl)) | skip
      all_goals clear hz
      all_goals (have W := ndI d1 (ndI d2 (ndI d7 (ndI h1 (ndI h2 (ndI h3 @wrI))))); (repeat (any_goals (first | ((with_reducible refine evL_one ?_ ?_); rfl; intro K hK; simp (disch := omega) only [go_sem, W]; ((repeat (refine ndI (by first | assumption | omega | rfl) ?_)); refine hK _ ?_; clear hK K)) | (with_reducible first | (refine evL_nil ?_; refine hR _ ?_; clear hR R) | ((first | refine evC_seq ?_ | refine evC_block ?_); intro J hJ hJ') | (refine evC_region ?_; intro R hR) | (refine hJ _ ?_; clear hJ hJ' J) | refine evC_skip ?_) | ((with_reducible refine hJ' _ _ ?_ ?_); (focus (simp; done)); clear hJ hJ' J) | ((with_reducible apply evL_grd); rfl; rfl; rfl; all_goals (intro hb; first | (cases hb; done) | ((try simp only [Bool.not_true, Bool.not_false] at hb); (first | ((with_reducible intro K hK); (first | ((first | (apply opA_callB (rr); rfl; rfl; rfl; rfl; exact Tryz.func33) | (apply opA_callB (oo); rfl; rfl; rfl; rfl; exact Tryz.func14)); kernel_rfl; rfl; (focus ((simp (disch := omega) only [go_sem, W]); (try rfl); done)); (first | rfl)) | skip); simp (disch := omega) only [go_sem, W]; ((repeat (refine ndI (by first | assumption | rfl) ?_)); refine hK _ ?_; clear hK K)) | ((fail_if_success (with_reducible intro _)); simp (disch := omega) only [go_sem, W]))))) | ((with_reducible apply evC_cond); rfl; rfl; all_goals (intro hc; first | (cases hc; done) | (try simp only at hc)))))))
      all_goals exact fin _ (St.to.of_le (St.le_of (by simp [leT]) (by simp [leH, hget])))
    have d1 : (decide ((j : Int) < (L.length : Int))) = false := by simpa using hje
    (have W := ndI d1 (ndI c7 @wrI); (repeat (any_goals (first | ((with_reducible refine evL_one ?_ ?_); rfl; intro K hK; simp (disch := omega) only [go_sem, W]; ((repeat (refine ndI (by first | assumption | rfl) ?_)); refine hK _ ?_; clear hK K)) | (with_reducible first | (refine evL_nil ?_; refine hR _ ?_; clear hR R) | ((first | refine evC_seq ?_); intro J hJ hJ') | (refine evC_region ?_; intro R hR) | (refine hJ _ ?_; clear hJ hJ' J) | refine evC_exit ?_) | ((with_reducible refine hJ' _ _ ?_ ?_); (focus (simp; done)); clear hJ hJ' J) | ((with_reducible apply evC_cond); rfl; rfl; all_goals (intro hc; first | (cases hc; done) | (try simp only at hc)))))))
    all_goals exact hJ0 _ (St.to.of_le (St.le_of (by simp [leT]) (by simp [leH, hget])))
  have c1 : (decide ((i : Int) < (Q.length : Int))) = false := by simpa using hge
  (repeat (any_goals (first | ((with_reducible refine evL_one ?_ ?_); rfl; intro K hK; simp (disch := omega) only [go_sem, c1]; ((repeat (refine ndI (by first | assumption | rfl) ?_)); refine hK _ ?_; clear hK K)) | (with_reducible first | (refine evL_nil ?_; refine hR _ ?_; clear hR R) | ((first | refine evC_seq ?_); intro J hJ hJ') | (refine evC_region ?_; intro R hR) | (refine hJ _ ?_; clear hJ hJ' J) | refine evC_ret ?_ | refine evC_exit ?_) | ((with_reducible refine hJ' _ _ ?_ ?_); (focus (simp; done)); clear hJ hJ' J) | ((with_reducible apply evC_cond); rfl; rfl; all_goals (intro hc; first | (cases hc; done) | (try simp only at hc))))))
  all_goals (refine ⟨by simp, ⟨_, ?_, AV.le_refl _⟩, leH_get (by simp [leH, hget])⟩; simp only [Tryz.results7, resL, ldA, oneOf, go_sem])
theorem stakes_fn (x : Cs) (hx : x.raw) (n : Int) : Fn Tryz.prog 7 [csA x, vi .i64 n] [] (vb true) [] :=
 stakes_fnE x (cutC x) (cutC_ok hx) (cutC_len x) (few_row x hx) n
end Go.Proofs.YtgdjkkapgghdbaaGreatDoor
namespace Go.Proofs.YtgdjkkapgghdbaaGreatDoor
open Go.RowKit Go.ChangeShapes Go.WideShapes Go.ChangeAt Go.Deep
section
variable {H : Type} {enc : TypeId × Value → H} {P : Program}
def Dec {α : Type} (P : Program) (t : TypeId) (sz : Nat) (f : α → List Value) (Good : α → Prop) : Prop :=
 P.cellsOf t = sz ∧ ∀ (H : Type) (enc : TypeId × Value → H) (w : World) (base : Nat) (spare : Nat → Bool) (held : Bool) (fuel : Nat) (cs : List Value) (x : DataW H × List MemPlace),
  DataW.trod enc P w base spare held fuel t cs = some x → ∃ a, cs = f a ∧ Good a
theorem dec_int {t : TypeId} {k : IntKind} (ht : P.underlying t = some (.int k)) (hc : P.cellsOf t = 1) : Dec P t 1 (fun n : Int => [.int k n]) (fun n => (Lit.int k n).wf = true) :=
 ⟨hc, fun H enc w base spare held fuel cs x h => by
  obtain ⟨n, rfl, _, hw⟩ := DataW.trod_int ht h
  exact ⟨n, rfl, hw⟩⟩
theorem dec_map {α β : Type} {t : TypeId} {sz : Nat} {f : α → List Value} {G : α → Prop} (h : Dec P t sz f G) {f' : β → List Value} {G' : β → Prop} (hg : ∀ a, G a → ∃ b, f a = f' b ∧ G' b) : Dec P t sz f' G' :=
 ⟨h.1, fun H enc w base spare held fuel cs x hx => by
  obtain ⟨a, e, g⟩ := h.2 H enc w base spare held fuel cs x hx
  obtain ⟨b, e', g'⟩ := hg a g
  exact ⟨b, e.trans e', g'⟩⟩
theorem wf_u64 {n : Int} (h : (Lit.int .u64 n).wf = true) : 0 ≤ n ∧ n < 18446744073709551616 := by
 simp [Lit.wf, IntKind.min, IntKind.max, IntKind.signed, IntKind.bits] at h; omega
theorem wf_u8 {n : Int} (h : (Lit.int .u8 n).wf = true) : 0 ≤ n ∧ n < 256 := by
 simp [Lit.wf, IntKind.min, IntKind.max, IntKind.signed, IntKind.bits] at h; omega
theorem dec_u64 {t : TypeId} (ht : P.underlying t = some (.int .u64)) (hc : P.cellsOf t = 1) : Dec P t 1 (fun n : Nat => [.int .u64 (n : Int)]) (fun n => n < 18446744073709551616) :=
 dec_map (dec_int ht hc) fun n h => ⟨n.toNat, by have := wf_u64 h; rw [Int.toNat_of_nonneg (by omega)], by have := wf_u64 h; omega⟩
theorem choose_list {α : Type} {p : Nat → α → Prop} (n : Nat) (h : ∀ i, i < n → ∃ b, p i b) : ∃ l : List α, l.length = n ∧ ∀ i b, l[i]? = some b → p i b := by
 induction n with
 | zero => exact ⟨[], rfl, by simp⟩
 | succ k ih =>
  obtain ⟨l, hl, hp⟩ := ih fun i hi => h i (by omega)
  obtain ⟨b, hb⟩ := h k (by omega)
  refine ⟨l ++ [b], by simp [hl], fun i b' hib => ?_⟩
  rw [List.getElem?_append] at hib
  split at hib
  · exact hp i b' hib
  · have hi0 : i = k := by
      have := (List.getElem?_eq_some_iff.1 hib).1
      simp at this; omega
    subst hi0
    rw [hl, Nat.sub_self] at hib
    simp at hib
    subst hib
    exact hb
theorem dec_arr {α : Type} {t e : TypeId} {n sz : Nat} {f : α → List Value} {G : α → Prop} (ht : P.underlying t = some (.array n e)) (hc : P.cellsOf t = n * sz) (hs : 0 < sz)
    (he : Dec P e sz f G) (hf : ∀ a, (f a).length = sz) : Dec P t (n * sz) (sts f) (fun l => l.length = n ∧ ∀ a ∈ l, G a) :=
 ⟨hc, fun H enc w base spare held fuel cs x hx => by
  obtain ⟨xs, m, _, _, hlen, hxl, hi⟩ := DataW.trod_array ht hx
  rw [hc] at hlen
  obtain ⟨l, hl, hp⟩ := choose_list (p := fun i b => G b ∧ (cs.drop (i * sz)).take sz = f b) n fun i hin => by
   have h1 := hi i hin
   rw [he.1, List.getElem?_eq_getElem (by omega)] at h1
   obtain ⟨b, hb, hg⟩ := he.2 H enc w base spare held m _ _ h1
   exact ⟨b, hg, hb⟩
  refine ⟨l, ?_, hl, fun a ha => ?_⟩
  · apply List.ext_getElem?
    intro j
    by_cases hj : j < n * sz
    · have hq : j / sz < n := Nat.div_lt_of_lt_mul (by rw [Nat.mul_comm]; exact hj)
      have hr : j % sz < sz := Nat.mod_lt _ hs
      have hje : j = j / sz * sz + j % sz := by rw [Nat.mul_comm]; exact (Nat.div_add_mod j sz).symm
      have hk : l[j / sz]? = some (l[j / sz]'(by omega)) := List.getElem?_eq_getElem (by omega)
      have h1 := sts_get hf hk hr
      rw [← hje] at h1
      rw [h1, ← (hp _ _ hk).2, List.getElem?_take, if_pos hr, List.getElem?_drop, ← hje]
    · rw [List.getElem?_eq_none (by omega), List.getElem?_eq_none (by rw [sts_length f sz hf, hl]; omega)]
  · obtain ⟨i, hi'⟩ := List.mem_iff_getElem?.1 ha
    exact (hp i a hi').1⟩
theorem trodAll_stays (hl : laidOutB P = true) {W W' : World} (hb : Below W.heap.size W W') : ∀ {ts : List TypeId} {vs : List Value} {ds : List (DataW H)} {ps : List MemPlace},
    (∀ t ∈ ts, P.readableRec t = true ∧ t < P.types.size) → DataW.TrodAll enc P W 0 (fun _ => true) true ts vs ds ps → DataW.TrodAll enc P W' 0 (fun b => decide (b < W.heap.size)) true ts vs ds ps
 | [], [], [], _, _, h => h
 | t :: ts, v :: vs, d :: ds, ps, hr, h => by
  obtain ⟨p, q, ⟨m, hm⟩, hq, rfl⟩ := h
  have h1 := hr t (List.mem_cons_self ..)
  exact ⟨p, q, Below.trod hl h1.1 h1.2 ⟨m, hm⟩ hb (fun x hx => DataW.trod_lt m _ _ _ hm x hx), trodAll_stays hl hb (fun t ht => hr t (List.mem_cons_of_mem _ ht)) hq, rfl⟩
 | [], _ :: _, _, _, _, h => h.elim
 | [], [], _ :: _, _, _, h => h.elim
 | _ :: _, [], _, _, _, h => h.elim
 | _ :: _, _ :: _, [], _, _, h => h.elim
theorem trodAll_size : ∀ {w : World} {base : Nat} {spare : Nat → Bool} {held : Bool} {ts : List TypeId} {vs : List Value} {ds : List (DataW H)} {ps : List MemPlace}, DataW.TrodAll enc P w base spare held ts vs ds ps → ds.length = ts.length
 | _, _, _, _, [], [], [], _, _ => rfl
 | _, _, _, _, t :: ts, v :: vs, d :: ds, _, h => by
  obtain ⟨p, q, _, hq, _⟩ := h
  simp [trodAll_size hq]
 | _, _, _, _, [], _ :: _, _, _, h => h.elim
 | _, _, _, _, [], [], _ :: _, _, h => h.elim
 | _, _, _, _, _ :: _, [], _, _, h => h.elim
 | _, _, _, _, _ :: _, _ :: _, [], _, h => h.elim
theorem law_post {W : World} {args : Array Value} {ds gs : List (DataW H)} {before : List MemPlace} {fn : Func} {s : ChangeSpec} {f : Nat} {tb : TypeId} (hl : laidOutB P = true) (hvars : s.vars = []) (htb : P.underlying tb = some .bool) (hrt : fn.resultTypes = #[tb])
    (hr : ∀ t ∈ fn.params.toList, P.readableRec t = true ∧ t < P.types.size) (hfn : ∀ ds : List (DataW H), ds.length = fn.params.toList.length → s.fn H ds = { results := [.lit (.bool true)], args := ds })
    (hW : DataW.Whole enc P fn.params.toList s.vars false W args.toList ds gs before) (hc : Calls P f args W (RetT W true)) :
    Calls P f args W fun e W' => ∃ v, e = .returned v ∧ s.post enc P fn false true false false W args v W' := by
 refine hc.mono fun e W' h => ?_
 obtain ⟨he, bel⟩ := h
 subst he
 have hW' := hW
 obtain ⟨p, q, hA, hV, rfl, hfz, hnd⟩ := hW
 rw [hvars] at hV
 obtain ⟨rfl, rfl⟩ := trodVars_none hV
 have hfd := hfn ds (trodAll_size hA)
 refine ⟨_, rfl, ds, [], p ++ [], [], p, [], hW', ?_, ?_, ?_, bel.frame _, fun h => by cases h⟩
 · rw [hrt, List.append_nil, hfd]
   exact trodAll_mk1 (shut_bool htb _)
 · rw [List.append_nil, hfd]
   exact trodAll_stays hl bel hr hA
 · rw [hvars, List.append_nil, hfd]
   rfl
end
end Go.Proofs.YtgdjkkapgghdbaaGreatDoor
namespace Go.Proofs.YtgdjkkapgghdbaaGreatDoor
open Go.RowKit Go.ChangeShapes Go.WideShapes Go.ChangeAt Go.Deep
def DecV {α : Type} (P : Program) (t : TypeId) (sz : Nat) (g : α → List PV) (Good : α → Prop) : Prop :=
 P.cellsOf t = sz ∧ ∀ (H : Type) (enc : TypeId × Value → H) (w : World) (base : Nat) (spare : Nat → Bool) (held : Bool) (fuel : Nat) (cs : List Value) (x : DataW H × List MemPlace),
  DataW.trod enc P w base spare held fuel t cs = some x → ∃ a, cs.length = sz ∧ (g a).length = sz ∧ (∀ (j : Nat) (u : Value) (y : PV), cs[j]? = some u → (g a)[j]? = some y → RVp (fun _ => True) w u y) ∧ Good a
theorem Dec.toV {α : Type} {P : Program} {t : TypeId} {sz : Nat} {f : α → List Value} {G : α → Prop} (h : Dec P t sz f G) (hf : ∀ a, (f a).length = sz) (ho : ∀ a, ∀ u ∈ f a, u.oneCell' = true) : DecV P t sz (fun a => (f a).map .v) G :=
 ⟨h.1, fun H enc w base spare held fuel cs x hx => by
  obtain ⟨a, rfl, ga⟩ := h.2 H enc w base spare held fuel cs x hx
  refine ⟨a, hf a, by simp [hf], fun j u y hu hy => ?_, ga⟩
  rw [List.getElem?_map, hu] at hy
  cases hy
  exact .v u (ho a u (List.mem_of_getElem? hu))⟩
theorem DecV.map {α β : Type} {P : Program} {t : TypeId} {sz : Nat} {g : α → List PV} {G : α → Prop} (h : DecV P t sz g G) {g' : β → List PV} {G' : β → Prop} (hg : ∀ a, G a → ∃ b, g a = g' b ∧ G' b) : DecV P t sz g' G' :=
 ⟨h.1, fun H enc w base spare held fuel cs x hx => by
  obtain ⟨a, h1, h2, h3, ga⟩ := h.2 H enc w base spare held fuel cs x hx
  obtain ⟨b, e, gb⟩ := hg a ga
  exact ⟨b, h1, by rw [← e]; exact h2, by rw [← e]; exact h3, gb⟩⟩
theorem decV_slice {α : Type} {P : Program} {t e : TypeId} {sz : Nat} {g : α → List PV} {G : α → Prop} (ht : P.underlying t = some (.slice e)) (hc : P.cellsOf t = 1) (he : DecV P e sz g G) (hs : 0 < sz) (hgl : ∀ a, (g a).length = sz) :
    DecV P t 1 (fun l : List α => [PV.sl false sz l.length (l.flatMap g)]) (fun l => l.length ≤ maxLen ∧ ∀ a ∈ l, G a) :=
 ⟨hc, fun H enc w base spare held fuel cs x hx => by
  rcases DataW.trod_slice ht hx with ⟨rfl, _⟩ | ⟨a, n, c, elems, rest, m, _, rfl, _, _, hl, hm, hel, hi, _, _⟩
  · refine ⟨[], rfl, rfl, fun j u y hu hy => ?_, Nat.zero_le _, by simp⟩
    cases j with
    | zero =>
     simp only [List.getElem?_cons_zero, Option.some.injEq] at hu hy
     subst hu hy
     exact .sl false sz none 0 0 [] [] (Nat.le_refl _) (Nat.zero_le _) (fun _ => rfl) (fun h => by cases h) rfl (by simp) (fun h => absurd rfl h) fun j u x hu => by cases hu
    | succ j => simp at hu
  · have key : ∀ i, i < n → ∃ b : α, G b ∧ ∃ us : List Value, us.length = sz ∧ (∀ j, j < sz → w.cell? (a.add (i * sz + j)) = us[j]?) ∧ ∀ (j : Nat) (u : Value) (y : PV), us[j]? = some u → (g b)[j]? = some y → RVp (fun _ => True) w u y := by
      intro i hin
      have h1 := hi i hin
      rw [List.getElem?_eq_getElem (by omega)] at h1
      obtain ⟨us, hcs, htr⟩ := Option.bind_eq_some_iff.1 h1
      rw [he.1] at hcs
      obtain ⟨b, hb1, hb2, hb3, hG⟩ := he.2 H enc w base spare held m us _ htr
      obtain ⟨_, hcl, hat⟩ := World.cells?_some hcs
      refine ⟨b, hG, us, hb1, fun j hj => ?_, hb3⟩
      rw [← Go.Deep.add_add, hat j hj]
    have key2 : ∃ l : List α, l.length = n ∧ ∀ i b, l[i]? = some b → G b ∧ ∃ us : List Value, us.length = sz ∧ (∀ j, j < sz → w.cell? (a.add (i * sz + j)) = us[j]?) ∧ ∀ (j : Nat) (u : Value) (y : PV), us[j]? = some u → (g b)[j]? = some y → RVp (fun _ => True) w u y :=
     choose_list (p := fun i b => G b ∧ ∃ us : List Value, us.length = sz ∧ (∀ j, j < sz → w.cell? (a.add (i * sz + j)) = us[j]?) ∧ ∀ (j : Nat) (u : Value) (y : PV), us[j]? = some u → (g b)[j]? = some y → RVp (fun _ => True) w u y) n key
    obtain ⟨l, hll, hp⟩ := key2
    have hcell : ∀ j, j < n * sz → ∃ u, w.cell? (a.add j) = some u ∧ ∀ y, (l.flatMap g)[j]? = some y → RVp (fun _ => True) w u y := fun j hjl => by
     have hq : j / sz < n := Nat.div_lt_of_lt_mul (by rw [Nat.mul_comm]; exact hjl)
     have hr : j % sz < sz := Nat.mod_lt _ hs
     have hj : j = j / sz * sz + j % sz := by rw [Nat.mul_comm]; exact (Nat.div_add_mod j sz).symm
     have hk : l[j / sz]? = some (l[j / sz]'(by omega)) := List.getElem?_eq_getElem (by omega)
     obtain ⟨_, us, hul, hc1, hrv⟩ := hp _ _ hk
     have h1 := hc1 _ hr
     rw [← hj, List.getElem?_eq_getElem (by omega)] at h1
     refine ⟨_, h1, fun y hy => hrv (j % sz) _ y (List.getElem?_eq_getElem (by omega)) ?_⟩
     have h2 := flat_at hgl hk
     have h3 : ((l.flatMap g).drop (j / sz * sz)).take sz = g (l[j / sz]'(by omega)) := h2
     rw [← h3, List.getElem?_take, if_pos hr, List.getElem?_drop, ← hj]
     exact hy
    have hus : ∃ us : List Value, us.length = n * sz ∧ ∀ j u, us[j]? = some u → w.cell? (a.add j) = some u ∧ ∀ y, (l.flatMap g)[j]? = some y → RVp (fun _ => True) w u y :=
     choose_list (p := fun j u => w.cell? (a.add j) = some u ∧ ∀ y, (l.flatMap g)[j]? = some y → RVp (fun _ => True) w u y) (n * sz) hcell
    obtain ⟨us, husl, hu⟩ := hus
    have hfl : (l.flatMap g).length = n * sz := by rw [flat_length hgl, hll]
    refine ⟨l, rfl, rfl, fun j u y hu0 hy => ?_, by omega, fun b hb => ?_⟩
    · cases j with
      | zero =>
       simp only [List.getElem?_cons_zero, Option.some.injEq] at hu0 hy
       subst hu0 hy
       rw [hll]
       refine .sl false sz (some a) n c us _ hl hm (fun h => by cases h) (fun h => by cases h) (by rw [husl, hfl]) hfl (fun hne => ?_) fun j u x hj hx => (hu j u hj).2 x hx
       obtain ⟨u0, rest0, hu0⟩ := List.exists_cons_of_ne_nil hne
       have hc0 := (hu 0 u0 (by rw [hu0]; rfl)).1
       rw [add_zero'] at hc0
       have hspot := World.cell?_spot hc0
       obtain ⟨ab, ao, asp⟩ := a
       simp only at hspot
       subst hspot
       exact ⟨ab, ao, rfl, trivial, fun j u hj => by have := (hu j u hj).1; rwa [add_none] at this⟩
      | succ j => simp at hu0
    · obtain ⟨i, hi'⟩ := List.mem_iff_getElem?.1 hb
      exact (hp i b hi').1⟩
theorem decV_int {P : Program} {t : TypeId} {k : IntKind} (ht : P.underlying t = some (.int k)) (hc : P.cellsOf t = 1) : DecV P t 1 (fun n : Int => [PV.v (.int k n)]) (fun n => (Lit.int k n).wf = true) :=
 ((dec_int ht hc).toV (fun _ => rfl) (fun a u hu => by simp at hu; subst hu; rfl)).map fun a ga => ⟨a, rfl, ga⟩
theorem decV_u64 {P : Program} {t : TypeId} (ht : P.underlying t = some (.int .u64)) (hc : P.cellsOf t = 1) : DecV P t 1 (fun n : Int => [PV.v (.int .u64 n)]) (fun n => 0 ≤ n ∧ n ≤ 18446744073709551615) :=
 (decV_int ht hc).map fun a ga => ⟨a, rfl, by have := wf_u64 ga; omega⟩
theorem decV_w4 {P : Program} {t e : TypeId} (ht : P.underlying t = some (.array 4 e)) (hc : P.cellsOf t = 4 * 1) (he : P.underlying e = some (.int .u64)) (hce : P.cellsOf e = 1) :
    DecV P t 4 (fun x : Int × Int × Int × Int => [PV.v (.int .u64 x.1), .v (.int .u64 x.2.1), .v (.int .u64 x.2.2.1), .v (.int .u64 x.2.2.2)]) (fun x => (0 ≤ x.1 ∧ x.1 ≤ 18446744073709551615) ∧ (0 ≤ x.2.1 ∧ x.2.1 ≤ 18446744073709551615) ∧ (0 ≤ x.2.2.1 ∧ x.2.2.1 ≤ 18446744073709551615) ∧ (0 ≤ x.2.2.2 ∧ x.2.2.2 ≤ 18446744073709551615)) :=
 ((dec_map (f' := fun x : Int × Int × Int × Int => [.int .u64 x.1, .int .u64 x.2.1, .int .u64 x.2.2.1, .int .u64 x.2.2.2]) (G' := fun x => (0 ≤ x.1 ∧ x.1 ≤ 18446744073709551615) ∧ (0 ≤ x.2.1 ∧ x.2.1 ≤ 18446744073709551615) ∧ (0 ≤ x.2.2.1 ∧ x.2.2.1 ≤ 18446744073709551615) ∧ (0 ≤ x.2.2.2 ∧ x.2.2.2 ≤ 18446744073709551615)) (dec_arr (n := 4) ht hc (by omega) (dec_u64 he hce) (fun _ => rfl)) fun l ⟨hl, hg⟩ => by
  match l, hl with
  | [x, y, z, u], _ =>
   have h1 := hg x (by simp)
   have h2 := hg y (by simp)
   have h3 := hg z (by simp)
   have h4 := hg u (by simp)
   exact ⟨(x, y, z, u), by simp [sts], ⟨by simp only; omega, by simp only; omega⟩, ⟨by simp only; omega, by simp only; omega⟩, ⟨by simp only; omega, by simp only; omega⟩, ⟨by simp only; omega, by simp only; omega⟩⟩).toV (fun _ => rfl) (fun a u hu => by simp at hu; rcases hu with rfl | rfl | rfl | rfl <;> rfl)).map fun a ga => ⟨a, rfl, ga⟩
open Go.RowKit Go.ChangeShapes Go.WideShapes Go.ChangeAt Go.Deep
def DecF {α : Type} (P : Program) (fs : List Field) (o sz : Nat) (g : α → List PV) (Good : α → Prop) : Prop :=
 ∀ (H : Type) (enc : TypeId × Value → H) (w : World) (base : Nat) (spare : Nat → Bool) (held : Bool) (fuel : Nat) (cs : List Value), o + sz ≤ cs.length →
  (∀ f ∈ fs, ∃ x : DataW H × List MemPlace, DataW.trod enc P w base spare held fuel f.type ((cs.drop f.offset).take (P.cellsOf f.type)) = some x) →
  ∃ a, (g a).length = sz ∧ (∀ (j : Nat) (u : Value) (y : PV), cs[o + j]? = some u → (g a)[j]? = some y → RVp (fun _ => True) w u y) ∧ Good a
theorem decF_one {α : Type} {P : Program} {f : Field} {o sz : Nat} {g : α → List PV} {G : α → Prop} (h : DecV P f.type sz g G) (ho : f.offset = o) : DecF P [f] o sz g G := by
 intro H enc w base spare held fuel cs hlen hf
 obtain ⟨x, hx⟩ := hf f (by simp)
 rw [ho, h.1] at hx
 obtain ⟨a, a1, a2, a3, ga⟩ := h.2 H enc w base spare held fuel _ _ hx
 refine ⟨a, a2, fun j u y hu hy => a3 j u y ?_ hy, ga⟩
 have hj := (List.getElem?_eq_some_iff.1 hy).1
 rw [List.getElem?_take, if_pos (by omega), List.getElem?_drop]
 exact hu
theorem decF_cons {α β : Type} {P : Program} {f : Field} {fs : List Field} {o s0 s1 : Nat} {g : α → List PV} {g' : β → List PV} {G : α → Prop} {G' : β → Prop} (h : DecV P f.type s0 g G) (ho : f.offset = o) (hr : DecF P fs (o + s0) s1 g' G') :
    DecF P (f :: fs) o (s0 + s1) (fun x : α × β => g x.1 ++ g' x.2) (fun x => G x.1 ∧ G' x.2) := by
 intro H enc w base spare held fuel cs hlen hf
 obtain ⟨a, a2, a3, ga⟩ := decF_one h ho H enc w base spare held fuel cs (by omega) (fun f' hf' => hf f' (by simp at hf'; simp [hf']))
 obtain ⟨b, b2, b3, gb⟩ := hr H enc w base spare held fuel cs (by omega) (fun f' hf' => hf f' (by simp [hf']))
 refine ⟨(a, b), by simp [a2, b2], fun j u y hu hy => ?_, ga, gb⟩
 dsimp only at hy
 rw [List.getElem?_append] at hy
 split at hy
 · exact a3 j u y hu hy
 · exact b3 (j - (g a).length) u y (by rw [a2, show o + s0 + (j - s0) = o + j by omega]; exact hu) hy
theorem decV_struct {α : Type} {P : Program} {t : TypeId} {fs : Array Field} {sz : Nat} {g : α → List PV} {G : α → Prop} (ht : P.underlying t = some (.struct fs)) (hc : P.cellsOf t = sz) (h : DecF P fs.toList 0 sz g G) : DecV P t sz g G :=
 ⟨hc, fun H enc w base spare held fuel cs x hx => by
  obtain ⟨xs, n, _, _, hlen, hxl, hf⟩ := DataW.trod_struct ht hx
  rw [hc] at hlen
  obtain ⟨a, a2, a3, ga⟩ := h H enc w base spare held n cs (by omega) (fun f hf' => by
   obtain ⟨k, hk⟩ := List.mem_iff_getElem?.1 hf'
   have hk' : fs[k]? = some f := by rw [← Array.getElem?_toList]; exact hk
   have h1 := hf k f hk'
   have hlt := (Array.getElem?_eq_some_iff.1 hk').1
   rw [List.getElem?_eq_getElem (by omega)] at h1
   exact ⟨_, h1⟩)
  exact ⟨a, hlen, a2, fun j u y hu hy => a3 j u y (by rw [Nat.zero_add]; exact hu) hy, ga⟩⟩
theorem open_VA {H : Type} {enc : TypeId × Value → H} {α : Type} {P : Program} {t : TypeId} {sz : Nat} {g : α → List PV} {G : α → Prop} {w : World} {base : Nat} {spare : Nat → Bool} {held : Bool} {cs : Array Value} {d : DataW H} {ps : List MemPlace} (h : DecV P t sz g G) (ht : DataW.Trod enc P w base spare held t (.agg cs) d ps) (ι : Nat → Nat × Nat × Nat) :
    ∃ a, RV (fun _ => True) ι w (.agg cs) (.agg ((g a).map .c)) ∧ G a := by
 obtain ⟨fuel, ht⟩ := ht
 obtain ⟨a, a1, a2, a3, ga⟩ := h.2 H enc w base spare held fuel _ _ ht
 have e : (Value.agg cs).cells.toList = cs.toList := rfl
 rw [e] at a1 a3
 refine ⟨a, ?_, ga⟩
 have hc : cs = cs.toList.toArray := by simp
 rw [hc]
 have key : ∀ (j : Nat) (u : Value) (y : PV), cs.toList[j]? = some u → (g a)[j]? = some y → RVp (fun _ => True) w u y := a3
 refine .agg cs.toList _ (by rw [List.length_map, a1, a2]) (fun u hu => ?_) fun j u x hu hx => ?_
 · obtain ⟨j, hj⟩ := List.mem_iff_getElem?.1 hu
   have hlt := (List.getElem?_eq_some_iff.1 hj).1
   exact (key j u _ hj (List.getElem?_eq_getElem (by omega))).one
 · rw [List.getElem?_map, Option.map_eq_some_iff] at hx
   obtain ⟨y, hy, rfl⟩ := hx
   exact .c _ _ (key j u y hu hy)
theorem okWide_struct {P : Program} {w : World} {r : Reach} {base : Nat} {t : TypeId} {fs : Array Field} {v : Value} (ht : P.underlying t = some (.struct fs)) (h : Value.okWide P w r base t v) : ∃ cs, v = .agg cs := by
 simp only [Value.okWide, ht] at h
 obtain ⟨cs, h1, _⟩ := h
 exact ⟨cs, h1⟩
end Go.Proofs.YtgdjkkapgghdbaaGreatDoor
namespace Go.Proofs.YtgdjkkapgghdbaaGreatDoor
open Go.RowKit
theorem word_of {a b c d : Int} (ha : 0 ≤ a ∧ a ≤ 18446744073709551615) (hb : 0 ≤ b ∧ b ≤ 18446744073709551615) (hc : 0 ≤ c ∧ c ≤ 18446744073709551615) (hd : 0 ≤ d ∧ d ≤ 18446744073709551615) : ∃ n : Nat, n < WW ∧ l0 n = a ∧ l1 n = b ∧ l2 n = c ∧ l3 n = d := by
 refine ⟨a.toNat + 18446744073709551616 * (b.toNat + 18446744073709551616 * (c.toNat + 18446744073709551616 * d.toNat)), ?_, ?_⟩
 · show _ < 115792089237316195423570985008687907853269984665640564039457584007913129639936
   omega
 · obtain ⟨h0, h1, h2, h3⟩ := limbs_of (s0 := a.toNat) (s1 := b.toNat) (s2 := c.toNat) (s3 := d.toNat) rfl (by omega) (by omega) (by omega) (by omega)
   rw [h0, h1, h2, h3]
   exact ⟨Int.toNat_of_nonneg ha.1, Int.toNat_of_nonneg hb.1, Int.toNat_of_nonneg hc.1, Int.toNat_of_nonneg hd.1⟩
def wpv (n : Nat) : List PV := [.v (.int .u64 (l0 n)), .v (.int .u64 (l1 n)), .v (.int .u64 (l2 n)), .v (.int .u64 (l3 n))]
theorem decV_word : DecV Tryz.prog 35 4 wpv (fun n => n < WW) :=
 (decV_w4 Tryz.underlying35 (by kernel_rfl) Tryz.underlying22 (by kernel_rfl)).map fun x hx => by
  obtain ⟨n, hn, h0, h1, h2, h3⟩ := word_of hx.1 hx.2.1 hx.2.2.1 hx.2.2.2
  exact ⟨n, by unfold wpv; rw [h0, h1, h2, h3], hn⟩
theorem decV_addr : DecV Tryz.prog 23 1 apv U := (decV_u64 Tryz.underlying23 (by kernel_rfl)).map fun a ga => ⟨a, rfl, ga⟩
theorem decV_addrs : DecV Tryz.prog 25 1 (fun l : List Int => [PV.sl false 1 l.length (l.flatMap apv)]) (fun l => l.length ≤ maxLen ∧ ∀ a ∈ l, U a) :=
 decV_slice Tryz.underlying25 (by kernel_rfl) decV_addr (by omega) apv_len
theorem decV_byte : DecV Tryz.prog 5 1 bpv (fun n => n < 256) := (decV_int Tryz.underlying5 (by kernel_rfl)).map fun a ga => ⟨a.toNat, by unfold bpv; rw [Int.toNat_of_nonneg (wf_u8 ga).1], by have := wf_u8 ga; omega⟩
theorem decV_bytes : DecV Tryz.prog 56 1 (fun l : List Nat => [PV.sl false 1 l.length (l.flatMap bpv)]) (fun l => l.length ≤ maxLen ∧ ∀ a ∈ l, a < 256) :=
 decV_slice Tryz.underlying56 (by kernel_rfl) decV_byte (by omega) bpv_len
end Go.Proofs.YtgdjkkapgghdbaaGreatDoor
namespace Go.Proofs.YtgdjkkapgghdbaaGreatDoor
open Go.RowKit
set_option maxRecDepth 20000
theorem laid_ints {P : Program} {w : World} {t e : TypeId} {N fuel : Nat} {k : IntKind} {cs : List Value} {L : List Int} {p : List MemPlace} (ht : P.underlying t = some (.array N e)) (he : P.underlying e = some (.int k)) (hc : P.cellsOf e = 1) (hN : L.length = N)
    (hd : DataW.trod (fun _ => ()) P w 0 (fun _ => true) false fuel t cs = some (.agg (L.map fun n => .lit (.int k n)), p)) : ∀ (j : Nat) (n : Int), L[j]? = some n → cs[j]? = some (Value.int k n) := by
 obtain ⟨xs, m, _, ex, _, hl, hel⟩ := DataW.trod_array ht hd
 intro j n hj
 have hjN : j < N := by rw [← hN]; exact (List.getElem?_eq_some_iff.1 hj).1
 have hE := hel j hjN
 rw [hc, Nat.mul_one, List.getElem?_eq_getElem (by omega)] at hE
 obtain ⟨z, e1, e2, _⟩ := DataW.trod_int he hE
 have e3 : xs.map (·.1) = L.map fun n => .lit (.int k n) := (DataW.agg.inj (Prod.mk.inj ex).1).symm
 have e4 : (xs.map (·.1))[j]? = (L.map fun n => (DataW.lit (.int k n) : DataW Unit))[j]? := by rw [e3]
 rw [List.getElem?_map, List.getElem?_map, List.getElem?_eq_getElem (by omega : j < xs.length), hj, e2] at e4
 have hz : z = n := by
  simp only [Option.map_some, Option.some.injEq, DataW.lit.injEq, Lit.int.injEq, true_and] at e4
  exact e4
 have h0 : ((cs.drop j).take 1)[0]? = some (.int k z) := by rw [e1]; rfl
 rw [← hz]
 simpa using h0
theorem globs_ok {W : World} (h : laidMetH Tryz.prog Rows.rulesStakesRow.laid W) : GlobOK W (fun _ => True) (fun _ => (0, 0, 0)) [] := by
 rw [MakeChecks.laidMetH_plain _ _ _ (by kernel_rfl)] at h
 obtain ⟨ps, ⟨g, t, cs, fuel, p, q, hg, ht, hv, hd, ⟨g', t', cs', fuel', p', q', hg', ht', hv', hd', _, _⟩, _⟩, _, _⟩ := h
 obtain rfl := Option.some.inj ((show Tryz.prog.globalNamed "sheafer/sponge.turns" = some 1 by kernel_rfl).symm.trans hg)
 obtain rfl := Option.some.inj ((show (Tryz.prog.globals[1]?).map (·.type) = some 226 by kernel_rfl).symm.trans ht)
 obtain rfl := Option.some.inj ((show Tryz.prog.globalNamed "sheafer/sponge.numbers" = some 0 by kernel_rfl).symm.trans hg')
 obtain rfl := Option.some.inj ((show (Tryz.prog.globals[0]?).map (·.type) = some 218 by kernel_rfl).symm.trans ht')
 have k1 := laid_ints (L := turnsL) Tryz.underlying226 Tryz.underlying3 (by kernel_rfl) rfl hd
 have k2 := laid_ints (L := numsL) Tryz.underlying218 Tryz.underlying22 (by kernel_rfl) rfl hd'
 intro g cs0 hgl
 unfold globV globs at hgl
 simp only [List.find?_cons, List.find?_nil] at hgl
 split at hgl
 · rename_i e
   have e : 0 = g := by simpa using e
   subst e
   cases hgl
   refine ⟨trivial, fun r hr => (by cases hr), by decide, by decide, fun j u hu => ?_⟩
   rw [World.var?_cell hg' hv' j]
   rw [List.getElem?_map] at hu
   cases hj : numsL[j]? with
   | none => rw [hj] at hu; cases hu
   | some n =>
    rw [hj] at hu
    cases hu
    have := k2 j n hj
    simpa using this
 · split at hgl
   · rename_i e
     have e : 1 = g := by simpa using e
     subst e
     cases hgl
     refine ⟨trivial, fun r hr => (by cases hr), by decide, by decide, fun j u hu => ?_⟩
     rw [World.var?_cell hg hv j]
     rw [List.getElem?_map] at hu
     cases hj : turnsL[j]? with
     | none => rw [hj] at hu; cases hu
     | some n =>
      rw [hj] at hu
      cases hu
      have := k1 j n hj
      simpa using this
   · cases hgl
theorem decV_bool {P : Program} {t : TypeId} (ht : P.underlying t = some .bool) (hc : P.cellsOf t = 1) : DecV P t 1 (fun b : Bool => [PV.v (.bool b)]) (fun _ => True) :=
 ⟨hc, fun H enc w base spare held fuel cs x hx => by
  obtain ⟨b, h, _⟩ := DataW.trod_bool ht hx
  subst h
  refine ⟨b, rfl, rfl, fun j u y hu hy => ?_, trivial⟩
  cases j with
  | zero => simp at hu hy; subst hu hy; exact .v _ rfl
  | succ j => simp at hu⟩
theorem decV_i64 : DecV Tryz.prog 3 1 (fun n : Int => [PV.v (.int .i64 n)]) (fun n => (Lit.int IntKind.i64 n).wf = true) := decV_int Tryz.underlying3 (by kernel_rfl)
theorem decV_ev : DecV Tryz.prog 58 14 Ev.pv Ev.raw :=
 (decV_struct (sz := 1 + (1 + (1 + (1 + (1 + (4 + (4 + 1))))))) Tryz.underlying58 (by kernel_rfl) (decF_cons decV_i64 rfl (decF_cons decV_i64 rfl (decF_cons decV_addr rfl (decF_cons decV_addr rfl (decF_cons decV_byte rfl (decF_cons decV_word rfl (decF_cons decV_word rfl (decF_one decV_bytes rfl))))))))).map fun x hx =>
  ⟨⟨x.1, x.2.1, x.2.2.1, x.2.2.2.1, x.2.2.2.2.1, x.2.2.2.2.2.1, x.2.2.2.2.2.2.1, x.2.2.2.2.2.2.2⟩, rfl, ⟨hx.2.2.2.2.2.1, hx.2.2.2.2.2.2.1, hx.2.2.2.2.2.2.2.1, hx.2.2.2.2.2.2.2.2, hx.2.2.1, hx.2.2.2.1⟩⟩
theorem decV_evs : DecV Tryz.prog 52 1 (fun l : List Ev => [PV.sl false 14 l.length (l.flatMap Ev.pv)]) (fun l => l.length ≤ maxLen ∧ ∀ e ∈ l, e.raw) :=
 decV_slice Tryz.underlying52 (by kernel_rfl) decV_ev (by omega) ev_len
theorem decV_ph : DecV Tryz.prog 54 4 Ph.pv Ph.raw :=
 (decV_struct (sz := 1 + (1 + (1 + 1))) Tryz.underlying54 (by kernel_rfl) (decF_cons decV_i64 rfl (decF_cons decV_addr rfl (decF_cons (decV_bool Tryz.underlying4 (by kernel_rfl)) rfl (decF_one decV_evs rfl))))).map fun x hx =>
  ⟨⟨x.1, x.2.1, x.2.2.1, x.2.2.2⟩, rfl, ⟨hx.2.1, hx.2.2.2.1, hx.2.2.2.2⟩⟩
theorem decV_phs : DecV Tryz.prog 24 1 (fun l : List Ph => [PV.sl false 4 l.length (l.flatMap Ph.pv)]) (fun l => l.length ≤ maxLen ∧ ∀ p ∈ l, p.raw) :=
 decV_slice Tryz.underlying24 (by kernel_rfl) decV_ph (by omega) ph_len
def Cs.pv (c : Cs) : List PV := [.v (.int .u64 c.snd), .sl false 4 c.ph.length (c.ph.flatMap Ph.pv), .sl false 1 c.cd.length (c.cd.flatMap apv)]
theorem decV_case : DecV Tryz.prog 27 3 Cs.pv Cs.raw :=
 (decV_struct (sz := 1 + (1 + 1)) Tryz.underlying27 (by kernel_rfl) (decF_cons decV_addr rfl (decF_cons decV_phs rfl (decF_one decV_addrs rfl)))).map fun x hx =>
  ⟨⟨x.1, x.2.1, x.2.2⟩, rfl, ⟨hx.1, hx.2.1, hx.2.2.1, hx.2.2.2⟩⟩
end Go.Proofs.YtgdjkkapgghdbaaGreatDoor
namespace Go.Proofs.YtgdjkkapgghdbaaGreatDoor
open Go.RowKit
theorem law_stakes {x : Cs} {v : Value} {n : Int} {W : World} (hL : laidMetH Tryz.prog Rows.rulesStakesRow.laid W) (h1 : RV (fun _ => True) (fun _ => (0, 0, 0)) W v (.agg (x.pv.map .c))) (g1 : x.raw) : Calls Tryz.prog 7 #[v, .int .i64 n] W (RetT W true) := by
 refine Fn.law (stakes_fn x g1 n) (vs := [_, _]) rfl (fun j v x hj hx => ?_) (globs_ok hL)
 rcases j with _ | _ | j
 · cases hj; cases hx; exact h1
 · cases hj; cases hx; exact .c _ _ (.v _ rfl)
 · simp at hj
end Go.Proofs.YtgdjkkapgghdbaaGreatDoor
namespace Go.Proofs.YtgdjkkapgghdbaaGreatDoor.rulesStakesDone
open Go.RowKit Go.ChangeShapes Go.WideShapes Go.ChangeAt
theorem own : ownKnob Tryz.prog.godebug = none := by kernel_rfl
theorem laidOut : laidOutB Tryz.prog = true := by kernel_rfl
theorem reads : ∀ t ∈ Tryz.f7.params.toList, Tryz.prog.readableRec t = true ∧ t < Tryz.prog.types.size := by
 rw [Tryz.params7]
 intro t ht
 simp only [List.mem_cons, List.not_mem_nil, or_false] at ht
 rcases ht with rfl | rfl
 · exact ⟨by kernel_rfl, of_decide_eq_true (by kernel_rfl)⟩
 · exact ⟨by kernel_rfl, of_decide_eq_true (by kernel_rfl)⟩
set_option maxRecDepth 100000 in
theorem lifted (os : Os) (started : os.Started) (H : Type) (enc : TypeId × Value → H) :
    ReturnsInHanded {} Tryz.checked os 7 .any (fun w args => (Rows.rulesStakesSpec.pre enc Tryz.prog Tryz.f7 Rows.rulesStakesRow.domain false w args ∧ laidMetH Tryz.prog Rows.rulesStakesRow.laid w) ∧ sizedMet enc Tryz.prog Tryz.f7 (OpenSpec.ofChange Rows.rulesStakesSpec) false w args)
     (Rows.rulesStakesSpec.post enc Tryz.prog Tryz.f7 false true false false) := by
 refine returnsInHanded_of_change_and (C := Tryz.checked) (X := fun w _ => laidMetH Tryz.prog Rows.rulesStakesRow.laid w) (fun _ _ _ hh h => h.of_heap hh) own started (by kernel_rfl) Tryz.func7
  (ChangeSpec.witness_shaped (enc := enc) (C := Tryz.checked) (os := os) (X := fun w _ => laidMetH Tryz.prog Rows.rulesStakesRow.laid w) false (World.laidAll Tryz.prog os Rows.rulesStakesRow.laid) #[.agg #[.int .u64 0, .slice none 0 0, .slice none 0 0], .int .i64 0] 8 (World.laidAll_os _ _ _)
   (World.shaped_of_ZipB (by kernel_rfl) (by kernel_rfl)) (by kernel_rfl) (by kernel_rfl) (by kernel_rfl)
   (by rw [MakeChecks.laidMetH_plain _ _ _ (by kernel_rfl)]; exact laidMet_laidAll _ (by kernel_rfl) (by kernel_rfl))) ?_
 intro W base args ds gs before hval0 hW hc _ hL _
 have hval : ∀ (j : Nat) t v, Tryz.f7.params[j]? = some t → args[j]? = some v → Value.okWide Tryz.prog W .any base t v := hval0
 refine law_post (P := Tryz.prog) laidOut rfl Tryz.underlying4 rfl reads (fun ds hds => by
  match ds, hds with
  | [d1, d2], _ => rfl) hW ?_
 obtain ⟨p, q, hA0, hV, rfl, hfz, hnd⟩ := hW
 have hA : DataW.TrodAll enc Tryz.prog W 0 (fun _ => true) true Tryz.f7.params.toList args.toList ds p := hA0
 rw [Tryz.params7] at hA hval
 obtain ⟨v0, vs0, d0, ds0, p0, q0, hargs, rfl, rfl, h0, r0⟩ := trodAll_cons hA
 obtain ⟨v1, vs1, d1, ds1, p1, q1, rfl, rfl, rfl, h1, r1⟩ := trodAll_cons r0
 obtain ⟨rfl, rfl, rfl⟩ := trodAll_nil r1
 obtain rfl : args = #[v0, v1] := by cases args; simp_all
 obtain ⟨cs0, rfl⟩ := okWide_struct Tryz.underlying27 (hval 0 27 v0 rfl rfl)
 obtain ⟨l0, hr0, hg0⟩ := open_VA decV_case h0 (fun _ => (0, 0, 0))
 obtain ⟨x1, rfl, rfl, rfl, wx1⟩ := open_int Tryz.underlying3 (hval 1 3 v1 rfl rfl) h1
 exact law_stakes hL hr0 hg0
theorem over : Rows.rulesStakesRow.holds Tryz.pinned (OpenSpec.ofChange Rows.rulesStakesSpec) :=
 OpenClaim.holds_of_wide 7 Tryz.f7 rfl rfl rfl rfl rfl rfl rfl ⟨rfl, rfl, rfl, rfl, rfl⟩ rfl rfl rfl rfl rfl (by kernel_rfl) Tryz.func7 (by kernel_rfl)
  (of_decide_eq_true (by kernel_rfl)) (by unfold Func.isWrapper; first | (rw [if_neg (by decide +kernel)]; exact ⟨rfl, rfl⟩))
  (fun os started H enc _ => lifted os started H enc)
theorem proved : Rows.RulesStakesCardSaid :=
 Claim7.holds_tied_plain_at .later [] [.data, .data] true (true, "a150a5b31adb93ccbb9ef4361850544d6216e7c5fd079ae8296263779298e5e9") false over (fun _ h => by cases h) (by kernel_rfl) (fun _ h => by cases h) rulesStakes_row_tie rfl ⟨rfl, rfl⟩ (by kernel_rfl) rfl
  (fun f fn hf hfn => by
   obtain rfl : f = 7 := Option.some.inj ((show Tryz.prog.funcNamed "sheafer/sheaferlaw22.RulesStakes" = some 7 by kernel_rfl).symm.trans hf) |>.symm
   obtain rfl : fn = Tryz.f7 := (Option.some.inj (Tryz.func7.symm.trans hfn)).symm
   exact ⟨by kernel_rfl, fun j t ht => by
    rw [Tryz.params7] at ht
    have hm : t ∈ [27, 3] := by simpa using Array.mem_of_getElem? ht
    have hall : ([27, 3].all fun u => !Tryz.prog.wantsStandIn u) = true := by kernel_rfl
    exact (show Tryz.prog.wantsStandIn t = false by simpa using List.all_eq_true.1 hall t hm)⟩)
  (by kernel_rfl)
end Go.Proofs.YtgdjkkapgghdbaaGreatDoor.rulesStakesDone
