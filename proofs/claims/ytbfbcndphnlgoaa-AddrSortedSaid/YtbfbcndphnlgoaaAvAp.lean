/-
  What is appended behind a slice that has no room, told by value at once. No program in sight.
-/
import Derived.Test.YtbfbcndphnlgoaaAvE
namespace Go.Proofs.Ytbfbcndphnlgoaa
open Go.RowKit Go.Lib
set_option linter.unusedSimpArgs false
set_option linter.unusedVariables false
mutual
theorem frz_free {d : Nat} {pcs : List PV} : ∀ {x : AV}, AV.refs d x = false → AV.frz d pcs x = x
  | .any, _ => rfl
  | .c _, _ => rfl
  | .agg cs, h => by unfold AV.frz; rw [frzL_free (by unfold AV.refs at h; exact h)]
  | .tup cs, h => by unfold AV.frz; rw [frzL_free (by unfold AV.refs at h; exact h)]
  | .ptr r o, h => by unfold AV.refs at h; unfold AV.frz; rw [if_neg (by simpa using h)]
  | .row r e sz n, h => by unfold AV.refs at h; unfold AV.frz; rw [if_neg (by simpa using h)]
  | .cut r e sz lo n c ex, h => by unfold AV.refs at h; unfold AV.frz; rw [if_neg (by simpa using h)]
  | .ep cs, _ => rfl
  | .fn f cs, h => by unfold AV.frz; rw [frzL_free (by unfold AV.refs at h; exact h)]
theorem frzL_free {d : Nat} {pcs : List PV} : ∀ {l : List AV}, AV.refsL d l = false → AV.frzL d pcs l = l
  | [], _ => rfl
  | x :: l, h => by
    unfold AV.refsL at h
    rw [Bool.or_eq_false_iff] at h
    unfold AV.frzL
    rw [frz_free h.1, frzL_free h.2]
end
theorem frzH_free {d : Nat} {pcs : List PV} : ∀ {H : List (Nat × List AV)}, freeH d H = true → frzH d pcs H = H
  | [], _ => rfl
  | (k, cs) :: H, h => by
    unfold freeH at h
    simp only [Bool.and_eq_true, bne_iff_ne, ne_eq, Bool.not_eq_true'] at h
    unfold frzH
    rw [if_neg h.1.1, frzL_free h.1.2, frzH_free h.2]
theorem frzH_put {d : Nat} {pcs : List PV} {cs : List AV} : ∀ {H : List (Nat × List AV)}, freeH d H = true → frzH d pcs (hput H d cs) = H
  | [], _ => by simp [hput, frzH]
  | (k, ds) :: H, h => by
    unfold freeH at h
    simp only [Bool.and_eq_true, bne_iff_ne, ne_eq, Bool.not_eq_true'] at h
    unfold hput
    rw [if_neg h.1.1]
    unfold frzH
    rw [if_neg h.1.1, frzL_free h.1.2, frzH_put h.2]
theorem frzL_set {d : Nat} {pcs : List PV} {x : AV} : ∀ {l : List AV} (i : Nat), AV.refsL d l = false → AV.frzL d pcs (l.set i x) = l.set i (AV.frz d pcs x)
  | [], i, _ => rfl
  | y :: l, 0, h => by
    unfold AV.refsL at h
    rw [Bool.or_eq_false_iff] at h
    rw [List.set_cons_zero, List.set_cons_zero]
    unfold AV.frzL
    rw [frzL_free h.2]
  | y :: l, i + 1, h => by
    unfold AV.refsL at h
    rw [Bool.or_eq_false_iff] at h
    rw [List.set_cons_succ, List.set_cons_succ]
    conv => lhs; unfold AV.frzL
    rw [frz_free h.1, frzL_set i h.2]
section
variable {P : Program} {o : Oper} {σ : St} {K : St → Prop}
theorem opA_append_flat {d : Nat} {s x : Operand} {t e sz by_ n m : Nat} {ex : Bool} {ps qs : List PV} (ho : o.op = .call { callee := .builtin .append, args := #[s, x], argTypes := #[t, t] }) (hs0 : okConst s = true) (hx0 : okConst x = true) (hz : slcZ P t = some (e, sz, by_)) (h0 : 0 < sz) (hb0 : 0 < by_)
    (h1 : σ.ev s = .c (.sl true sz n ps)) (h2 : σ.ev x = .c (.sl ex sz m qs)) (hql : qs.length = m * sz) (hpl : ps.length = n * sz) (hby : (n + m) * by_ ≤ 140737488355328) (hd : o.dst = some d) (hf : σ.free d = true) (hd2 : d < 1000)
    (hK : K (σ.put o.dst (.c (.sl false sz (n + m) (ps ++ qs))))) : OpA P o σ K := by
  rcases Nat.eq_zero_or_pos m with rfl | hm
  · obtain rfl : qs = [] := List.eq_nil_of_length_eq_zero (by simpa using hql)
    rw [List.append_nil, Nat.add_zero] at hK
    refine opA_val _ hK fun E ι a w h => ?_
    obtain ⟨hu, i, z, hi, hiz, hsize, hbytes, hzs, hz1⟩ := slcZ_spec hz
    have hsv := h.ev s hs0
    have hxv := h.ev x hx0
    rw [h1] at hsv
    rw [h2] at hxv
    generalize he : a.eval s = v at hsv
    generalize hex : a.eval x = y at hxv
    cases hsv with
    | c _ _ hp =>
      cases hp with
      | sl _ _ A0 _ c0 us _ g1 g2 g3 gx gl gn g4 g5 =>
        cases hxv with
        | c _ _ hq =>
          cases hq with
          | sl _ _ B _ c1 ws _ k1 k2 k3 kx kl kn k4 k5 =>
            have hsrc : Src P i.size t (.slice B 0 c1) 0 [] w := by
              cases B with
              | none =>
                obtain rfl := k3 rfl
                exact Src.ofNil w hu 0
              | some a0 => exact Src.ofSlice w hu a0 0 c1 [] (by simp) (fun j u hu => by cases hu) (fun u hu => by cases hu)
            refine ⟨_, ?_, .c _ _ (.sl false sz A0 n c0 us ps g1 g2 g3 (fun e => by cases e) gl gn g4 g5)⟩
            have hrun := run_append_nothing w t t o.type e i hu hi A0 n c0 g1 _ hsrc
            unfold execOp
            simp only [ho, resolve, invoke, builtin, Sem.run_bind, Sem.run_pure, Result.andThen_ok, List.map_toArray, List.map_cons, List.map_nil, he, hex, hrun]
  · intro E ι a w h K' Q hK'
    have hsrc : σ.src (σ.ev x) = some (m, qs.map .c) := by rw [h2]; simp [St.src]
    have hfr := hf
    unfold St.free at hfr
    simp only [Bool.and_eq_true, Bool.not_eq_true'] at hfr
    refine opA_append_tight (K := fun ρ => ρ = (St.mk σ.T (hput σ.H d (ps.map .c ++ qs.map .c))).put o.dst (.row d e sz (n + m))) ho hs0 hx0 hz h0 hb0 h1 hsrc hm (by rw [List.length_map]; exact hql) hby hd hf hd2 (by simp) rfl E ι a w h K' Q fun ι' σ' a' w' hσ hc => ?_
    subst hσ
    rw [← List.map_append] at hc
    have hc2 := hc.frz (r := d) (pcs := ps ++ qs) (by rw [hd]; show hget (hput σ.H d _) d = _; rw [hget_put, if_pos rfl])
    refine hK' ι' _ a' w' hK ?_
    have e1 : St.frz ((St.mk σ.T (hput σ.H d ((ps ++ qs).map .c))).put o.dst (.row d e sz (n + m))) d (ps ++ qs) = σ.put o.dst (.c (.sl false sz (n + m) (ps ++ qs))) := by
      rw [hd]
      show St.mk (AV.frzL d (ps ++ qs) (σ.T.set d (.row d e sz (n + m)))) (frzH d (ps ++ qs) (hput σ.H d _)) = St.mk (σ.T.set d _) σ.H
      rw [frzL_set d hfr.1, frzH_put hfr.2]
      congr 2
      unfold AV.frz
      rw [if_pos rfl, if_pos (by rw [List.length_append, hpl, hql, Nat.add_mul])]
    rw [← e1]
    exact hc2
theorem opN_append_flat {d : Nat} {s x : Operand} {t e sz by_ n m : Nat} {ex : Bool} {ps qs : List PV} (ho : o.op = .call { callee := .builtin .append, args := #[s, x], argTypes := #[t, t] }) (hs0 : okConst s = true) (hx0 : okConst x = true) (hz : slcZ P t = some (e, sz, by_)) (h0 : 0 < sz) (hb0 : 0 < by_)
    (h1 : σ.ev s = .c (.sl true sz n ps)) (h2 : σ.ev x = .c (.sl ex sz m qs)) (hql : qs.length = m * sz) (hpl : ps.length = n * sz) (hby : (n + m) * by_ ≤ 140737488355328) (hd : o.dst = some d) (hd2 : d < 1000) :
    OpN P o σ.ev (hget σ.H) ⟨.c (.sl false sz (n + m) (ps ++ qs)), [], [], [d]⟩ := fun τ hA _ hN => by
  have hA' : ∀ z, z = s ∨ z = x → τ.ev z = σ.ev z := fun z hz => hA z (by rw [ho]; rcases hz with rfl | rfl <;> simp [Op.operands, Call.operands])
  refine opA_append_flat ho hs0 hx0 hz h0 hb0 (by rw [hA' s (.inl rfl)]; exact h1) (by rw [hA' x (.inr rfl)]; exact h2) hql hpl hby hd (hN d (by simp)) hd2 ?_
  cases o.dst <;> rfl
theorem evD_append_flat {l0 rest : List Oper} {acc : List Ef} {d : Nat} {s x : Operand} {t e sz by_ n m : Nat} {ex : Bool} {ps qs : List PV} (hg : o.guard = none) (ho : o.op = .call { callee := .builtin .append, args := #[s, x], argTypes := #[t, t] }) (hs0 : okConst s = true) (hx0 : okConst x = true) (hz : slcZ P t = some (e, sz, by_)) (h0 : 0 < sz) (hb0 : 0 < by_)
    (h1 : σ.ev s = .c (.sl true sz n ps)) (h2 : σ.ev x = .c (.sl ex sz m qs)) (hql : qs.length = m * sz) (hpl : ps.length = n * sz) (hby : (n + m) * by_ ≤ 140737488355328) (hd : o.dst = some d) (hd2 : d < 1000)
    (h : evD P l0 rest (σ.eff o.dst (.c (.sl false sz (n + m) (ps ++ qs))) []) (⟨.c (.sl false sz (n + m) (ps ++ qs)), [], [], [d]⟩ :: acc) K) : evD P l0 (o :: rest) σ acc K :=
  ⟨_, .inl ⟨hg, opN_append_flat ho hs0 hx0 hz h0 hb0 h1 h2 hql hpl hby hd hd2⟩, h⟩
end
end Go.Proofs.Ytbfbcndphnlgoaa
