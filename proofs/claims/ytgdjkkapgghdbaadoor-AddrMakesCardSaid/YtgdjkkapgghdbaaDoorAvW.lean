/-
  Rows appended to in place and anew, made; functions that hand back rows they were handed. No program in sight.
-/
import Derived.Test.YtgdjkkapgghdbaaDoorAvX
import Derived.Test.YtgdjkkapgghdbaaDoorAvQ
import Derived.Scope
namespace Go.Proofs.YtgdjkkapgghdbaaDoor
open Go.RowKit Go.Lib
set_option linter.unusedSimpArgs false
set_option linter.unusedVariables false

section
variable {P : Program} {o : Oper} {σ : St} {K : St → Prop}
theorem opA_append_zeros {d t tn r e e0 sz by_ lo n c : Nat} {ex : Bool} {k : IntKind} {q : Nat} {x y : Operand} {cs : List AV} (ho : o.op = .call { callee := .builtin .append, args := #[x, y], argTypes := #[t, tn] }) (hx : okConst x = true) (hy : okConst y = true) (hs : slcZ P t = some (e0, sz, by_)) (htn : (intT P tn).isSome = true) (h0 : 0 < sz) (hb0 : 0 < by_)
    (h1 : σ.ev x = .cut r e sz lo n c ex) (hr : hget σ.H r = some cs) (h2 : σ.ev y = .c (.v (.int k q))) (hq : 0 < q) (hroom : c < n + q) (hfit : (lo + n) * sz ≤ cs.length) (hby : (n + q) * by_ ≤ 140737488355328)
    (hd : o.dst = some d) (hf : σ.free d = true) (hd2 : d < 1000) (hrc : AV.refsL d ((cs.drop (lo * sz)).take (n * sz)) = false)
    (hK : ∀ c', n + q ≤ c' → K ((St.mk σ.T (hput σ.H d ((cs.drop (lo * sz)).take (n * sz) ++ List.replicate (q * sz) .any))).put o.dst (.cut d e0 sz 0 (n + q) c' true))) : OpA P o σ K := by
  intro E ι a w hc K' Q hK'
  have hxv := hc.ev x hx
  have hyv := hc.ev y hy
  rw [h2] at hyv
  obtain ⟨hyv, _⟩ := hyv.v_inv
  have e1 : (lo + n) * sz = lo * sz + n * sz := Nat.add_mul _ _ _
  obtain ⟨A, c1, us, hxs, hslx, husx⟩ := hc.src2 (n := n) (ds := (cs.drop (lo * sz)).take (n * sz)) hxv (by rw [h1]; simp [St.src2, hr]) (by rw [h1]; simp [szOf]) (by simp; omega) h0
  rw [h1] at hxv
  obtain rfl : c1 = c := by
    rw [hxs] at hxv
    cases hxv with
    | cut => rfl
    | cnil => rfl
  obtain ⟨hu, i, zv, hi, hiz, hsize, hbytes, hzs, hz1'⟩ := slcZ_spec hs
  obtain ⟨kn, hun⟩ : ∃ kn, P.underlying tn = some (.int kn) := by
    unfold intT at htn
    split at htn
    · rename_i hh; exact ⟨_, hh⟩
    · cases htn
  obtain ⟨c2, w', zs, hrun, hown', hzl, hzo, hbl, hsz', hall⟩ := run_appz (P := P) (w := w) t tn o.type e0 i zv sz by_ k kn hu hun hi hiz hsize hbytes hzs h0 hb0 w.heap.size A n c1 us hslx q hq hroom hby
  have hzone : ∀ u ∈ zs, u.oneCell' = true := hzo hz1'
  have hg : w.grownBy w' none := ⟨hbl.os, hbl.tape, hbl.output, by omega, fun k hk _ => hbl.block k hk⟩
  have hzr : RVs (Sx E ι σ.H) ι w zs (List.replicate (q * sz) .any) := ⟨by simp [hzl], fun j u x hu hx => by
    rw [List.getElem?_replicate] at hx
    split at hx
    · cases hx; exact ⟨.any _, hzone u (List.mem_of_getElem? hu)⟩
    · cases hx⟩
  obtain ⟨p, hconc, hrv⟩ := hc.appended hf hd2 none (cs := (cs.drop (lo * sz)).take (n * sz) ++ List.replicate (q * sz) .any) h0 (hown'.mono (Nat.zero_le _)) hg (fun g hg' => by
    simp only [Value.ownBlock, Option.some.injEq] at hg'
    exact .inr (by omega)) (fun b hb => by cases hb) (by
      have : AV.refsL d (List.replicate (q * sz) AV.any) = false := by
        generalize q * sz = k
        induction k with
        | zero => rfl
        | succ k ih => simp [List.replicate_succ, AV.refsL, AV.refs, ih]
      simp [hrc, this]) (husx.app hzr) (fun g hg' cur' t' f' hh' u hu => by
        simp only [Value.ownBlock, Option.some.injEq] at hg'
        subst hg'
        exact hall husx.ones hz1' cur' t' f' hh' u hu)
  unfold Oper.wp execOp
  simp only [ho, resolve, invoke, builtin, Sem.run_bind, Sem.run_pure, Result.andThen_ok, List.map_toArray, List.map_cons, List.map_nil, hxs, hyv, hrun]
  obtain ⟨c', hc1, _, hcv⟩ := (hrv _ _).row_cut
  exact hK' _ _ _ _ (hK c' hc1) (hconc.put o.dst hcv)
theorem OpA.nilrow_after (i d e sz : Nat) (h : OpA P o σ fun σ1 => σ1.T.getD i .any = .c (.v (.slice none 0 0)) ∧ i < σ1.T.length ∧ σ1.free d = true ∧ d < 1000 ∧ K ⟨σ1.T.set i (.row d e sz 0), hput σ1.H d []⟩) : OpA P o σ K :=
  fun E ι a w hc K' Q hK' => h E ι a w hc K' Q fun ι' σ' a' w' ⟨h1, h0, hf, hd, h2⟩ hc' => by
    have hv := hc'.tmp i
    rw [h1] at hv
    obtain ⟨hv, _⟩ := hv.v_inv
    have hg := hc'.grow (w' := w') hf hd (World.grownBy.refl w' none) none (fun b hb => by cases hb) (0, 0, e) (cs := []) (fun h => absurd rfl h) rfl (.inl ⟨rfl, rfl⟩)
    refine hK' _ _ a' w' h2 ⟨hg.defers, by simpa using hg.size, fun j => ?_, hg.heap, hg.keep⟩
    by_cases hj : j = i
    · subst hj
      have : (σ'.T.set j (.row d e sz 0)).getD j .any = .row d e sz 0 := by simp [List.getD, List.getElem?_set, h0]
      show RV _ _ w' _ ((σ'.T.set j (.row d e sz 0)).getD j .any)
      rw [this, hv]; exact .rnil none d e sz (by rw [upd_same])
    · have : (σ'.T.set i (.row d e sz 0)).getD j .any = σ'.T.getD j .any := by simp [List.getD, List.getElem?_set, Ne.symm hj]
      show RV _ _ w' _ ((σ'.T.set i (.row d e sz 0)).getD j .any)
      rw [this]; exact hg.tmp j
theorem bnd_agree {ev ev' : Operand → AV} {dflt : Nat} {op : Option Operand} (h : ∀ x ∈ op.toList, ev' x = ev x) : bnd ev' dflt op = bnd ev dflt op := by
  cases op with
  | none => rfl
  | some x => unfold bnd; simp only; rw [h x (by simp)]
theorem opF_slice_cut {t e sz r lo0 n c : Nat} {ex : Bool} {x : Operand} {lo hi mx : Option Operand} {l h m : Int} (ho : o.op = .slice t x lo hi mx) (hx : okConst x = true) (hlo : lo.toList.all okConst = true) (hhi : hi.toList.all okConst = true) (hmx : mx.toList.all okConst = true) (hs : (slcT P t).map (fun p => p.2.1) = some sz)
    (h1 : σ.ev x = .cut r e sz lo0 n c ex) (hl : bnd σ.ev 0 lo = some l) (hh : bnd σ.ev n hi = some h) (hm : bnd σ.ev c mx = some m) (hmi : mx.isSome = true → hi.isSome = true) (hb : 0 ≤ l ∧ l ≤ h ∧ h ≤ m ∧ m ≤ c) :
    OpF P o σ.ev (hget σ.H) (.cut r e sz (lo0 + l.toNat) (h.toNat - l.toNat) (m.toNat - l.toNat) (ex && !mx.isSome)) [] [] :=
  fun τ hA hQ => by
    have hA' : ∀ z, z = x ∨ z ∈ lo.toList ∨ z ∈ hi.toList ∨ z ∈ mx.toList → τ.ev z = σ.ev z := fun z hz => hA z (by
      rw [ho]
      cases lo <;> cases hi <;> cases mx <;> simp [Op.operands] at hz ⊢ <;> exact hz)
    refine opA_slice_cut ho hx hlo hhi hmx hs (by rw [hA' x (.inl rfl)]; exact h1) (by rw [bnd_agree fun z hz => hA' z (.inr (.inl hz))]; exact hl) (by rw [bnd_agree fun z hz => hA' z (.inr (.inr (.inl hz)))]; exact hh) (by rw [bnd_agree fun z hz => hA' z (.inr (.inr (.inr hz)))]; exact hm) hmi hb ?_
    cases o.dst <;> rfl
end

@[simp] theorem refsL_any (d k : Nat) : AV.refsL d (List.replicate k AV.any) = false := by
  induction k with
  | zero => rfl
  | succ k ih => simp [List.replicate_succ, AV.refsL, AV.refs, ih]
theorem refsL_sub {d : Nat} {l m : List AV} (h : AV.refsL d l = false) (hs : ∀ x ∈ m, x ∈ l) : AV.refsL d m = false := by
  induction m with
  | nil => rfl
  | cons x m ih =>
    unfold AV.refsL
    rw [ih fun y hy => hs y (by simp [hy]), Bool.or_false]
    obtain ⟨j, hj⟩ := List.mem_iff_getElem?.1 (hs x (by simp))
    exact refsL_get h j x hj
@[simp] theorem refsL_take {d k : Nat} {l : List AV} (h : AV.refsL d l = false) : AV.refsL d (l.take k) = false := refsL_sub h fun x hx => List.mem_of_mem_take hx
@[simp] theorem refsL_drop {d k : Nat} {l : List AV} (h : AV.refsL d l = false) : AV.refsL d (l.drop k) = false := refsL_sub h fun x hx => List.mem_of_mem_drop hx
/-! functions that are handed rows -/
theorem Blk.more {S : Nat → Prop} {ι : Nat → Nat × Nat × Nat} {w : World} {r : Nat} {cs : List AV} (h : Blk S ι w r cs) (k : Nat) (hk : cs.length + k ≤ (ι r).2.1) : Blk S ι w r (cs ++ List.replicate k .any) := by
  rcases h with ⟨h0, rfl⟩ | ⟨cur, hh, hs, hl, hc, hone1⟩
  · obtain rfl : k = 0 := by omega
    exact .inl ⟨h0, rfl⟩
  · refine .inr ⟨cur, hh, hs, by simp; omega, fun j u x hu hx => ?_, hone1⟩
    rw [List.getElem?_append] at hx
    split at hx
    · exact hc j u x hu hx
    · rw [List.getElem?_replicate] at hx
      split at hx
      · cases hx; exact ⟨.any _, hone1 u (by simpa using List.mem_of_getElem? (l := cur.toList) (by simpa using hu))⟩
      · cases hx
theorem Fn.frz {P : Program} {f : FuncId} {args : List AV} {H0 : List (Nat × List AV)} {d e sz n : Nat} {pcs : List PV} (h : Fn P f args H0 (.row d e sz n) [(d, pcs.map .c)]) (hl : pcs.length = n * sz) : Fn P f args H0 (.c (.sl false sz n pcs)) [] := by
  intro E vs hD hS hH hlen hargs
  refine (h E vs hD hS hH hlen hargs).mono fun e w' => ?_
  rintro ⟨v, ι', rfl, hres, hcH, hk⟩
  have hg : hget [(d, pcs.map AV.c)] d = some (pcs.map AV.c) := by simp [hget_cons]
  have hS1 : ∀ b, Sx E ι' [(d, pcs.map .c)] b → b < w'.heap.size → Sx E ι' [] b := fun b hb _ => ⟨hb.1, fun r cs hr => by cases hr⟩
  have hM : (ι' d).2.1 ≠ 0 → Sx E ι' [] (ι' d).1 := fun hz => ⟨.inr (by
    by_cases hm : d ∈ E.D
    · have m1 := (hk.mine d _ hg).1 hm
      rw [m1] at hz ⊢; exact .inr ⟨d, hm, hz, rfl⟩
    · exact (hk.mine d _ hg).2 hm hz), fun r cs hr => by cases hr⟩
  have hres2 := hres.frz hS1 (hcH.blk d _ hg) hM
  simp only [AV.frz, if_true, if_pos hl.symm] at hres2
  exact ⟨v, ι', rfl, hres2, ⟨fun r cs hr => (by cases hr), fun r q cs ds hr => (by cases hr)⟩, ⟨hk.os, hk.tape, hk.output, hk.size, hk.block, fun r cs hr => (by cases hr)⟩⟩
theorem Blk.pre {S : Nat → Prop} {ι : Nat → Nat × Nat × Nat} {w : World} {r : Nat} {cs ds : List AV} (h : Blk S ι w r (cs ++ ds)) : Blk S ι w r cs := by
  rcases h with ⟨h0, he⟩ | ⟨cur, hh, hs, hl, hc, hone1⟩
  · exact .inl ⟨h0, (List.append_eq_nil_iff.1 he).1⟩
  · exact .inr ⟨cur, hh, hs, by simp at hl; omega, fun j u x hu hx => hc j u x hu (by rw [List.getElem?_append_left (List.getElem?_eq_some_iff.1 hx).1]; exact hx), hone1⟩
theorem Fn.weaken {P : Program} {f : FuncId} {args : List AV} {H0 H1 H2 : List (Nat × List AV)} {res res' : AV} (h : Fn P f args H0 res H1) (hle : res.le res') (hH : ∀ r cs, hget H2 r = some cs → ∃ ds, hget H1 r = some (cs ++ ds)) : Fn P f args H0 res' H2 := by
  intro E vs hD hS hH' hlen hargs
  refine (h E vs hD hS hH' hlen hargs).mono fun e w' => ?_
  rintro ⟨v, ι', rfl, hres, hcH, hk⟩
  have hSx : ∀ b, Sx E ι' H1 b → b < w'.heap.size → Sx E ι' H2 b ∧ w'.heap[b]? = w'.heap[b]? := fun b ⟨h1, h2⟩ _ => ⟨⟨h1, fun r cs hr => by obtain ⟨ds, h⟩ := hH r cs hr; exact h2 r _ h⟩, rfl⟩
  refine ⟨v, ι', rfl, hle _ _ _ _ (hres.mono hSx fun _ _ => rfl), ⟨fun r cs hr => ?_, fun r q cs ds hr hq => ?_⟩, ⟨hk.os, hk.tape, hk.output, hk.size, hk.block, fun r cs hr => ?_⟩⟩
  · obtain ⟨ds, hr1⟩ := hH r cs hr
    rcases (hcH.blk r _ hr1).pre with h0 | ⟨cur, hh, hs, hl, hc, hone1⟩
    · exact .inl h0
    · exact .inr ⟨cur, hh, hs, hl, fun j u x hu hx => ⟨(hc j u x hu hx).1.mono hSx fun _ _ => rfl, (hc j u x hu hx).2⟩, hone1⟩
  · obtain ⟨ds', hr1⟩ := hH r cs hr
    obtain ⟨es', hq1⟩ := hH q ds hq
    exact hcH.inj r q _ _ hr1 hq1
  · obtain ⟨ds, hr1⟩ := hH r cs hr
    exact hk.mine r _ hr1
theorem leHp {H1 : List (Nat × List AV)} {r : Nat} {cs ds : List AV} (h : hget H1 r = some (cs ++ ds)) : ∀ q es, hget [(r, cs)] q = some es → ∃ ds, hget H1 q = some (es ++ ds) := fun q es hq => by
  rw [hget_cons] at hq
  split at hq
  · rename_i e; subst e; cases hq; exact ⟨ds, h⟩
  · cases hq
@[simp] theorem renL_app (ρ : Nat → Nat) (l r : List AV) : AV.renL ρ (l ++ r) = AV.renL ρ l ++ AV.renL ρ r := by
  induction l with
  | nil => rfl
  | cons x l ih => simp [AV.renL, ih]
open Go.RowKit Go.Lib

def St.to (σ τ : St) : Prop := ∀ (E : Env) (ι : Nat → Nat × Nat × Nat) (a : Act) (w : World), Conc E ι σ a w → ∃ ι', Conc E ι' τ a w
theorem St.to.of_le {σ τ : St} (h : σ.le τ) : σ.to τ := fun E ι a w hc => ⟨ι, hc.le h⟩
theorem St.to.trans {σ τ ρ : St} (h : σ.to τ) (k : τ.to ρ) : σ.to ρ := fun E ι a w hc => by
  obtain ⟨ι', hc'⟩ := h E ι a w hc
  exact k E ι' a w hc'
theorem St.to.frz {σ : St} (r : Nat) {pcs : List PV} (hr : hget σ.H r = some (pcs.map .c)) : σ.to (σ.frz r pcs) := fun E ι a w hc => ⟨ι, hc.frz hr⟩
theorem St.to.nilrow {σ : St} (i d e sz : Nat) (h1 : σ.T.getD i .any = .c (.v (.slice none 0 0))) (h0 : i < σ.T.length) (hf : σ.free d = true) (hd : d < 1000) : σ.to ⟨σ.T.set i (.row d e sz 0), hput σ.H d []⟩ := fun E ι a w hc' => by
  have hv := hc'.tmp i
  rw [h1] at hv
  obtain ⟨hv, _⟩ := hv.v_inv
  have hg := hc'.grow (w' := w) hf hd (World.grownBy.refl w none) none (fun b hb => by cases hb) (0, 0, e) (cs := []) (fun h => absurd rfl h) rfl (.inl ⟨rfl, rfl⟩)
  refine ⟨_, hg.defers, by simpa using hg.size, fun j => ?_, hg.heap, hg.keep⟩
  by_cases hj : j = i
  · subst hj
    have : (σ.T.set j (.row d e sz 0)).getD j .any = .row d e sz 0 := by simp [List.getD, List.getElem?_set, h0]
    show RV _ _ w _ ((σ.T.set j (.row d e sz 0)).getD j .any)
    rw [this, hv]; exact .rnil none d e sz (by rw [upd_same])
  · have : (σ.T.set i (.row d e sz 0)).getD j .any = σ.T.getD j .any := by simp [List.getD, List.getElem?_set, Ne.symm hj]
    show RV _ _ w _ ((σ.T.set i (.row d e sz 0)).getD j .any)
    rw [this]; exact hg.tmp j
theorem inL_get {N : List Nat} {l : List AV} (h : AV.inNL N l = true) (i : Nat) : AV.inN N (l.getD i .any) = true := by
  rw [List.getD_eq_getElem?_getD]
  cases hi : l[i]? with
  | none => rfl
  | some x => exact inNL_get h i x hi
theorem hget_unren {ρ κ : Nat → Nat} {N : List Nat} (hk : ∀ r ∈ N, κ (ρ r) = r) : ∀ {H : List (Nat × List AV)} {q : Nat} {ds : List AV}, (∀ r ∈ H.map (·.1), r ∈ N) → hget (renH ρ H) q = some ds → ∃ r cs, r ∈ N ∧ q = ρ r ∧ κ q = r ∧ hget H r = some cs ∧ ds = AV.renL ρ cs
  | (k, cs) :: H, q, ds, hN, h => by
    unfold renH at h
    rw [hget_cons] at h
    split at h
    · rename_i e
      subst e; cases h
      have hm := hN k (by simp)
      exact ⟨k, cs, hm, rfl, hk k hm, by rw [hget_cons, if_pos rfl], rfl⟩
    · rename_i hne
      obtain ⟨r, cs', hm, rfl, h2, h3, h4⟩ := hget_unren hk (H := H) (fun r hr => hN r (by simp only [List.map_cons, List.mem_cons]; exact .inr hr)) h
      exact ⟨r, cs', hm, rfl, h2, by rw [hget_cons, if_neg (fun e => hne (by rw [e]))]; exact h3, h4⟩
theorem St.to.rn {σ : St} (ρ κ : Nat → Nat) (N : List Nat) (hT : AV.inNL N σ.T = true) (hHk : ∀ r ∈ σ.H.map (·.1), r ∈ N) (hH : inH N σ.H = true) (hk : ∀ r ∈ N, κ (ρ r) = r) (hD : ∀ r ∈ N, ρ r = r ∨ ρ r < 1000) : σ.to ⟨AV.renL ρ σ.T, renH ρ σ.H⟩ := fun E ι a w hc => by
  have hN : ∀ r ∈ N, (fun q => ι (κ q)) (ρ r) = ι r := fun r hr => by simp only; rw [hk r hr]
  have back : ∀ q ds, hget (renH ρ σ.H) q = some ds → ∃ r cs, r ∈ N ∧ q = ρ r ∧ κ q = r ∧ hget σ.H r = some cs ∧ ds = AV.renL ρ cs := fun q ds hq => hget_unren hk hHk hq
  have hS : ∀ b, Sx E ι σ.H b → b < w.heap.size → Sx E (fun q => ι (κ q)) (renH ρ σ.H) b ∧ w.heap[b]? = w.heap[b]? := fun b ⟨h1, h2⟩ _ => ⟨⟨h1, fun q ds hq hz => by
    obtain ⟨r, cs, _, _, hkq, hr, _⟩ := back q ds hq
    simp only [hkq] at hz ⊢
    exact h2 r cs hr hz⟩, rfl⟩
  have hR : ∀ {v : Value} {x : AV}, RV (Sx E ι σ.H) ι w v x → AV.inN N x = true → RV (Sx E (fun q => ι (κ q)) (renH ρ σ.H)) (fun q => ι (κ q)) w v (AV.ren ρ x) := fun hv hx => RV.reren (ι := fun q => ι (κ q)) (κ := ι) (ρ := ρ) hN (hv.mono hS fun _ _ => rfl) hx
  refine ⟨fun q => ι (κ q), hc.defers.mono hS, by rw [renL_length]; exact hc.size, fun i => ?_, ⟨fun q ds hq => ?_, fun q q' ds es hq hq' hne hz1 hz2 => ?_⟩, ⟨hc.keep.os, hc.keep.tape, hc.keep.output, hc.keep.size, hc.keep.block, fun q ds hq => ?_⟩⟩
  · have : (AV.renL ρ σ.T).getD i .any = AV.ren ρ (σ.T.getD i .any) := by
      rw [List.getD_eq_getElem?_getD, List.getD_eq_getElem?_getD, renL_get]
      cases σ.T[i]? <;> rfl
    show RV _ _ w _ ((AV.renL ρ σ.T).getD i .any)
    rw [this]
    exact hR (hc.tmp i) (inL_get hT i)
  · obtain ⟨r, cs, hm, rfl, hkq, hr, rfl⟩ := back q ds hq
    rcases hc.heap.blk r cs hr with ⟨h0, rfl⟩ | ⟨cur, hh, hs, hl, hcc, hone1⟩
    · exact .inl ⟨by simp only [hkq]; exact h0, rfl⟩
    · refine .inr ⟨cur, by simp only [hkq]; exact hh, by simp only [hkq]; exact hs, by rw [renL_length]; exact hl, fun j u y hu hy => ?_, hone1⟩
      rw [renL_get, Option.map_eq_some_iff] at hy
      obtain ⟨x, hx, rfl⟩ := hy
      exact ⟨hR (hcc j u x hu hx).1 (inNL_get (inH_get hH r cs hr) j x hx), (hcc j u x hu hx).2⟩
  · obtain ⟨r, cs, _, rfl, hkq, hr, _⟩ := back q ds hq
    obtain ⟨r', cs', _, rfl, hkq', hr', _⟩ := back q' es hq'
    simp only [hkq] at hz1 ⊢
    simp only [hkq'] at hz2 ⊢
    exact hc.heap.inj r r' cs cs' hr hr' (fun e => hne (by rw [e])) hz1 hz2
  · obtain ⟨r, cs, hm, rfl, hkq, hr, _⟩ := back q ds hq
    obtain ⟨m1, m2⟩ := hc.keep.mine r cs hr
    simp only [hkq]
    rcases hD r hm with e | e2
    · rw [e]; exact ⟨m1, m2⟩
    · refine ⟨fun h => by have := E.hD _ h; omega, fun _ hz => ?_⟩
      by_cases hr2 : r ∈ E.D
      · have m := m1 hr2
        rw [m] at hz ⊢; exact .inr ⟨r, hr2, hz, rfl⟩
      · exact m2 hr2 hz
theorem Fn.frzG {P : Program} {f : FuncId} {args : List AV} {H0 : List (Nat × List AV)} {res : AV} {d : Nat} {pcs : List PV} (h : Fn P f args H0 res [(d, pcs.map .c)]) : Fn P f args H0 (AV.frz d pcs res) [] := by
  intro E vs hD hS hH hlen hargs
  refine (h E vs hD hS hH hlen hargs).mono fun e w' => ?_
  rintro ⟨v, ι', rfl, hres, hcH, hk⟩
  have hg : hget [(d, pcs.map AV.c)] d = some (pcs.map AV.c) := by simp [hget_cons]
  have hS1 : ∀ b, Sx E ι' [(d, pcs.map .c)] b → b < w'.heap.size → Sx E ι' [] b := fun b hb _ => ⟨hb.1, fun r cs hr => by cases hr⟩
  have hM : (ι' d).2.1 ≠ 0 → Sx E ι' [] (ι' d).1 := fun hz => ⟨.inr (by
    by_cases hm : d ∈ E.D
    · have m1 := (hk.mine d _ hg).1 hm
      rw [m1] at hz ⊢; exact .inr ⟨d, hm, hz, rfl⟩
    · exact (hk.mine d _ hg).2 hm hz), fun r cs hr => by cases hr⟩
  exact ⟨v, ι', rfl, hres.frz hS1 (hcH.blk d _ hg) hM, ⟨fun r cs hr => (by cases hr), fun r q cs ds hr => (by cases hr)⟩, ⟨hk.os, hk.tape, hk.output, hk.size, hk.block, fun r cs hr => (by cases hr)⟩⟩
section
variable {P : Program}
theorem AW.to {c : Code} {σ τ : St} {Φ : Exit → St → Prop} (h : σ.to τ) (k : AW P c τ Φ) : AW P c σ Φ := fun E ι a w hc => by
  obtain ⟨ι', hc'⟩ := h E ι a w hc
  exact k E ι' a w hc'
theorem OpA.to {o : Oper} {σ τ : St} {K : St → Prop} (h : σ.to τ) (k : OpA P o τ K) : OpA P o σ K := fun E ι a w hc => by
  obtain ⟨ι', hc'⟩ := h E ι a w hc
  exact k E ι' a w hc'
theorem OpA.then {o : Oper} {σ : St} {K : St → Prop} (h : OpA P o σ fun σ1 => ∃ τ, σ1.to τ ∧ K τ) : OpA P o σ K :=
  fun E ι a w hc K' Q hK' => h E ι a w hc K' Q fun ι' σ' a' w' ⟨τ, ht, hk⟩ hc' => by
    obtain ⟨ι'', hc''⟩ := ht E ι' a' w' hc'
    exact hK' ι'' τ a' w' hk hc''
theorem evL_to {ops : Array Oper} {rest : List Oper} {o : Oper} {σ τ : St} {K : St → Prop} (hg : o.guard = none) (ht : σ.to τ) (h : evL P ops (o :: rest) τ K) : evL P ops (o :: rest) σ K := by
  unfold evL at h ⊢
  rw [hg] at h ⊢
  exact OpA.to ht h
theorem AW.loopT {c : Code} {σ : St} {Φ : Exit → St → Prop} {α : Type} (I : α → St) (μ : α → Nat) (x0 : α) (h0 : σ.to (I x0))
    (round : ∀ x, evC P c (I x) fun ex σ' => match ex with | .normal => ∃ y, μ y < μ x ∧ σ'.to (I y) | ex => Φ ex σ') : AW P (.loop c) σ Φ := by
  intro E ι a w hc b k cs
  have key : ∀ n x ι a w, μ x = n → Conc E ι (I x) a w → ∃ e a' w', (∃ ι' σ', Conc E ι' σ' a' w' ∧ Φ e σ') ∧ Arrives P (lone (b.at a (.code c :: .inLoop c :: k)) cs w) b k cs e a' w' := by
    intro n
    induction n using Nat.strongRecOn with
    | _ n ih =>
      intro x ι a w hn hI
      obtain ⟨e, a₁, w₁, ⟨ι₁, σ₁, hc₁, hq⟩, harr⟩ := evC_sound c (I x) _ (round x) E ι a w hI b (.inLoop c :: k) cs
      cases e with
      | normal =>
        obtain ⟨y, hlt, hle⟩ := hq
        obtain ⟨ι2, hc2⟩ := hle E ι₁ a₁ w₁ hc₁
        obtain ⟨e₂, a₂, w₂, hq₂, harr₂⟩ := ih (μ y) (hn ▸ hlt) y ι2 a₁ w₁ rfl hc2
        exact ⟨e₂, a₂, w₂, hq₂, .of_steps (Steps.trans harr (.one step_inLoop)) harr₂⟩
      | exit id => exact ⟨_, a₁, w₁, ⟨ι₁, σ₁, hc₁, hq⟩, .pass (x := .inLoop c) rfl (fun _ _ => .inl (by simp)) harr⟩
      | goto l => exact ⟨_, a₁, w₁, ⟨ι₁, σ₁, hc₁, hq⟩, .pass (x := .inLoop c) rfl (fun _ _ => .inl (by simp)) harr⟩
      | ret => exact ⟨_, a₁, w₁, ⟨ι₁, σ₁, hc₁, hq⟩, .pass (x := .inLoop c) rfl (fun _ _ => .inl (by simp)) harr⟩
      | panic ch => exact ⟨_, a₁, w₁, ⟨ι₁, σ₁, hc₁, hq⟩, .pass (x := .inLoop c) rfl (fun _ _ => .inl (by simp)) harr⟩
      | outgrown => exact ⟨_, a₁, w₁, ⟨ι₁, σ₁, hc₁, hq⟩, .pass (x := .inLoop c) rfl (fun _ _ => .inl (by simp)) harr⟩
  obtain ⟨ι0, hc0⟩ := h0 E ι a w hc
  obtain ⟨e, a', w', hq, harr⟩ := key _ x0 ι0 a w rfl hc0
  exact ⟨e, a', w', hq, .of_steps (.one step_loop) harr⟩
theorem evC_loopT {c : Code} {σ : St} {Φ : Exit → St → Prop} {α : Type} (I : α → St) (μ : α → Nat) (x0 : α) (h0 : σ.to (I x0))
    (round : ∀ x, ∀ Ψ : Exit → St → Prop, (∀ σ' y, μ y < μ x → σ'.to (I y) → Ψ .normal σ') → (∀ ex σ', ex ≠ .normal → Φ ex σ' → Ψ ex σ') → evC P c (I x) Ψ) : evC P (.loop c) σ Φ := by
  unfold evC
  refine AW.loopT I μ x0 h0 fun x => round x _ (fun σ' y hlt hle => ⟨y, hlt, hle⟩) fun ex σ' hne h => ?_
  cases ex <;> first | exact absurd rfl hne | exact h
theorem evC_uptoT {c : Code} {σ : St} {Φ : Exit → St → Prop} (n : Nat) (I : Nat → St) (h0 : σ.to (I 0))
    (round : ∀ i, i ≤ n → ∀ Ψ : Exit → St → Prop, (∀ σ', i + 1 ≤ n → σ'.to (I (i + 1)) → Ψ .normal σ') → (∀ ex σ', ex ≠ .normal → Φ ex σ' → Ψ ex σ') → evC P c (I i) Ψ) : evC P (.loop c) σ Φ :=
  evC_loopT (α := { i : Nat // i ≤ n }) (fun x => I x.1) (fun x => n - x.1) ⟨0, Nat.zero_le _⟩ h0 fun x Ψ h1 h2 =>
    round x.1 x.2 Ψ (fun σ' hlt hle => h1 σ' ⟨x.1 + 1, hlt⟩ (by have := x.2; simp only; omega) hle) h2
end
theorem Conc.alloc {E : Env} {ι : Nat → Nat × Nat × Nat} {σ : St} {a : Act} {w : World} (h : Conc E ι σ a w) (o : Obj) : Conc E ι σ a (w.alloc o) := by
  have hb : ∀ b, b < w.heap.size → (w.alloc o).heap[b]? = w.heap[b]? := fun b hb => Below.heap_alloc _ _ _ hb
  have hS : ∀ b, Sx E ι σ.H b → b < w.heap.size → Sx E ι σ.H b ∧ (w.alloc o).heap[b]? = w.heap[b]? := fun b h1 h2 => ⟨h1, hb b h2⟩
  have hR : ∀ {v : Value} {x : AV}, RV (Sx E ι σ.H) ι w v x → RV (Sx E ι σ.H) ι (w.alloc o) v x := fun hv => hv.mono hS fun _ _ => rfl
  have hsz : (w.alloc o).heap.size = w.heap.size + 1 := World.size_alloc ..
  refine ⟨h.defers.mono hS, h.size, fun i => hR (h.tmp i), ⟨fun r cs hr => ?_, h.heap.inj⟩, ⟨h.keep.os, h.keep.tape, h.keep.output, by have := h.keep.size; omega, fun b hb' hbD => ?_, h.keep.mine⟩⟩
  · rcases h.heap.blk r cs hr with h0 | ⟨cur, hh, hs, hlen, hc, hone1⟩
    · exact .inl h0
    · exact .inr ⟨cur, (hb _ (Array.getElem?_eq_some_iff.1 hh).1).trans hh, hs, hlen, fun j u x hu hx => ⟨hR (hc j u x hu hx).1, (hc j u x hu hx).2⟩, hone1⟩
  · have := h.keep.size
    rw [hb b (by omega)]; exact h.keep.block b hb' hbD
theorem Fn.to {P : Program} {f : FuncId} {args : List AV} {H0 H1 H2 : List (Nat × List AV)} {res res' : AV} (h : Fn P f args H0 res H1) (k : St.to ⟨[res], H1⟩ ⟨[res'], H2⟩) : Fn P f args H0 res' H2 := by
  intro E vs hD hS hH hlen hargs
  refine (h E vs hD hS hH hlen hargs).mono fun e w' => ?_
  rintro ⟨v, ι', rfl, hres, hcH, hk⟩
  have hc : Conc E ι' ⟨[res], H1⟩ { tmps := #[v], defers := [] } w' := by
    refine ⟨Marks.nil, rfl, fun i => ?_, hcH, hk⟩
    cases i with
    | zero => exact hres
    | succ i => exact .any _
  obtain ⟨ι'', hc'⟩ := k E ι' _ w' hc
  exact ⟨v, ι'', rfl, hc'.tmp 0, hc'.heap, hc'.keep⟩
def Ef.sim (e e' : Ef) : Prop := e.rd = e'.rd ∧ e.wn = e'.wn ∧ e.nw = e'.nw ∧ ∀ d, e.names d = e'.names d
theorem Ef.sim_refl (e : Ef) : e.sim e := ⟨rfl, rfl, rfl, fun _ => rfl⟩
theorem Ef.sim_row {v : AV} {rd nw : List Nat} {k : Nat} {X : List AV} (h : ∀ d, AV.refsL d X = false) : Ef.sim ⟨v, rd, [(k, X)], nw⟩ ⟨v, rd, [(k, [])], nw⟩ := ⟨rfl, rfl, rfl, fun d => by unfold Ef.names; simp [h, AV.refsL]⟩
inductive Sims : List Ef → List Ef → Prop
  | nil : Sims [] []
  | cons {e e' : Ef} {es es' : List Ef} : e.sim e' → Sims es es' → Sims (e :: es) (e' :: es')
theorem Sims.snoc {es es' : List Ef} {e e' : Ef} (h : Sims es es') (hs : e.sim e') : Sims (es ++ [e]) (es' ++ [e']) := by
  induction h with
  | nil => exact .cons hs .nil
  | cons h _ ih => exact .cons h ih
theorem Sims.rev {es es' : List Ef} (h : Sims es es') : Sims es.reverse es'.reverse := by
  induction h with
  | nil => exact .nil
  | cons h _ ih => rw [List.reverse_cons, List.reverse_cons]; exact ih.snoc h
theorem Sims.opt {es es' : List Ef} (h : Sims es es') : ∀ i : Nat, (es[i]? = none ∧ es'[i]? = none) ∨ ∃ e e' : Ef, es[i]? = some e ∧ es'[i]? = some e' ∧ Ef.sim e e' := by
  induction h with
  | nil => exact fun i => .inl ⟨by simp, by simp⟩
  | cons h _ ih =>
    intro i
    cases i with
    | zero => exact .inr ⟨_, _, rfl, rfl, h⟩
    | succ i => simpa using ih i
theorem drawOK_sim {l : List Oper} {es es' : List Ef} (h : Sims es es') (k : drawOK l es'.reverse = true) : drawOK l es.reverse = true := by
  have ho := h.rev.opt
  generalize es.reverse = a at ho ⊢
  generalize es'.reverse = b at ho k
  have e1 : freshOK l a = freshOK l b := by
    unfold freshOK
    congr 1
    funext i
    rcases ho i with ⟨h1, h2⟩ | ⟨e, e', h1, h2, hs⟩
    · rw [h1, h2]
    · rw [h1, h2]
      simp only
      rw [hs.2.2.1]
      congr 1
      funext d
      congr 2
      funext j
      congr 1
      rcases ho j with ⟨g1, g2⟩ | ⟨f, f', g1, g2, gs⟩
      · rw [g1, g2]
      · rw [g1, g2]
        simp only
        rw [gs.2.2.2]
  unfold drawOK at k ⊢
  rw [e1]
  rw [← k]
  congr 2
  funext i
  congr 1
  funext j
  congr 1
  rcases ho i with ⟨h1, h2⟩ | ⟨e, e', h1, h2, hs⟩
  · rw [h1, h2]
    cases l[i]? <;> cases l[j]? <;> rfl
  · rcases ho j with ⟨g1, g2⟩ | ⟨f, f', g1, g2, gs⟩
    · rw [h1, h2, g1, g2]
      cases l[i]? <;> cases l[j]? <;> rfl
    · rw [h1, h2, g1, g2]
      cases l[i]? <;> cases l[j]? <;> simp only
      unfold apartE
      rw [hs.1, hs.2.1, gs.1, gs.2.1]
theorem evC_label {P : Program} {σ : St} {Φ : Exit → St → Prop} {l : Nat} (h : Φ .normal σ) : evC P (.label l) σ Φ := by
  unfold evC
  exact fun E ι a w hc => wp_label ⟨ι, σ, hc, h⟩
theorem Fn.law {P : Program} {f : FuncId} {args : List AV} {b : Bool} (hF : Fn P f args [] (.c (.v (.bool b))) []) {vs : List Value} {w : World} (hlen : vs.length = args.length) (hargs : ∀ (j : Nat) (v : Value) (x : AV), vs[j]? = some v → args[j]? = some x → RV (fun _ => True) (fun _ => (0, 0, 0)) w v x) (hG : GlobOK w (fun _ => True) (fun _ => (0, 0, 0)) [] := by first | assumption | exact fun g cs h => by simp [globV, globs_nil] at h) :
    Calls P f vs.toArray w (RetT w b) := by
  refine (hF { w := w, S := fun _ => True, ι := fun _ => (0, 0, 0), D := [], hD := fun r hr => (by cases hr), hG := hG } vs rfl (fun r cs b hr => (by cases hr)) ⟨fun r cs hr => (by cases hr), fun r q cs ds hr => (by cases hr)⟩ hlen hargs).mono fun e w' => ?_
  rintro ⟨v, ι', rfl, hres, _, hk⟩
  obtain ⟨rfl, _⟩ := hres.v_inv
  exact ⟨rfl, hk.os, hk.tape, hk.output, hk.size, fun k hk' => hk.block k hk' fun r hr => by cases hr⟩
end Go.Proofs.YtgdjkkapgghdbaaDoor

