/-
  Slices over abstract states: append, length, cut; a block of which nothing is written any more. No program in sight.
-/
import Derived.Test.YtlkogofgemclfaaAvG
import Derived.ArgAppend
import Derived.Deep.Upon
namespace Go.Proofs.Ytlkogofgemclfaa
open Go.RowKit
set_option linter.unusedSimpArgs false
set_option linter.unusedVariables false

def slcZ (P : Program) (t : Nat) : Option (Nat × Nat × Nat) :=
  match P.underlying t with
  | some (.slice e) => match P.info? e with
    | some i => match i.zero with
      | some z => if z.cells.size = i.size then some (e, i.size, i.bytes) else none
      | none => none
    | none => none
  | _ => none
theorem slcZ_spec {P : Program} {t e sz by_ : Nat} (h : slcZ P t = some (e, sz, by_)) : P.underlying t = some (.slice e) ∧ ∃ i z, P.info? e = some i ∧ i.zero = some z ∧ i.size = sz ∧ i.bytes = by_ ∧ z.cells.size = sz := by
  unfold slcZ at h
  split at h
  · rename_i e' hu
    split at h
    · rename_i i hi
      split at h
      · rename_i z hz
        split at h
        · rename_i hs
          simp only [Option.some.injEq, Prod.mk.injEq] at h
          obtain ⟨rfl, rfl, rfl⟩ := h
          exact ⟨hu, i, z, hi, hz, rfl, rfl, hs⟩
        · cases h
      · cases h
    · cases h
  · cases h

/-- the elements of a slice: how many, and the cells -/
def St.src (σ : St) : AV → Option (Nat × List AV)
  | .row r _ _ n => (hget σ.H r).map fun cs => (n, cs)
  | .c (.sl _ _ n cs) => some (n, cs.map .c)
  | .c (.v (.slice none 0 0)) => some (0, [])
  | _ => none

section
variable {E : Env} {ι : Nat → Nat × Nat × Nat} {σ : St} {a : Act} {w : World}
theorem Conc.src (h : Conc E ι σ a w) {v : Value} {x : AV} {n sz : Nat} {ds : List AV} (hv : RV (Sx E ι σ.H) ι w v x) (hs : σ.src x = some (n, ds)) (hl : ds.length = n * sz) (h0 : 0 < sz) :
    ∃ A c us, v = .slice A n c ∧ Sl w w.heap.size sz A n c us ∧ RVs (Sx E ι σ.H) ι w us ds := by
  have nil : ds = [] → n = 0 → Sl w w.heap.size sz none 0 0 [] ∧ RVs (Sx E ι σ.H) ι w [] ds := fun e _ => ⟨Sl.nil, by subst e; exact ⟨rfl, fun j u x hu => by cases hu⟩⟩
  cases hv with
  | row r e sz' n' c h1 h2 h3 h4 h0' =>
    simp only [St.src, Option.map_eq_some_iff, Prod.mk.injEq] at hs
    obtain ⟨cs, hr, rfl, rfl⟩ := hs
    rcases h.heap.blk r cs hr with ⟨hz, rfl⟩ | ⟨cur, hh, hsz, hlc, hc⟩
    · have : n' = 0 := by
        rcases Nat.eq_zero_or_pos n' with h | h
        · exact h
        · have := Nat.mul_pos h h0; simp at hl; omega
      subst this
      exact ⟨_, c, [], rfl, ⟨h1, h2, (fun e => by cases e), by simp, fun h => absurd h (by omega)⟩, ⟨rfl, fun j u x hu => by cases hu⟩⟩
    · refine ⟨_, c, cur.toList.take cs.length, rfl, ⟨h1, h2, (fun e => by cases e), by simp; omega, fun hn => ⟨(ι r).1, 0, rfl, (Array.getElem?_eq_some_iff.1 hh).1, fun j u hu => ?_⟩⟩, ⟨by simp; omega, fun j u x hu hx => ?_⟩⟩
      · rw [List.getElem?_take] at hu
        split at hu
        · simp only [World.cell?, hh, Nat.zero_add]
          simpa using hu
        · cases hu
      · rw [List.getElem?_take] at hu
        split at hu
        · exact hc j u x (by simpa using hu) hx
        · cases hu
  | rnil A r e sz' hz =>
    simp only [St.src, Option.map_eq_some_iff, Prod.mk.injEq] at hs
    obtain ⟨cs, hr, rfl, rfl⟩ := hs
    have : cs = [] := List.eq_nil_of_length_eq_zero (by simpa using hl)
    exact ⟨A, 0, [], rfl, ⟨Nat.le_refl _, Nat.zero_le _, fun _ => rfl, by simp, fun h => absurd h (by omega)⟩, (nil this rfl).2⟩
  | c v p hp =>
    cases hp with
    | v x hone =>
      unfold St.src at hs
      split at hs
      · rename_i heq; cases heq
      · rename_i heq; cases heq
      · rename_i heq
        cases heq
        cases hs
        exact ⟨none, 0, [], rfl, (nil rfl rfl).1, (nil rfl rfl).2⟩
      · cases hs
    | sl ex sz' A n' c us cs h1 h2 h3 hx hl' hn h4 h5 =>
      simp only [St.src, Option.some.injEq, Prod.mk.injEq] at hs
      obtain ⟨rfl, rfl⟩ := hs
      refine ⟨A, c, us, rfl, ⟨h1, h2, h3, by simpa [hl'] using hl, fun hn0 => ?_⟩, ⟨by simpa using hl', fun j u x hu hx => ?_⟩⟩
      · have hne : us ≠ [] := by
          intro e; subst e
          have := Nat.mul_pos hn0 h0
          simp at hl' hl; omega
        obtain ⟨b, off, hA, hS, hc⟩ := h4 hne
        obtain ⟨u0, rest, hu0⟩ := List.exists_cons_of_ne_nil hne
        exact ⟨b, off, hA, block_lt_of_cell (hc 0 u0 (by rw [hu0]; rfl)), hc⟩
      · rw [List.getElem?_map, Option.map_eq_some_iff] at hx
        obtain ⟨z, hz, rfl⟩ := hx
        exact ⟨.c _ _ (h5 j u z hu hz), (h5 j u z hu hz).one⟩
  | _ => simp [St.src] at hs

def hdelO (H : List (Nat × List AV)) : Option Nat → List (Nat × List AV)
  | some r => hdel H r
  | none => H
/-- a row that grew, in place or anew, of a new name -/
theorem Conc.grow (h : Conc E ι σ a w) {d : Nat} (hf : σ.free d = true) (hd : d < 1000) {w' : World} {own : Option Nat} (hg : w.grownBy w' own) (rr : Option Nat)
    (hown : ∀ b, own = some b → ∃ r cs, rr = some r ∧ r < 1000 ∧ hget σ.H r = some cs ∧ (ι r).2.1 ≠ 0 ∧ (ι r).1 = b) (p : Nat × Nat × Nat) {cs : List AV} (hgb : p.2.1 ≠ 0 → own = some p.1 ∨ w.heap.size ≤ p.1)
    (hcs : AV.refsL d cs = false) (hB : (p.2.1 = 0 ∧ cs = []) ∨ ∃ cur, w'.heap[p.1]? = some (.cells cur p.2.2 (0, 0)) ∧ cur.size = p.2.1 ∧ cs.length ≤ cur.size ∧ ∀ (j : Nat) (u : Value) (x : AV), cur[j]? = some u → cs[j]? = some x → RV (Sx E ι σ.H) ι w u x ∧ u.oneCell' = true) :
    Conc E (upd ι d p) ⟨σ.T, hput (hdelO σ.H rr) d cs⟩ a w' := by
  obtain ⟨H1, hH1⟩ : ∃ H1, H1 = (hdelO σ.H rr) := ⟨_, rfl⟩
  rw [← hH1]
  have hsub : ∀ q es, hget H1 q = some es → hget σ.H q = some es ∧ rr ≠ some q := fun q es hq => by
    rw [hH1] at hq
    cases rr with
    | none => exact ⟨hq, by simp⟩
    | some r =>
      simp only [hdelO] at hq
      rw [hget_del] at hq
      split at hq
      · cases hq
      · rename_i hne; exact ⟨hq, fun e => hne (by injection e with e; exact e.symm)⟩
  unfold St.free at hf
  simp only [Bool.and_eq_true, Bool.not_eq_true'] at hf
  obtain ⟨hT, hH⟩ := hf
  have hS : ∀ b, Sx E ι σ.H b → b < w.heap.size → Sx E (upd ι d p) (hput H1 d cs) b ∧ w'.heap[b]? = w.heap[b]? := by
    intro b ⟨h1, h2⟩ hb
    have hbo : some b ≠ own := by
      intro e
      obtain ⟨r, ds, _, _, hr, hz, he⟩ := hown b e.symm
      exact h2 r ds hr hz he
    refine ⟨⟨h1, fun q es hq hz => ?_⟩, hg.block b hb hbo⟩
    rw [hget_put] at hq
    split at hq
    · rename_i e; subst e
      rw [upd_same] at hz ⊢
      rcases hgb hz with hgb | hgb
      · intro e; exact hbo (by rw [hgb, ← e])
      · omega
    · rename_i e; rw [upd_ne e] at hz ⊢; exact h2 q es (hsub q es hq).1 hz
  have hR : ∀ {v : Value} {x : AV}, RV (Sx E ι σ.H) ι w v x → AV.refs d x = false → RV (Sx E (upd ι d p) (hput H1 d cs)) (upd ι d p) w' v x := fun hv hx =>
    hv.mono hS fun r hr => upd_ne fun e => by rw [e, hx] at hr; cases hr
  have hkeepblk : ∀ q es, hget σ.H q = some es → rr ≠ some q → (ι q).2.1 ≠ 0 → w'.heap[(ι q).1]? = w.heap[(ι q).1]? := fun q es hq hne hz => by
    refine hg.block _ ((h.heap.blk q es hq).lt hz) fun e => ?_
    obtain ⟨r, ds, hrr, _, hr, hz', he⟩ := hown _ e.symm
    exact h.heap.inj q r es ds hq hr (fun e => hne (by rw [hrr, e])) hz hz' he.symm
  refine ⟨h.defers, h.size, fun i => ?_, ⟨fun r ds hr => ?_, fun r q ds es hr hq hne hz1 hz2 => ?_⟩, ⟨hg.os.trans h.keep.os, hg.tape.trans h.keep.tape, hg.output.trans h.keep.output, ?_, fun b hb hbD => ?_, fun r ds hr => ?_⟩⟩
  · refine hR (h.tmp i) ?_
    show AV.refs d (σ.T.getD i .any) = false
    rw [List.getD_eq_getElem?_getD]
    cases hi : σ.T[i]? with
    | none => rfl
    | some x => exact refsL_get hT i x hi
  · have hr' : hget (hput H1 d cs) r = some ds := hr
    rw [hget_put] at hr'
    split at hr'
    · rename_i e'; subst e'; cases hr'
      rcases hB with ⟨h0, he⟩ | ⟨cur, hh, hsz, hl, hv⟩
      · exact .inl ⟨by rw [upd_same]; exact h0, he⟩
      · refine .inr ⟨cur, by rw [upd_same]; exact hh, by rw [upd_same]; exact hsz, hl, fun j u x hu hx => ?_⟩
        obtain ⟨h1, h2⟩ := hv j u x hu hx
        exact ⟨hR h1 (refsL_get hcs j x hx), h2⟩
    · rename_i e'
      obtain ⟨hr2, hne⟩ := hsub r ds hr'
      rcases h.heap.blk r ds hr2 with ⟨h0, he⟩ | ⟨cur', hh', hs', hl', hc'⟩
      · exact .inl ⟨by rw [upd_ne e']; exact h0, he⟩
      · by_cases hz : (ι r).2.1 = 0
        · exact .inl ⟨by rw [upd_ne e']; exact hz, List.eq_nil_of_length_eq_zero (by omega)⟩
        · exact .inr ⟨cur', by rw [upd_ne e', hkeepblk r ds hr2 hne hz]; exact hh', by rw [upd_ne e']; exact hs', hl', fun j u x hu hx => ⟨hR (hc' j u x hu hx).1 (refsL_get (freeH_get hH r ds hr2).2 j x hx), (hc' j u x hu hx).2⟩⟩
  · have hr' : hget (hput H1 d cs) r = some ds := hr
    have hq' : hget (hput H1 d cs) q = some es := hq
    rw [hget_put] at hr' hq'
    have key : ∀ q es, hget H1 q = some es → p.2.1 ≠ 0 → (ι q).2.1 ≠ 0 → p.1 ≠ (ι q).1 := fun q es hq hp hz => by
      obtain ⟨hq2, hneq⟩ := hsub q es hq
      rcases hgb hp with hgb | hgb
      · obtain ⟨r, ds, hrr, _, hr, hz', he⟩ := hown _ hgb
        intro e
        exact h.heap.inj r q ds es hr hq2 (fun e => hneq (by rw [hrr, e])) hz' hz (he.trans e)
      · have := (h.heap.blk q es hq2).lt hz; omega
    split at hr' <;> split at hq'
    · omega
    · rename_i e1 e2
      subst e1
      rw [upd_same, upd_ne e2]
      rw [upd_ne e2] at hz2
      rw [upd_same] at hz1
      exact key q es hq' hz1 hz2
    · rename_i e1 e2
      subst e2
      rw [upd_same, upd_ne e1]
      rw [upd_ne e1] at hz1
      rw [upd_same] at hz2
      exact (key r ds hr' hz2 hz1).symm
    · rename_i e1 e2
      rw [upd_ne e1, upd_ne e2]
      rw [upd_ne e1] at hz1
      rw [upd_ne e2] at hz2
      exact h.heap.inj r q ds es (hsub r ds hr').1 (hsub q es hq').1 hne hz1 hz2
  · have := h.keep.size; have := hg.size; omega
  · have := h.keep.size
    rw [hg.block b (by omega) fun e => ?_]
    · exact h.keep.block b hb hbD
    · obtain ⟨r, ds, _, hr1000, hr, hz, he⟩ := hown b e.symm
      have := (h.keep.mine r ds hr).2 (fun hm => by have := E.hD r hm; omega) hz
      omega
  · have hr' : hget (hput H1 d cs) r = some ds := hr
    rw [hget_put] at hr'
    split at hr'
    · rename_i e'; subst e'
      refine ⟨fun hm => by have := E.hD r hm; omega, fun _ hz => ?_⟩
      rw [upd_same] at hz ⊢
      rcases hgb hz with hgb | hgb
      · obtain ⟨r', ds', _, hr1000, hr2, hz, he⟩ := hown _ hgb
        have := (h.keep.mine r' ds' hr2).2 (fun hm => by have := E.hD r' hm; omega) hz
        omega
      · have := h.keep.size; omega
    · rename_i e'
      rw [upd_ne e']; exact h.keep.mine r ds (hsub r ds hr').1
/-- behind an append -/
theorem Conc.appended (h : Conc E ι σ a w) {d : Nat} (hf : σ.free d = true) (hd : d < 1000) {w' : World} (rr : Option Nat) {e sz k : Nat} {A : Option Addr} {c : Nat} {us : List Value} {cs : List AV} {own : Option Nat} (hsz : 0 < sz)
    (how : Ow w' 0 e sz A k c us) (hg : w.grownBy w' own) (hblk : ∀ g, (Value.slice A k c).ownBlock = some g → own = some g ∨ w.heap.size ≤ g)
    (hown : ∀ b, own = some b → ∃ r cs, rr = some r ∧ r < 1000 ∧ hget σ.H r = some cs ∧ (ι r).2.1 ≠ 0 ∧ (ι r).1 = b) (hcs : AV.refsL d cs = false) (hv : RVs (Sx E ι σ.H) ι w us cs) :
    ∃ p, Conc E (upd ι d p) ⟨σ.T, hput (hdelO σ.H rr) d cs⟩ a w' ∧ ∀ S w2, RV S (upd ι d p) w2 (.slice A k c) (.row d e sz k) := by
  have hlen := how.len_
  rcases how.form with ⟨rfl, rfl, rfl, rfl⟩ | ⟨g, cur, rfl, _, hlt, hh, hnc, hcm, hcz, ht⟩
  · have : cs = [] := List.eq_nil_of_length_eq_zero (by rw [← hv.1]; rfl)
    exact ⟨(0, 0, e), h.grow hf hd hg rr hown (0, 0, e) (fun h => absurd rfl h) hcs (.inl ⟨rfl, this⟩), fun S w2 => .rnil none d e sz (by rw [upd_same])⟩
  · by_cases hc0 : c = 0
    · subst hc0
      obtain rfl : k = 0 := by omega
      have : cs = [] := List.eq_nil_of_length_eq_zero (by rw [← hv.1, hlen, Nat.zero_mul])
      exact ⟨(0, 0, e), h.grow hf hd hg rr hown (0, 0, e) (fun h => absurd rfl h) hcs (.inl ⟨rfl, this⟩), fun S w2 => .rnil _ d e sz (by rw [upd_same])⟩
    · have hpos : 0 < c * sz := Nat.mul_pos (by omega) hsz
      have hkc : k * sz ≤ c * sz := Nat.mul_le_mul_right _ hnc
      have hcl : cs.length = k * sz := by rw [← hv.1, hlen]
      refine ⟨(g, c * sz, e), h.grow hf hd hg rr hown (g, c * sz, e) (fun _ => ?_) hcs (.inr ⟨cur, hh, hcz, by omega, fun j u x hu hx => ?_⟩), fun S w2 => ?_⟩
      · exact hblk g rfl
      · have hj := (List.getElem?_eq_some_iff.1 hx).1
        refine hv.2 j u x ?_ hx
        rw [← ht, List.getElem?_take, if_pos (by omega)]
        simpa using hu
      · have := RV.row (S := S) (ι := upd ι d (g, c * sz, e)) (w := w2) d e sz k c hnc hcm (by rw [upd_same]) (by rw [upd_same]) (by rw [upd_same]; simp only; omega)
        rwa [upd_same] at this
end
section
variable {P : Program} {o : Oper} {σ : St} {K : St → Prop}
theorem RVs.app {S : Nat → Prop} {ι : Nat → Nat × Nat × Nat} {w : World} {us vs : List Value} {cs ds : List AV} (h : RVs S ι w us cs) (k : RVs S ι w vs ds) : RVs S ι w (us ++ vs) (cs ++ ds) :=
  ⟨by simp [h.1, k.1], fun j u x hu hx => by
    rw [List.getElem?_append] at hu hx
    rw [h.1] at hu
    split at hu
    · rename_i hj; rw [if_pos hj] at hx; exact h.2 j u x hu hx
    · rename_i hj; rw [if_neg hj] at hx; exact k.2 _ u x hu hx⟩
theorem RVs.one {S : Nat → Prop} {ι : Nat → Nat × Nat × Nat} {w : World} {us : List Value} {cs : List AV} (h : RVs S ι w us cs) : ∀ u ∈ us, u.oneCell' = true := fun u hu => by
  obtain ⟨j, hj⟩ := List.mem_iff_getElem?.1 hu
  have hlt := (List.getElem?_eq_some_iff.1 hj).1
  exact (h.2 j u _ hj (List.getElem?_eq_getElem (by rw [← h.1]; exact hlt))).2
/-- what is appended to: a row, or nothing; its name, if it has one -/
def St.dst (σ : St) : AV → Option (Option Nat × Nat × List AV)
  | .row r _ _ n => (hget σ.H r).map fun cs => (some r, n, cs)
  | .c (.v (.slice none 0 0)) => some (none, 0, [])
  | _ => none
theorem opA_append {d : Nat} {s x : Operand} {t e sz by_ n m : Nat} {rr : Option Nat} {cs ds : List AV} (ho : o.op = .call { callee := .builtin .append, args := #[s, x], argTypes := #[t, t] }) (hs0 : okConst s = true) (hx0 : okConst x = true) (hz : slcZ P t = some (e, sz, by_)) (h0 : 0 < sz) (hb0 : 0 < by_)
    (hsz : ∀ r e' sz' n, σ.ev s = .row r e' sz' n → e' = e ∧ sz' = sz ∧ r < 1000) (hs : σ.dst (σ.ev s) = some (rr, n, cs)) (hx : σ.src (σ.ev x) = some (m, ds)) (hcl : cs.length = n * sz) (hdl : ds.length = m * sz) (hby : (n + m) * by_ ≤ 140737488355328)
    (hd : o.dst = some d) (hf : σ.free d = true) (hd2 : d < 1000) (hcs : AV.refsL d cs = false) (hds : AV.refsL d ds = false)
    (hK : K ((St.mk σ.T (hput (hdelO σ.H rr) d (cs ++ ds))).put o.dst (.row d e sz (n + m)))) : OpA P o σ K := by
  intro E ι a w hc K' Q hK'
  obtain ⟨hu, i, z, hi, hiz, hsize, hbytes, hzs⟩ := slcZ_spec hz
  obtain ⟨A, c, vs, hxv, hsl, hvs⟩ := hc.src (hc.ev x hx0) hx hdl h0
  have hrefs : AV.refsL d (cs ++ ds) = false := by simp [hcs, hds]
  have finish : ∀ {A0 : Option Addr} {c0 : Nat} {us : List Value}, a.eval s = .slice A0 n c0 → Ow w 0 e sz A0 n c0 us → RVs (Sx E ι σ.H) ι w us cs → (∀ b, (Value.slice A0 n c0).ownBlock = some b → ∃ r cs, rr = some r ∧ r < 1000 ∧ hget σ.H r = some cs ∧ (ι r).2.1 ≠ 0 ∧ (ι r).1 = b) → o.wp P a w K' Q := by
    intro A0 c0 us hsv how hus hown
    obtain ⟨A', c', w', hrun, how', hg, hblk⟩ := run_app (P := P) w 0 t o.type e i z sz by_ hu hi hiz hsize hbytes hzs h0 A0 n c0 us how w.heap.size A m c vs hsl hvs.one hby hb0 (Nat.zero_le _)
    obtain ⟨p, hconc, hrv⟩ := hc.appended hf hd2 rr (cs := cs ++ ds) h0 how' hg (fun g hg' => by
      rcases hblk with hb | hb
      · exact .inl (hb.symm.trans hg')
      · rw [hb] at hg'; exact .inr (by injection hg' with hg'; omega)) hown hrefs (hus.app hvs)
    unfold Oper.wp execOp
    simp only [ho, resolve, invoke, builtin, Sem.run_bind, Sem.run_pure, Result.andThen_ok, List.map_toArray, List.map_cons, List.map_nil, hsv, hxv, hrun]
    exact hK' _ _ _ _ hK (hconc.put o.dst (hrv _ _))
  have hsv := hc.ev s hs0
  generalize he : a.eval s = v at hsv
  generalize hes : σ.ev s = y at hsv hs hsz
  cases hsv with
  | row r e' sz' n' c0 g1 g2 g3 g4 g0 =>
    obtain ⟨rfl, rfl, hr1000⟩ := hsz r e' sz' n' rfl
    simp only [St.dst, Option.map_eq_some_iff, Prod.mk.injEq] at hs
    obtain ⟨cs', hr, rfl, rfl, rfl⟩ := hs
    rcases hc.heap.blk r cs' hr with ⟨hz', _⟩ | ⟨cur, hh, hcz, hlc, hcur⟩
    · exact absurd hz' g0
    · refine finish (us := cur.toList.take (n' * sz')) he ⟨by simp; omega, .inr ⟨_, c0, cur, rfl, Nat.zero_le _, by rw [hh, g4], g1, g2, by rw [hcz, g3], rfl⟩⟩ ⟨by simp; omega, fun j u x hu hx => ?_⟩ fun b hb => ?_
      · rw [List.getElem?_take] at hu
        split at hu
        · exact hcur j u x (by simpa using hu) hx
        · cases hu
      · simp only [Value.ownBlock, Option.some.injEq] at hb
        exact ⟨r, cs', rfl, hr1000, hr, g0, hb⟩
  | rnil A0 r e' sz' hz' =>
    obtain ⟨rfl, rfl, hr1000⟩ := hsz r e' sz' 0 rfl
    simp only [St.dst, Option.map_eq_some_iff, Prod.mk.injEq] at hs
    obtain ⟨cs', hr, rfl, rfl, rfl⟩ := hs
    have hnil : cs' = [] := List.eq_nil_of_length_eq_zero (by simpa using hcl)
    subst hnil
    cases A0 with
    | none => exact finish (us := []) he Ow.nil ⟨rfl, fun j u x hu => by cases hu⟩ fun b hb => by cases hb
    | some b0 =>
      rcases Nat.eq_zero_or_pos m with rfl | hm
      · have hvs0 : vs = [] := List.eq_nil_of_length_eq_zero (by have := hsl.len_; simpa using this)
        subst hvs0
        have hds0 : ds = [] := List.eq_nil_of_length_eq_zero (by simpa using hdl)
        subst hds0
        have hsrc : Src P i.size t (.slice A 0 c) 0 [] w := by
          cases A with
          | none =>
            have := hsl.none_c
            subst this
            exact Src.ofNil w hu 0
          | some a0 => exact Src.ofSlice w hu a0 0 c [] (by simp) (fun j u hu => by cases hu) (fun u hu => by cases hu)
        have hrun := run_append_nothing w t t o.type e' i hu hi (some b0) 0 0 (Nat.le_refl _) (.slice A 0 c) hsrc
        have hconc := hc.grow (w' := w) hf hd2 (World.grownBy.refl w none) (some r) (fun b hb => by cases hb) (0, 0, e') (cs := []) (fun h => absurd rfl h) rfl (.inl ⟨rfl, rfl⟩)
        unfold Oper.wp execOp
        simp only [ho, resolve, invoke, builtin, Sem.run_bind, Sem.run_pure, Result.andThen_ok, List.map_toArray, List.map_cons, List.map_nil, he, hxv, hrun]
        exact hK' _ _ _ _ hK (hconc.put o.dst (.rnil (some b0) d e' sz' (by rw [upd_same])))
      · obtain ⟨b, off, rfl, _, hcell⟩ := hsl.cells hm
        obtain ⟨v', w', hrun, how', hg⟩ := run_append_arg_grows (P := P) w t o.type e' i z sz' by_ hu hi hiz hsize hbytes hzs h0 b0 0 0 [] (by simp) (fun j u hu => by cases hu) ⟨b, off, none⟩ m c vs hsl.len_ (fun j u hu => by rw [add_none]; exact hcell j u hu) (by omega)
          (by have : (0 + m) * 1 ≤ (0 + m) * by_ := Nat.mul_le_mul_left _ hb0; unfold maxLen; omega) hby
        obtain ⟨A', c', rfl⟩ : ∃ A' c', v' = .slice A' (0 + m) c' := by
          rcases how' with ⟨_, ⟨rfl, h0⟩ | ⟨g, cap, cur, rfl, _⟩⟩
          · omega
          · exact ⟨_, _, rfl⟩
        have hown' : Ow w' w.heap.size e' sz' A' (0 + m) c' ([] ++ vs) := how'
        obtain ⟨p, hconc, hrv⟩ := hc.appended hf hd2 (some r) (cs := [] ++ ds) h0 (hown'.mono (Nat.zero_le _)) hg (fun g hg' => by
          rcases hown'.form with ⟨rfl, _⟩ | ⟨g2, _, rfl, hb2, _⟩
          · cases hg'
          · simp only [Value.ownBlock, Option.some.injEq] at hg'
            exact .inr (by omega)) (fun b hb => by cases hb) hrefs (by simpa using hvs)
        unfold Oper.wp execOp
        simp only [ho, resolve, invoke, builtin, Sem.run_bind, Sem.run_pure, Result.andThen_ok, List.map_toArray, List.map_cons, List.map_nil, he, hxv, hrun]
        exact hK' _ _ _ _ hK (hconc.put o.dst (hrv _ _))
  | c v p hp =>
    unfold St.dst at hs
    split at hs
    · rename_i heq; cases heq
    · rename_i heq
      cases heq
      cases hs
      cases hp with
      | v _ _ => exact finish (us := []) he Ow.nil ⟨rfl, fun j u x hu => by cases hu⟩ fun b hb => by cases hb
    · cases hs
  | _ => simp [St.dst] at hs
end
end Go.Proofs.Ytlkogofgemclfaa
