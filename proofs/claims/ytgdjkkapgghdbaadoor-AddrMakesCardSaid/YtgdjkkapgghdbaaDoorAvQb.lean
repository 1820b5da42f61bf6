/-
  Regions that draw their order, of which the last operations stand behind all others: a drawn head, a fixed tail. No program in sight.
-/
import Derived.Test.YtgdjkkapgghdbaaDoorAvQ
namespace Go.Proofs.YtgdjkkapgghdbaaDoor
open Go.RowKit
set_option linter.unusedSimpArgs false
set_option linter.unusedVariables false
def forced (l : List Oper) (k : Nat) : Bool := (List.range l.length).all fun i => decide (i < k) || (List.range i).all fun j => pre l i j
def guardless (l : List Oper) : Bool := l.all fun o => o.guard.isNone
theorem ready_of {l : List Oper} {listed : Array Bool} {i : Nat} (hsz : listed.size = l.length) (hi : i ∈ Region.ready .any l.toArray listed) : ∃ o, l[i]? = some o ∧ listed.getD i false = false ∧ ∀ e ∈ o.after, Region.binds .any e = true → listed.getD e.on false = true := by
  unfold Region.ready at hi
  rw [List.mem_filter] at hi
  obtain ⟨h1, h2⟩ := hi
  have hin : i < l.length := by simpa using h1
  have ho : l[i]? = some l[i] := List.getElem?_eq_getElem hin
  simp only [Bool.and_eq_true, Bool.not_eq_true', List.getElem?_toArray, ho, Option.map_some, Option.getD_some, Array.all_eq_true_iff_forall_mem] at h2
  refine ⟨_, ho, ?_, fun e he hb => ?_⟩
  · have := h2.1
    simp only [Array.getD, hsz, hin, dif_pos] at this ⊢
    exact this
  · have := h2.2 e he
    simpa [hb] using this
theorem of_ready {l : List Oper} {listed : Array Bool} {j : Nat} (hback : edgesBack l = true) (hsz : listed.size = l.length) (hjl : j < l.length) (hju : listed.getD j false = false) (hlow : ∀ k, k < j → listed.getD k false = true) : j ∈ Region.ready .any l.toArray listed := by
  have ho : l[j]? = some l[j] := List.getElem?_eq_getElem hjl
  have hb := List.all_eq_true.1 hback j (by simpa using hjl)
  simp only [ho, Array.all_eq_true_iff_forall_mem, Bool.or_eq_true, Bool.not_eq_true', decide_eq_true_eq] at hb
  unfold Region.ready
  rw [List.mem_filter]
  refine ⟨by simpa using hjl, ?_⟩
  simp only [Bool.and_eq_true, Bool.not_eq_true', List.getElem?_toArray, ho, Option.map_some, Option.getD_some, Array.all_eq_true_iff_forall_mem]
  refine ⟨?_, fun e he => ?_⟩
  · simp only [Array.getD, hsz, hjl, dif_pos] at hju ⊢
    exact hju
  · rcases hb e he with h | h
    · simp [h]
    · simp [hlow e.on h]
theorem first_out {L : Nat → Bool} : ∀ {n : Nat}, (∃ j, j < n ∧ L j = false) → ∃ j, j < n ∧ L j = false ∧ ∀ k, k < j → L k = true
  | 0, ⟨j, hj, _⟩ => absurd hj (Nat.not_lt_zero _)
  | n + 1, ⟨j, hj, hL⟩ => by
    by_cases hlow : ∃ k, k < n ∧ L k = false
    · obtain ⟨i, h1, h2, h3⟩ := first_out hlow
      exact ⟨i, by omega, h2, h3⟩
    · refine ⟨j, hj, hL, fun k hk => Classical.byContradiction fun hn => hlow ⟨k, by omega, by simpa using hn⟩⟩
theorem forced_pre {l : List Oper} {k i j : Nat} (h : forced l k = true) (hk : k ≤ i) (hi : i < l.length) (hj : j < i) : pre l i j = true := by
  have h1 := List.all_eq_true.1 h i (by simpa using hi)
  rw [Bool.or_eq_true] at h1
  rcases h1 with h1 | h1
  · have := of_decide_eq_true h1; omega
  · exact List.all_eq_true.1 h1 j (by simpa using hj)
theorem guardless_at {l : List Oper} {i : Nat} {o : Oper} (h : guardless l = true) (ho : l[i]? = some o) : o.guard = none := by
  have := List.all_eq_true.1 h o (List.mem_of_getElem? ho)
  simpa using this
theorem tail_any {P : Program} {E : Env} {Φ : Exit → St → Prop} {l : List Oper} {k : Nat} (hback : edgesBack l = true) (hf : forced l k = true) (hg : guardless l = true) : ∀ (r n : Nat), r + n = l.length → k ≤ n → ∀ (fuel : Nat) (listed : Array Bool) (a : Act) (w : World) (ι : Nat → Nat × Nat × Nat) (σ : St), listed.size = l.length → closedL l (fun j => listed.getD j false) → cntL (fun j => listed.getD j false) l.length ≤ fuel →
    (∀ j, j < l.length → listed.getD j false = decide (j < n)) → Conc E ι σ a w → evL P l.toArray (l.drop n) σ (Φ .normal) → wpAny P .any l.toArray (fun ex a' w' => ∃ ι' σ', Conc E ι' σ' a' w' ∧ Φ ex σ') fuel listed a w
  | 0, n, hr, hk, fuel, listed, a, w, ι, σ, hsz, hcl, hcnt, hL, hc, h => by
    have hall : ∀ j, j < l.length → listed.getD j false = true := fun j hj => by rw [hL j hj]; simp; omega
    rw [List.drop_of_length_le (by omega)] at h
    have hnil : Region.ready .any l.toArray listed = [] := List.eq_nil_iff_forall_not_mem.2 fun i hi => by
      obtain ⟨o, ho, hu, _⟩ := ready_of hsz hi
      have := hall i (List.getElem?_eq_some_iff.1 ho).1
      rw [hu] at this; cases this
    cases fuel with
    | zero => exact ⟨hnil, ι, σ, hc, h⟩
    | succ fuel => exact ⟨fun _ => ⟨ι, σ, hc, h⟩, fun i hi => by rw [hnil] at hi; cases hi⟩
  | r + 1, n, hr, hk, fuel, listed, a, w, ι, σ, hsz, hcl, hcnt, hL, hc, h => by
    have hnl : n < l.length := by omega
    have ho : l[n]? = some l[n] := List.getElem?_eq_getElem hnl
    have hun : listed.getD n false = false := by rw [hL n hnl]; simp
    have hlow : ∀ j, j < n → listed.getD j false = true := fun j hj => by rw [hL j (by omega)]; simp [hj]
    have hrd := of_ready hback hsz hnl hun hlow
    have honly : ∀ i, i ∈ Region.ready .any l.toArray listed → i = n := fun i hi => by
      obtain ⟨o, ho', hu, hpre⟩ := ready_of hsz hi
      have hil := (List.getElem?_eq_some_iff.1 ho').1
      rcases Nat.lt_trichotomy i n with h1 | h1 | h1
      · rw [hlow i h1] at hu; cases hu
      · exact h1
      · have := pre_listed hcl i (fun o2 ho2 => by rw [ho'] at ho2; cases ho2; exact hpre) n (forced_pre hf (by omega) hil h1)
        rw [hun] at this; cases this
    cases fuel with
    | zero =>
      have := cntL_zero (L := fun j => listed.getD j false) l.length (by omega) n hnl
      rw [hun] at this; cases this
    | succ fuel =>
      refine ⟨fun hnil => (by rw [hnil] at hrd; cases hrd), fun i hi => ?_⟩
      obtain rfl := honly i hi
      have hgo := guardless_at hg ho
      rw [List.drop_eq_getElem_cons hnl] at h
      unfold evL at h
      rw [hgo] at h
      unfold wpOp
      simp only [List.getElem?_toArray, ho]
      have hw : Region.wanted l[i] (yielded l.toArray a.tmps) = true := by simp [Region.wanted, hgo]
      rw [if_pos hw]
      refine .inl (h E ι a w hc _ _ fun ι' σ' a' w' hk' hc' => ?_)
      have hset : ∀ j, j ≠ i → (listed.setIfInBounds i true).getD j false = listed.getD j false := fun j hj => by
        simp [Array.getD_eq_getD_getElem?, Array.getElem?_setIfInBounds_ne (Ne.symm hj)]
      have hset' : (listed.setIfInBounds i true).getD i false = true := by
        simp [Array.getD, hsz, hnl]
      refine tail_any hback hf hg r (i + 1) (by omega) (by omega) fuel _ a' w' ι' σ' (by simpa using hsz) (fun j x hx hLj ed hed hb => ?_) ?_ (fun j hj => ?_) hc' hk'
      · by_cases hji : j = i
        · subst hji
          obtain ⟨o2, ho2, _, hpre⟩ := ready_of hsz hi
          rw [ho2] at hx; cases hx
          have := hpre ed hed hb
          show (listed.setIfInBounds j true).getD ed.on false = true
          by_cases h2 : ed.on = j
          · rw [h2]; exact hset'
          · rw [hset _ h2]; exact this
        · have hLj' : listed.getD j false = true := by rw [← hset j hji]; exact hLj
          have := hcl j x hx hLj' ed hed hb
          show (listed.setIfInBounds i true).getD ed.on false = true
          by_cases h2 : ed.on = i
          · rw [h2]; exact hset'
          · rw [hset _ h2]; exact this
      · have := (cntL_set (L := fun j => listed.getD j false) (L' := fun j => (listed.setIfInBounds i true).getD j false) hun hset' hset l.length).1 hnl
        omega
      · by_cases hji : j = i
        · subst hji; rw [hset']; simp
        · rw [hset j hji, hL j hj]
          exact decide_eq_decide.2 (by omega)
theorem region_draw_cut {P : Program} {id : Nat} {l m : List Oper} {es : List Ef} {σ0 : St} {Φ : Exit → St → Prop} (hm : P.follows .mixedOrders = true) (hlen : es.length = l.length) (hok : drawOK l es = true) (hback : edgesBack (l ++ m) = true) (hf : forced (l ++ m) l.length = true) (hgl : guardless (l ++ m) = true) (hnew : ∀ d ∈ newNames l, σ0.free d = true)
    (steps : ∀ i o e, l[i]? = some o → es[i]? = some e → StepD P l (stL l es (fun _ => true) i σ0) o e) (hrest : evL P (l ++ m).toArray m (stL l es (fun _ => true) l.length σ0) (Φ .normal)) : AW P (.region id (l ++ m).toArray true) σ0 Φ := by
  intro E ι a w hc
  refine wp_region_any hm ?_
  have hd0 := hc.drawn (w.drawn + 1)
  generalize ({ w with drawn := w.drawn + 1 } : World) = w0 at hd0
  have pair : ∀ i j x y ex ey, j < i → l[i]? = some x → l[j]? = some y → es[i]? = some ex → es[j]? = some ey → pre l i j = true ∨ apartE l.toArray x y ex ey = true := fun i j x y ex ey hji hx hy hex hey => by
    have hi := (List.getElem?_eq_some_iff.1 hx).1
    have hok2 := hok
    unfold drawOK at hok2
    rw [Bool.and_eq_true] at hok2
    have h1 := List.all_eq_true.1 hok2.2 i (by simpa using hi)
    have h2 := List.all_eq_true.1 h1 j (by simpa using hji)
    simp only [hx, hy, hex, hey, Bool.or_eq_true] at h2
    exact h2
  have ef : ∀ i x, l[i]? = some x → ∃ e, es[i]? = some e := fun i x hx => ⟨es[i]'(by rw [hlen]; exact (List.getElem?_eq_some_iff.1 hx).1), List.getElem?_eq_getElem _⟩
  have key : ∀ (fuel : Nat) (listed : Array Bool) (a : Act) (w : World) (ι : Nat → Nat × Nat × Nat), listed.size = (l ++ m).length → closedL (l ++ m) (fun j => listed.getD j false) → cntL (fun j => listed.getD j false) (l ++ m).length ≤ fuel → (∀ j, l.length ≤ j → listed.getD j false = false) →
      Conc E ι (stL l es (fun j => listed.getD j false) l.length σ0) a w → wpAny P .any (l ++ m).toArray (fun ex a' w' => ∃ ι' σ', Conc E ι' σ' a' w' ∧ Φ ex σ') fuel listed a w := by
    intro fuel
    induction fuel with
    | zero =>
      intro listed a w ι hsz hclF hcnt hout hc
      have hall := cntL_zero (L := fun j => listed.getD j false) (l ++ m).length (by omega)
      refine tail_any hback hf hgl m.length l.length (by rw [List.length_append]; omega) (Nat.le_refl _) 0 listed a w ι (stL l es (fun _ => true) l.length σ0) hsz hclF hcnt (fun j hj => ?_) (hc.le ⟨by rw [stL_length, stL_length], fun t => AV.le_of ?_, fun r cs hr => ?_⟩) (by rw [List.drop_left]; exact hrest)
      · rcases Nat.lt_or_ge j l.length with h | h
        · have := hall j hj
          rw [this]; simp [h]
        · rw [hout j h]; simp; omega
      · exact stL_T _ fun j o hj hne _ => absurd (hall j (by rw [List.length_append]; omega)) (by simpa using hne)
      · rw [← hr]; exact stL_H _ fun j e hj hne _ => absurd (hall j (by rw [List.length_append]; omega)) (by simpa using hne)
    | succ fuel ih =>
      intro listed a w ι hsz hclF hcnt hout hc
      by_cases hhead : ∃ j, j < l.length ∧ listed.getD j false = false
      · obtain ⟨j0, hj0, hu0, hlow0⟩ := first_out (L := fun j => listed.getD j false) hhead
        have hrd := of_ready hback hsz (by rw [List.length_append]; omega) hu0 hlow0
        refine ⟨fun hnil => (by rw [hnil] at hrd; cases hrd), fun i hi => ?_⟩
        obtain ⟨o, hoF, hu, hpre⟩ := ready_of hsz hi
        have hiF := (List.getElem?_eq_some_iff.1 hoF).1
        have hil : i < l.length := by
          rcases Nat.lt_or_ge i l.length with h | h
          · exact h
          · have := pre_listed hclF i (fun o2 ho2 => by rw [hoF] at ho2; cases ho2; exact hpre) j0 (forced_pre hf h hiF (by omega))
            rw [hu0] at this; cases this
        have ho : l[i]? = some o := by rw [← hoF, List.getElem?_append_left hil]
        obtain ⟨e, he⟩ := ef i o ho
        have hcl : closedL l (fun j => listed.getD j false) := fun j x hx => hclF j x (by rw [List.getElem?_append_left (List.getElem?_eq_some_iff.1 hx).1]; exact hx)
        -- those that differ from the text's order do not meet it
        have hdiff : ∀ j x ex, j < l.length → l[j]? = some x → es[j]? = some ex → (listed.getD j false) ≠ decide (j < i) → x.dst.toList.all (fun d => !(o.looksAt l.toArray).contains d) = true ∧ (∀ r ∈ e.rd, r ∉ ex.wn) := fun j x ex hj hx hex hne => by
          rcases Nat.lt_trichotomy j i with hji | hji | hji
          · have hun : listed.getD j false = false := by
              cases h : listed.getD j false with
              | false => rfl
              | true => rw [h] at hne; simp [hji] at hne
            rcases pair i j o x e ex hji ho hx he hex with hr | hr
            · have := pre_listed hcl i (fun o' ho' => by rw [ho] at ho'; cases ho'; exact hpre) j hr
              rw [hun] at this; cases this
            · unfold apartE at hr
              simp only [Bool.and_eq_true] at hr
              obtain ⟨_, _, h3⟩ := Oper.apart_spec hr.1.1
              refine ⟨?_, fun r hr' hrw => ?_⟩
              · cases hd : x.dst with
                | none => rfl
                | some d => simpa using h3 d hd
              · have := List.all_eq_true.1 hr.1.2 r hrw
                simp at this
                exact this.1 hr'
          · subst hji
            rw [hu] at hne; simp at hne
          · have hli : listed.getD j false = true := by
              cases h : listed.getD j false with
              | true => rfl
              | false => rw [h] at hne; simp at hne; omega
            rcases pair j i x o ex e hji hx ho hex he with hr | hr
            · have := pre_listed hcl j (fun o' ho' => hcl j o' ho' hli) i hr
              rw [hu] at this; cases this
            · unfold apartE at hr
              simp only [Bool.and_eq_true] at hr
              obtain ⟨h1, _, _⟩ := Oper.apart_spec hr.1.1
              refine ⟨?_, fun r hr' hrw => ?_⟩
              · cases hd : x.dst with
                | none => rfl
                | some d => simpa using h1 d hd
              · have := List.all_eq_true.1 hr.2 r hrw
                simp at this
                exact this hr'
        have htext := stL_all (l := l) (es := es) (σ := σ0) i l.length (by omega)
        have hT : ∀ t ∈ o.looksAt l.toArray, (stL l es (fun j => listed.getD j false) l.length σ0).T.getD t .any = (stL l es (fun _ => true) i σ0).T.getD t .any := fun t ht => by
          rw [← htext]
          refine stL_T _ fun j x hj hne hx hd => ?_
          obtain ⟨ex, hex⟩ := ef j x hx
          have := (hdiff j x ex hj hx hex hne).1
          rw [hd] at this
          simp at this
          exact this ht
        have hH : ∀ r ∈ e.rd, hget (stL l es (fun j => listed.getD j false) l.length σ0).H r = hget (stL l es (fun _ => true) i σ0).H r := fun r hr => by
          rw [← htext]
          refine stL_H _ fun j ex hj hne hex hrw => ?_
          have hx : l[j]? = some l[j] := List.getElem?_eq_getElem hj
          exact (hdiff j _ ex hj hx hex hne).2 r hr hrw
        have hN : ∀ d ∈ e.nw, (stL l es (fun j => listed.getD j false) l.length σ0).free d = true := fun d hd => by
          have hf := hok
          unfold drawOK at hf
          rw [Bool.and_eq_true] at hf
          have h1 := List.all_eq_true.1 hf.1 i (by simpa using hil)
          simp only [he] at h1
          have h2 := List.all_eq_true.1 h1 d hd
          rw [Bool.and_eq_true] at h2
          refine stL_free (hnew d (by simpa using h2.1)) _ fun j ej hj hLj hej => ?_
          have h3 := List.all_eq_true.1 h2.2 j (by simpa using hj)
          simp only [hej, Bool.or_eq_true, Bool.not_eq_true'] at h3
          rcases h3 with (h3 | h3) | h3
          · have : j = i := by simpa using h3
            subst this
            rw [hu] at hLj; cases hLj
          · have hjo : l[j]? = some l[j] := List.getElem?_eq_getElem hj
            have := pre_listed hcl j (fun o' ho' => hcl j o' ho' hLj) i h3
            rw [hu] at this; cases this
          · exact h3
        generalize hτ : stL l es (fun j => listed.getD j false) l.length σ0 = τ at *
        have hag : agree o (stL l es (fun _ => true) i σ0).ev τ.ev := fun x hx => by
          cases x with
          | tmp t => exact hT t (List.mem_append_left _ (List.mem_filterMap.2 ⟨.tmp t, hx, rfl⟩))
          | _ => rfl
        -- behind it
        have hset : ∀ j, j ≠ i → (listed.setIfInBounds i true).getD j false = listed.getD j false := fun j hj => by
          simp [Array.getD_eq_getD_getElem?, Array.getElem?_setIfInBounds_ne (Ne.symm hj)]
        have hset' : (listed.setIfInBounds i true).getD i false = true := by
          have : i < listed.size := by rw [hsz, List.length_append]; omega
          simp [Array.getD, this]
        have hclF' : closedL (l ++ m) (fun j => (listed.setIfInBounds i true).getD j false) := fun j x hx hLj ed hed hb => by
          by_cases hj : j = i
          · subst hj
            rw [hoF] at hx; cases hx
            have := hpre ed hed hb
            show (listed.setIfInBounds j true).getD ed.on false = true
            by_cases h : ed.on = j
            · rw [h]; exact hset'
            · rw [hset _ h]; exact this
          · have hLj' : listed.getD j false = true := by rw [← hset j hj]; exact hLj
            have := hclF j x hx hLj' ed hed hb
            show (listed.setIfInBounds i true).getD ed.on false = true
            by_cases h : ed.on = i
            · rw [h]; exact hset'
            · rw [hset _ h]; exact this
        have hcl' : closedL l (fun j => (listed.setIfInBounds i true).getD j false) := fun j x hx hLj ed hed hb => by
          by_cases hj : j = i
          · subst hj
            rw [ho] at hx; cases hx
            have := hpre ed hed hb
            show (listed.setIfInBounds j true).getD ed.on false = true
            by_cases h : ed.on = j
            · rw [h]; exact hset'
            · rw [hset _ h]; exact this
          · have hLj' : listed.getD j false = true := by rw [← hset j hj]; exact hLj
            have := hcl j x hx hLj' ed hed hb
            show (listed.setIfInBounds i true).getD ed.on false = true
            by_cases h : ed.on = i
            · rw [h]; exact hset'
            · rw [hset _ h]; exact this
        have hcnt' : cntL (fun j => (listed.setIfInBounds i true).getD j false) (l ++ m).length ≤ fuel := by
          have := (cntL_set (L := fun j => listed.getD j false) (L' := fun j => (listed.setIfInBounds i true).getD j false) hu hset' hset (l ++ m).length).1 (by rw [List.length_append]; omega)
          omega
        have hlater : ∀ j x ex, i < j → l[j]? = some x → es[j]? = some ex → (listed.setIfInBounds i true).getD j false = true → x.dst ≠ o.dst ∨ x.dst = none := fun j x ex hij hx hex hLj => by
          rw [hset j (by omega)] at hLj
          rcases pair j i x o ex e hij hx ho hex he with hr | hr
          · have := pre_listed hcl j (fun o' ho' => hcl j o' ho' hLj) i hr
            rw [hu] at this; cases this
          · unfold apartE at hr
            simp only [Bool.and_eq_true] at hr
            obtain ⟨_, h2, _⟩ := Oper.apart_spec hr.1.1
            cases hd : x.dst with
            | none => exact .inr rfl
            | some d => exact .inl fun e => h2 d hd e.symm
        have hlaterH : ∀ j x ex, i < j → l[j]? = some x → es[j]? = some ex → (listed.setIfInBounds i true).getD j false = true → ∀ r ∈ e.wn, r ∉ ex.wn := fun j x ex hij hx hex hLj r hr hrw => by
          rw [hset j (by omega)] at hLj
          rcases pair j i x o ex e hij hx ho hex he with hr' | hr'
          · have := pre_listed hcl j (fun o' ho' => hcl j o' ho' hLj) i hr'
            rw [hu] at this; cases this
          · unfold apartE at hr'
            simp only [Bool.and_eq_true] at hr'
            have := List.all_eq_true.1 hr'.1.2 r hr
            simp at this
            exact this.2 hrw
        have hle : (τ.eff o.dst e.v e.wr).le (stL l es (fun j => (listed.setIfInBounds i true).getD j false) l.length σ0) := by
          have hstep : stL l es (fun j => (listed.setIfInBounds i true).getD j false) (i + 1) σ0 = (stL l es (fun j => (listed.setIfInBounds i true).getD j false) i σ0).eff o.dst e.v e.wr := by
            conv => lhs; unfold stL
            simp only [hset', if_true, ho, he]
          refine ⟨by show (setO τ.T o.dst e.v).length = _; rw [setO_length, ← hτ, stL_length, stL_length], fun t => AV.le_of ?_, fun r cs hr => ?_⟩
          · by_cases hd : o.dst = some t
            · have h1 : ∀ k, i + 1 ≤ k → k ≤ l.length → (stL l es (fun j => (listed.setIfInBounds i true).getD j false) k σ0).T.getD t .any = (stL l es (fun j => (listed.setIfInBounds i true).getD j false) (i + 1) σ0).T.getD t .any := by
                intro k
                induction k with
                | zero => intro h; omega
                | succ k ihk =>
                  intro h1 h2
                  by_cases hk : k = i
                  · subst hk; rfl
                  · rw [← ihk (by omega) (by omega)]
                    conv => lhs; unfold stL
                    simp only
                    split
                    · rename_i hLk
                      split
                      · rename_i x ex hx hex
                        refine setO_ne ?_
                        rcases hlater k x ex (by omega) hx hex hLk with h | h
                        · rwa [hd] at h
                        · rw [h]; simp
                      · rfl
                    · rfl
              rw [h1 l.length (by omega) (Nat.le_refl _), hstep]
              show (setO τ.T o.dst e.v).getD t .any = (setO _ o.dst e.v).getD t .any
              rw [hd]
              exact setO_same (by rw [← hτ, stL_length, stL_length])
            · show (setO τ.T o.dst e.v).getD t .any = _
              rw [setO_ne hd, ← hτ]
              refine stL_T _ fun j x hj hne hx hdx => ?_
              by_cases hji : j = i
              · subst hji; rw [ho] at hx; cases hx; exact hd hdx
              · exact hne (hset j hji).symm
          · show hget (hputs τ.H e.wr) r = some cs
            rw [← hr]
            by_cases hrw : r ∈ e.wn
            · have h1 : ∀ k, i + 1 ≤ k → k ≤ l.length → hget (stL l es (fun j => (listed.setIfInBounds i true).getD j false) k σ0).H r = hget (stL l es (fun j => (listed.setIfInBounds i true).getD j false) (i + 1) σ0).H r := by
                intro k
                induction k with
                | zero => intro h; omega
                | succ k ihk =>
                  intro h1 h2
                  by_cases hk : k = i
                  · subst hk; rfl
                  · rw [← ihk (by omega) (by omega)]
                    conv => lhs; unfold stL
                    simp only
                    split
                    · rename_i hLk
                      split
                      · rename_i x ex hx hex
                        show hget (hputs _ ex.wr) r = _
                        rw [hget_puts, hget_wn (hlaterH k x ex (by omega) hx hex hLk r hrw)]
                      · rfl
                    · rfl
              rw [h1 l.length (by omega) (Nat.le_refl _), hstep]
              show hget (hputs τ.H e.wr) r = hget (hputs _ e.wr) r
              rw [hget_puts, hget_puts]
              obtain ⟨ds, hds⟩ := hget_of_key hrw
              rw [hds]
            · rw [hget_puts, hget_wn hrw, ← hτ]
              refine stL_H _ fun j ex hj hne hex hrx => ?_
              by_cases hji : j = i
              · subst hji; rw [he] at hex; cases hex; exact hrw hrx
              · exact hne (hset j hji).symm
        have hnext : ∀ ι' a' w', Conc E ι' (τ.eff o.dst e.v e.wr) a' w' → wpAny P .any (l ++ m).toArray (fun ex a' w' => ∃ ι' σ', Conc E ι' σ' a' w' ∧ Φ ex σ') fuel (listed.setIfInBounds i true) a' w' := fun ι' a' w' hc' =>
          ih _ a' w' ι' (by simpa using hsz) hclF' hcnt' (fun j hj => by rw [hset j (by omega)]; exact hout j hj) (hc'.le hle)
        have hgo := guardless_at hgl hoF
        unfold wpOp
        simp only [List.getElem?_toArray, hoF]
        have run : OpN P o (stL l es (fun _ => true) i σ0).ev (hget (stL l es (fun _ => true) i σ0).H) e → o.wp P a w (wpAny P .any (l ++ m).toArray (fun ex a' w' => ∃ ι' σ', Conc E ι' σ' a' w' ∧ Φ ex σ') fuel (listed.setIfInBounds i true)) (fun ex a' w' => ∃ ι' σ', Conc E ι' σ' a' w' ∧ Φ ex σ') := fun hF =>
          hF τ hag hH hN E ι a w hc _ _ fun ι' σ' a' w' hk hc' => hnext ι' a' w' (by rw [← hk]; exact hc')
        have hw : Region.wanted o (yielded (l ++ m).toArray a.tmps) = true := by simp [Region.wanted, hgo]
        rw [if_pos hw]
        rcases steps i o e ho he with ⟨hg, hF⟩ | ⟨j, want, d, b, hg, hd, _⟩
        · exact .inl (run hF)
        · rw [hgo] at hg; cases hg
      · have hall : ∀ j, j < l.length → listed.getD j false = true := fun j hj => by
          cases h : listed.getD j false with
          | true => rfl
          | false => exact absurd ⟨j, hj, h⟩ hhead
        refine tail_any hback hf hgl m.length l.length (by rw [List.length_append]; omega) (Nat.le_refl _) (fuel + 1) listed a w ι (stL l es (fun _ => true) l.length σ0) hsz hclF hcnt (fun j hj => ?_) (hc.le ⟨by rw [stL_length, stL_length], fun t => AV.le_of ?_, fun r cs hr => ?_⟩) (by rw [List.drop_left]; exact hrest)
        · rcases Nat.lt_or_ge j l.length with h | h
          · rw [hall j h]; simp [h]
          · rw [hout j h]; simp; omega
        · exact stL_T _ fun j o hj hne _ => absurd (hall j hj) (by simpa using hne)
        · rw [← hr]; exact stL_H _ fun j e hj hne _ => absurd (hall j hj) (by simpa using hne)
  have hrep : ∀ j, (Array.replicate (l ++ m).length false).getD j false = false := fun j => by
    simp [Array.getD_eq_getD_getElem?, Array.getElem?_replicate]
    split <;> rfl
  have hempty : ∀ k, stL l es (fun j => (Array.replicate (l ++ m).length false).getD j false) k σ0 = σ0 := by
    intro k
    induction k with
    | zero => rfl
    | succ k ih =>
      unfold stL
      simp only [hrep k, Bool.false_eq_true, if_false, ih]
  have hsz : (l ++ m).toArray.size = (l ++ m).length := by simp
  rw [hsz]
  refine key (l ++ m).length _ a w0 ι (by simp) (fun j o ho hL => ?_) ?_ (fun j _ => hrep j) (by rw [hempty]; exact hd0)
  · simp only [hrep j] at hL; cases hL
  · have : ∀ k, cntL (fun j => (Array.replicate (l ++ m).length false).getD j false) k ≤ k := by
      intro k
      induction k with
      | zero => exact Nat.le_refl _
      | succ k ih => unfold cntL; split <;> omega
    exact this _
theorem evC_draw_cut {P : Program} {σ : St} {Φ : Exit → St → Prop} {id : Nat} (l m : List Oper) (hm : P.follows .mixedOrders = true) (hback : edgesBack (l ++ m) = true) (hf : forced (l ++ m) l.length = true) (hgl : guardless (l ++ m) = true) (hnew : (newNames l).all (fun d => σ.free d) = true) (h : ∀ R : St → Prop, (∀ σ', evL P (l ++ m).toArray m σ' (Φ .normal) → R σ') → evD P l l σ [] R) : evC P (.region id (l ++ m).toArray true) σ Φ := by
  obtain ⟨es, h1, _, h3, h4, h5⟩ := evD_spec (P := P) (l0 := l) (σ0 := σ) l σ [] 0 rfl rfl (Nat.zero_le _) (fun _ _ => rfl) (h _ fun _ h => h)
  exact region_draw_cut hm h1 h3 hback hf hgl (fun d hd => List.all_eq_true.1 hnew d hd) (fun i o e ho he => h4 i o e (Nat.zero_le _) ho he) h5
theorem evC_draw_at {P : Program} {σ : St} {Φ : Exit → St → Prop} {id : Nat} {ops : List Oper} (k : Nat) (hk : k ≤ ops.length) (hm : P.follows .mixedOrders = true) (hback : edgesBack ops = true) (hf : forced ops k = true) (hgl : guardless ops = true) (hnew : (newNames (ops.take k)).all (fun d => σ.free d) = true) (h : ∀ R : St → Prop, (∀ σ', evL P ops.toArray (ops.drop k) σ' (Φ .normal) → R σ') → evD P (ops.take k) (ops.take k) σ [] R) : evC P (.region id ops.toArray true) σ Φ := by
  have e := List.take_append_drop k ops
  have hl : (ops.take k).length = k := by rw [List.length_take]; omega
  have := evC_draw_cut (P := P) (σ := σ) (Φ := Φ) (id := id) (ops.take k) (ops.drop k) hm (by rw [e]; exact hback) (by rw [e, hl]; exact hf) (by rw [e]; exact hgl) hnew (by rw [e]; exact h)
  rwa [e] at this
section
variable {P : Program} {o : Oper} {σ : St}
theorem opN_call_new {f : FuncId} {fn : Func} {cargs : List AV} {d r e sz n : Nat} {pcs : List PV} {fo : Operand} {cas : Array Operand} {ts : Array TypeId} {caps : List AV} (hF : Fn P f cargs [] (.row r e sz n) [(r, pcs.map .c)]) (ho : o.op = .call { callee := .value fo, args := cas, argTypes := ts }) (hfo : okConst fo = true) (has : cas.toList.all okConst = true) (hf : σ.ev fo = .fn f caps)
    (hfn : P.funcs[f]? = some fn) (hname : (fn.name == "runtime.NumGoroutine") = false) (hbody : fn.body.isNone = false) (hargs : argsOk (fun _ => d) cargs (cas.toList.map σ.ev ++ caps)) (hd : o.dst = some d) (hd2 : d < 1000) :
    OpN P o σ.ev (hget σ.H) ⟨.row d e sz n, [], [(d, pcs.map .c)], [d]⟩ := fun τ hA _ hN => by
  have h1 : τ.ev fo = σ.ev fo := hA fo (by rw [ho]; simp [Op.operands, Call.operands])
  have h2 : cas.toList.map τ.ev = cas.toList.map σ.ev := List.map_congr_left fun x hx => hA x (by rw [ho]; simp [Op.operands, Call.operands]; first | exact .inr (by simpa using hx) | simpa using hx)
  have hrn : AV.renL (fun _ => d) (pcs.map .c) = pcs.map .c := by simp
  refine opA_call hF (fun _ => d) ho hfo has (by rw [h1]; exact hf) hfn hname hbody rfl (by rw [h2]; exact hargs) (fun r hr => by cases hr) (fun a ha b hb _ => ?_) ⟨.inr ⟨hN d (by simp), hd2⟩, trivial⟩ (by simp [AV.inN]) (by simp [inH]) ?_
  · simp at ha hb
    rw [ha, hb]
  · rw [hd]
    simp only [renH, hdels, hputs, hrn, AV.ren]
    rfl
theorem evD_call_new {f : FuncId} {fn : Func} {cargs : List AV} {d r e sz n : Nat} {pcs : List PV} {fo : Operand} {cas : Array Operand} {ts : Array TypeId} {caps : List AV} {l0 rest : List Oper} {acc : List Ef} {K : St → Prop} (hF : Fn P f cargs [] (.row r e sz n) [(r, pcs.map .c)]) (hg : o.guard = none) (ho : o.op = .call { callee := .value fo, args := cas, argTypes := ts }) (hfo : okConst fo = true) (has : cas.toList.all okConst = true) (hf : σ.ev fo = .fn f caps)
    (hfn : P.funcs[f]? = some fn) (hname : (fn.name == "runtime.NumGoroutine") = false) (hbody : fn.body.isNone = false) (hargs : argsOk (fun _ => d) cargs (cas.toList.map σ.ev ++ caps)) (hd : o.dst = some d) (hd2 : d < 1000)
    (h : evD P l0 rest (σ.eff o.dst (.row d e sz n) [(d, pcs.map .c)]) (⟨.row d e sz n, [], [(d, pcs.map .c)], [d]⟩ :: acc) K) : evD P l0 (o :: rest) σ acc K :=
  ⟨_, .inl ⟨hg, opN_call_new hF ho hfo has hf hfn hname hbody hargs hd hd2⟩, h⟩
end
end Go.Proofs.YtgdjkkapgghdbaaDoor

