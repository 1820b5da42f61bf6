/-
  The law NonceUses, reckoned: its loop.
-/
import Derived.Test.YtlkogofgemclfaaOc
namespace Go.Proofs.Ytlkogofgemclfaa
open Go.RowKit
set_option linter.unusedVariables false
set_option linter.unusedSimpArgs false
set_option maxRecDepth 20000
set_option maxHeartbeats 4000000
theorem uses_fn (ex ex' : Bool) (x : List N6) (q : List A5) (hx : x.length ≤ maxLen) (hq : q.length ≤ maxLen) (okx : ∀ n ∈ x, n.ok) (okq : ∀ n ∈ q, n.ok) : Fn Try.prog 3 [nsl ex x, asl ex' q] [] (vb true) [] := by
  unfold maxLen at hq
  %ENTER(3)%
  %STEPS(wakes_fn:10;few_fn ex x hx:11)%
  refine evC_loop (α := { p : Nat × List N6 // p.1 ≤ q.length ∧ p.2.length ≤ 49 ∧ ∀ n ∈ p.2, n.ok }) (fun p => ⟨%T(86|0:=nsl ex x|1:=asl ex' q|5:=nsl false p.1.2|18:=asl ex' q|19:=vi .i64 q.length|20:=vi .i64 p.1.1)T%, []⟩) (fun p => q.length - p.1.1) ⟨(0, x.take 49), Nat.zero_le _, by simp; omega, fun n hn => okx n (List.mem_of_mem_take hn)⟩ (St.le_of (by simp [leT]) (by simp [leH])) ?_
  rintro ⟨⟨i, own⟩, hi, hlen, oko⟩ Ψ hΨ hΨ'
  dsimp only at hi hlen oko hΨ ⊢
  rcases Nat.lt_or_ge i q.length with hlt | hge
  · obtain ⟨⟨a, s, b, c, d⟩, hy⟩ : ∃ y, q[i]? = some y := ⟨q[i], List.getElem?_eq_getElem hlt⟩
    have k1 : (decide ((i : Int) < (q.length : Int))) = true := by simpa using hlt
    have k2 := asl_at hy
    have k7 : (i : Int) + 1 = ((i + 1 : Nat) : Int) := by omega
    obtain ⟨u0, us, u1, u2, u3⟩ := okq _ (List.mem_of_getElem? hy)
    dsimp only at k2 u0 us u1 u2 u3
    have hl1 : own.length ≤ 1000 := by omega
    have fe := few_own false own hlen
    have se := same_eq false false own hl1
    have rr := refright_fn false own (by omega) oko
    have us' := us
    obtain ⟨us1, us2⟩ := us'
    by_cases hok : okTo own own.length = true
    · rw [hok] at rr
      have hr := rises_of oko hok
      have hcase : (∃ E : Int, (E == 0) = false ∧ Fn Try.prog 12 [nsl false own, vi .u64 a, w4 s b c d] [] (.tup [nilS, vi .i64 E]) [] ∧ Fn Try.prog 14 [nsl false own, vi .u64 a, w4 s b c d] [] (.tup [nilS, vi .i64 E]) []) ∨
          ((a != 0) = true ∧ nextL own a b c d 0 = s ∧ s < 18446744073709551615 ∧ ¬ (s = 0 ∧ (own.length : Int) = 48)) := by
        by_cases ha : a = 0
        · subst ha
          exact .inl ⟨2, by decide, use_zero false own hl1 b c d s u1 u2 u3 us hok, refuse0_fn false own (by omega) b c d s⟩
        · have ha1 : (a != 0) = true := by simpa using ha
          have ha2 : (a == 0) = false := by simpa using ha
          have hni := nextIs_of oko hr u0 u1 u2 u3
          by_cases hs : nextL own a b c d 0 = s
          · by_cases hf : s = 18446744073709551615 ∨ s = 0 ∧ (own.length : Int) = 48
            · rw [hs] at hni
              exact .inl ⟨6, by decide, use_full false own hl1 a b c d s u1 u2 u3 us hok ha1 hni hf, refuse2_fn false own (by omega) a b c d s ha2 hs hf⟩
            · rw [not_or] at hf
              exact .inr ⟨ha1, hs, by have := hf.1; omega, hf.2⟩
          · have hs1 : (s != nextL own a b c d 0) = true := by simp only [bne_iff_ne]; exact fun e => hs e.symm
            exact .inl ⟨181, by decide, use_seq false own (by omega) hok a b c d s _ ha1 hs1 hni us u1 u2 u3, refuse1_fn false own (by omega) a b c d s ha2 hs1⟩
      rcases hcase with ⟨E, hE, ub, rb⟩ | ⟨ha, hs, hlt', h48⟩
      · %STEPS(fe:11;ub:12;rr:13;rb:14;same_nil:15!g;se:15!g|unroll=1|with=k1, k2, k7, hE, wrI, bne_self_eq_false, eq_self|disch=omega)%
        · %END(3)%
        · exact hΨ _ ⟨(i + 1, own), hlt, hlen, oko⟩ (by simp only; omega) (St.le_of (by simp [leT]) (by simp [leH]))
      · have ha2 : (a == 0) = false := by simpa using ha
        have uo := use_ok false own hl1 oko hok a b c d s u0 u1 u2 u3 us ha hs hlt' h48
        have rb := refuse_ok false own hl1 oko a b c d s u0 u1 u2 u3 us ha2 hs hlt' h48
        have tl := insR_len ⟨a, b, c, d, 0, s + 1⟩ own false
        have tok := insR_ok (o := ⟨a, b, c, d, 0, s + 1⟩) ⟨u0, u1, u2, u3, ⟨Int.le_refl 0, by show (0 : Int) ≤ _; decide⟩, ⟨by show (0 : Int) ≤ s + 1; omega, by show s + 1 ≤ _; omega⟩⟩ own false oko
        have h48' := ((okTo_iff own _).1 hok).1
        generalize insR ⟨a, b, c, d, 0, s + 1⟩ own false = t at uo rb tl tok
        have st := same_eq false false t (by omega)
        have tlen : (rcN t).length = t.length * 6 := rcN_len t
        %STEPS(fe:11;uo:12!r(fun r => r);rr:13;rb:14;st:15!v;se:15!g|with=k1, k2, k7, wrI, bne_self_eq_false, eq_self, unC_map, flat_length pv_len|disch=omega)%
        · %END(3)%
        refine evC_upto t.length (fun k => ⟨%T(86|0:=nsl ex x|1:=asl ex' q|5:=nsl false own|8:=nsl false own|9:=.row 36 38 6 t.length|10:=vi .i64 0|11:=nsl false t|18:=asl ex' q|19:=vi .i64 q.length|20:=vi .i64 i|65:=vi .i64 t.length|66:=vi .i64 k)T%, [(36, rcN ((t.take k).map bump ++ t.drop k))]⟩) (St.le_of (by simp [leT]) (by simp [leH, hget, rcN])) ?_
        intro k hk Ψ hΨ hΨ'
        dsimp only at hΨ ⊢
        rcases Nat.lt_or_ge k t.length with hkt | hkt
        · obtain ⟨y, hty⟩ : ∃ y, t[k]? = some y := ⟨t[k], List.getElem?_eq_getElem hkt⟩
          have m1 : (decide ((k : Int) < (t.length : Int))) = true := by simpa using hkt
          have m7 : (k : Int) + 1 = ((k + 1 : Nat) : Int) := by omega
          have hdr : t.drop k = y :: t.drop (k + 1) := by
            obtain ⟨_, rfl⟩ := List.getElem?_eq_some_iff.1 hty
            exact List.drop_eq_getElem_cons hkt
          have hA : ((t.take k).map bump).length = k := by simp; omega
          have sC := spl_next ((t.take k).map bump) (t.drop (k + 1)) y (IntKind.u64.wrap (y.x + 7)) k hA
          have hnx : (t.take k).map bump ++ { y with x := IntKind.u64.wrap (y.x + 7) } :: t.drop (k + 1) = (t.take (k + 1)).map bump ++ t.drop (k + 1) := by
            rw [List.take_add_one, hty]; simp [bump]
          rw [hnx] at sC
          have gC : (rcN ((t.take k).map bump ++ y :: t.drop (k + 1)))[k * 6 + 5]? = some (vi .u64 y.x) := by
            have hl := rcN_len ((t.take k).map bump)
            rw [hA] at hl
            rw [show rcN ((t.take k).map bump ++ y :: t.drop (k + 1)) = (rcN ((t.take k).map bump) ++ [vi .u64 y.a, vi .u64 y.b, vi .u64 y.c, vi .u64 y.d, vi .u64 y.e]) ++ (vi .u64 y.x :: rcN (t.drop (k + 1))) from by simp [rcN, N6.pv]]
            rw [List.getElem?_append_right (by rw [List.length_append, hl]; simp)]
            rw [List.length_append, hl]
            simp
          have cl : (rcN ((t.take k).map bump ++ y :: t.drop (k + 1))).length = t.length * 6 := by
            rw [rcN_len]; simp; omega
          rw [hdr]
          generalize rcN ((t.take k).map bump ++ y :: t.drop (k + 1)) = C at gC cl sC
          %STEPS(|with=k1, m1, m7, gC, cl, wrI|disch=omega)%
          refine hΨ _ hkt (St.le_of (by simp [leT]) ?_)
          simp [leH, hget]
          simpa [spl] using sC
        · have m1 : (decide ((k : Int) < (t.length : Int))) = false := by simpa using hkt
          %STEPS(se:15|with=k1, k7, m1, wrI, bne_self_eq_false, eq_self|disch=omega)%
          exact hΨ _ ⟨(i + 1, t), hlt, by simp only; omega, tok⟩ (by simp only; omega) (St.le_of (by simp [leT]) (by simp [leH]))
    · have hok' : okTo own own.length = false := by simpa using hok
      rw [hok'] at rr
      have ub := use_bad false own hl1 a b c d s u1 u2 u3 us hok'
      %STEPS(fe:11;ub:12;rr:13;same_nil:15!g;se:15!g|unroll=1|with=k1, k2, k7, wrI, bne_self_eq_false, eq_self|disch=omega)%
      · %END(3)%
      · exact hΨ _ ⟨(i + 1, own), hlt, hlen, oko⟩ (by simp only; omega) (St.le_of (by simp [leT]) (by simp [leH]))
  · have k1 : (decide ((i : Int) < (q.length : Int))) = false := by simpa using hge
    %STEPS(|with=k1)%
    all_goals %END%
end Go.Proofs.Ytlkogofgemclfaa
