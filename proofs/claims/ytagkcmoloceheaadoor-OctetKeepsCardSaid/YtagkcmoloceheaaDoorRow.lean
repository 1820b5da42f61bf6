/-
  From the walk of a law to its row: what the arguments' readings say in the words of Base; the arguments read behind the call as before, whatever their types.
-/
import Derived.Test.YtagkcmoloceheaaDoorRows
import Derived.Test.YtagkcmoloceheaaDoorBase
import Derived.ProofKit
import Derived.OpenShut
import Derived.ChangeOld
import Derived.Deep.Slices
namespace Go.Proofs.YtagkcmoloceheaaDoor
open Go.RowKit Go.ChangeShapes Go.WideShapes Go.ChangeAt Go.Deep
set_option linter.unusedVariables false

section
variable {H : Type} {enc : TypeId × Value → H} {P : Program}

/-- what a reading of type t says: its cells are those of some a, and that is good -/
def Dec {α : Type} (P : Program) (t : TypeId) (sz : Nat) (f : α → List Value) (Good : α → Prop) : Prop :=
  P.cellsOf t = sz ∧ ∀ (H : Type) (enc : TypeId × Value → H) (w : World) (base : Nat) (spare : Nat → Bool) (held : Bool) (fuel : Nat) (cs : List Value) (x : DataW H × List MemPlace),
    DataW.trod enc P w base spare held fuel t cs = some x → ∃ a, cs = f a ∧ Good a

theorem dec_int {t : TypeId} {k : IntKind} (ht : P.underlying t = some (.int k)) (hc : P.cellsOf t = 1) : Dec P t 1 (fun n : Int => [.int k n]) (fun n => (Lit.int k n).wf = true) :=
  ⟨hc, fun H enc w base spare held fuel cs x h => by
    obtain ⟨n, rfl, _, hw⟩ := DataW.trod_int ht h
    exact ⟨n, rfl, hw⟩⟩
theorem dec_mono {α : Type} {t : TypeId} {sz : Nat} {f : α → List Value} {G G' : α → Prop} (h : Dec P t sz f G) (hg : ∀ a, G a → G' a) : Dec P t sz f G' :=
  ⟨h.1, fun H enc w base spare held fuel cs x hx => by
    obtain ⟨a, e, g⟩ := h.2 H enc w base spare held fuel cs x hx
    exact ⟨a, e, hg a g⟩⟩
theorem dec_map {α β : Type} {t : TypeId} {sz : Nat} {f : α → List Value} {G : α → Prop} (h : Dec P t sz f G) {f' : β → List Value} {G' : β → Prop} (hg : ∀ a, G a → ∃ b, f a = f' b ∧ G' b) : Dec P t sz f' G' :=
  ⟨h.1, fun H enc w base spare held fuel cs x hx => by
    obtain ⟨a, e, g⟩ := h.2 H enc w base spare held fuel cs x hx
    obtain ⟨b, e', g'⟩ := hg a g
    exact ⟨b, e.trans e', g'⟩⟩
theorem wf_u64 {n : Int} (h : (Lit.int .u64 n).wf = true) : 0 ≤ n ∧ n < 18446744073709551616 := by
  simp [Lit.wf, IntKind.min, IntKind.max, IntKind.signed, IntKind.bits] at h; omega
theorem wf_i64 {n : Int} (h : (Lit.int .i64 n).wf = true) : -9223372036854775808 ≤ n ∧ n ≤ 9223372036854775807 := by
  simp [Lit.wf, IntKind.min, IntKind.max, IntKind.signed, IntKind.bits] at h; omega
theorem wf_u8 {n : Int} (h : (Lit.int .u8 n).wf = true) : 0 ≤ n ∧ n < 256 := by
  simp [Lit.wf, IntKind.min, IntKind.max, IntKind.signed, IntKind.bits] at h; omega
theorem dec_u64 {t : TypeId} (ht : P.underlying t = some (.int .u64)) (hc : P.cellsOf t = 1) : Dec P t 1 (fun n : Nat => [.int .u64 (n : Int)]) (fun n => n < 18446744073709551616) :=
  dec_map (dec_int ht hc) fun n h => ⟨n.toNat, by have := wf_u64 h; rw [Int.toNat_of_nonneg (by omega)], by have := wf_u64 h; omega⟩
theorem dec_i64 {t : TypeId} (ht : P.underlying t = some (.int .i64)) (hc : P.cellsOf t = 1) : Dec P t 1 (fun n : Int => [.int .i64 n]) (fun n => -9223372036854775808 ≤ n ∧ n ≤ 9223372036854775807) :=
  dec_mono (dec_int ht hc) fun n h => wf_i64 h
theorem dec_u8 {t : TypeId} (ht : P.underlying t = some (.int .u8)) (hc : P.cellsOf t = 1) : Dec P t 1 (fun b : UInt8 => [.int .u8 (b.toNat : Int)]) (fun _ => True) :=
  dec_map (dec_int ht hc) fun n h => ⟨UInt8.ofNat n.toNat, by
    have := wf_u8 h
    simp only [List.cons.injEq, Value.int.injEq, true_and, and_true]
    rw [UInt8.toNat_ofNat']
    omega, trivial⟩
theorem u8s_sts (l : List UInt8) : sts (fun b : UInt8 => [Value.int .u8 (b.toNat : Int)]) l = u8s l := by
  unfold sts u8s
  induction l with
  | nil => rfl
  | cons a l ih => rw [List.flatMap_cons, ih]; rfl

/-- a struct of two fields -/
theorem dec_pair {α β : Type} {t : TypeId} {f0 f1 : Field} {s0 s1 : Nat} {f : α → List Value} {g : β → List Value} {G : α → Prop} {G' : β → Prop} (ht : P.underlying t = some (.struct #[f0, f1])) (hc : P.cellsOf t = s0 + s1)
    (h0 : Dec P f0.type s0 f G) (h1 : Dec P f1.type s1 g G') (o0 : f0.offset = 0) (o1 : f1.offset = s0) : Dec P t (s0 + s1) (fun x : α × β => f x.1 ++ g x.2) (fun x => G x.1 ∧ G' x.2) :=
  ⟨hc, fun H enc w base spare held fuel cs x hx => by
    obtain ⟨xs, n, _, _, hlen, hxl, hf⟩ := DataW.trod_struct ht hx
    have e0 := hf 0 f0 rfl
    have e1 := hf 1 f1 rfl
    have hxl' : xs.length = 2 := hxl
    rw [o0, h0.1, List.drop_zero, List.getElem?_eq_getElem (by omega)] at e0
    rw [o1, h1.1, List.getElem?_eq_getElem (by omega)] at e1
    obtain ⟨a, ha, ga⟩ := h0.2 H enc w base spare held n _ _ e0
    obtain ⟨b, hb, gb⟩ := h1.2 H enc w base spare held n _ _ e1
    refine ⟨(a, b), ?_, ga, gb⟩
    show cs = f a ++ g b
    rw [← ha, ← hb, List.take_of_length_le (l := cs.drop s0) (by rw [List.length_drop]; omega), List.take_append_drop]⟩

theorem choose_list {α : Type} {p : Nat → α → Prop} (n : Nat) (h : ∀ i, i < n → ∃ b, p i b) : ∃ l : List α, l.length = n ∧ ∀ i b, l[i]? = some b → p i b := by
  induction n with
  | zero => exact ⟨[], rfl, by simp⟩
  | succ k ih =>
    obtain ⟨l, hl, hp⟩ := ih fun i hi => h i (by omega)
    obtain ⟨b, hb⟩ := h k (by omega)
    refine ⟨l ++ [b], by simp [hl], fun i b' hib => ?_⟩
    rw [List.getElem?_append] at hib
    split at hib
    · exact hp i b' hib
    · have hi0 : i = k := by
        have := (List.getElem?_eq_some_iff.1 hib).1
        simp at this; omega
      subst hi0
      rw [hl, Nat.sub_self] at hib
      simp at hib
      subst hib
      exact hb
/-- an array -/
theorem dec_arr {α : Type} {t e : TypeId} {n sz : Nat} {f : α → List Value} {G : α → Prop} (ht : P.underlying t = some (.array n e)) (hc : P.cellsOf t = n * sz) (hs : 0 < sz)
    (he : Dec P e sz f G) (hf : ∀ a, (f a).length = sz) : Dec P t (n * sz) (sts f) (fun l => l.length = n ∧ ∀ a ∈ l, G a) :=
  ⟨hc, fun H enc w base spare held fuel cs x hx => by
    obtain ⟨xs, m, _, _, hlen, hxl, hi⟩ := DataW.trod_array ht hx
    rw [hc] at hlen
    obtain ⟨l, hl, hp⟩ := choose_list (p := fun i b => G b ∧ (cs.drop (i * sz)).take sz = f b) n fun i hin => by
      have h1 := hi i hin
      rw [he.1, List.getElem?_eq_getElem (by omega)] at h1
      obtain ⟨b, hb, hg⟩ := he.2 H enc w base spare held m _ _ h1
      exact ⟨b, hg, hb⟩
    refine ⟨l, ?_, hl, fun a ha => ?_⟩
    · apply List.ext_getElem?
      intro j
      by_cases hj : j < n * sz
      · have hq : j / sz < n := Nat.div_lt_of_lt_mul (by rw [Nat.mul_comm]; exact hj)
        have hr : j % sz < sz := Nat.mod_lt _ hs
        have hje : j = j / sz * sz + j % sz := by rw [Nat.mul_comm]; exact (Nat.div_add_mod j sz).symm
        have hk : l[j / sz]? = some (l[j / sz]'(by omega)) := List.getElem?_eq_getElem (by omega)
        have h1 := sts_get hf hk hr
        rw [← hje] at h1
        rw [h1, ← (hp _ _ hk).2, List.getElem?_take, if_pos hr, List.getElem?_drop, ← hje]
      · rw [List.getElem?_eq_none (by omega), List.getElem?_eq_none (by rw [sts_length f sz hf, hl]; omega)]
    · obtain ⟨i, hi'⟩ := List.mem_iff_getElem?.1 ha
      exact (hp i a hi').1⟩
theorem dec_arr2 {α : Type} {t e : TypeId} {sz : Nat} {f : α → List Value} {G : α → Prop} (ht : P.underlying t = some (.array 2 e)) (hc : P.cellsOf t = 2 * sz) (hs : 0 < sz)
    (he : Dec P e sz f G) (hf : ∀ a, (f a).length = sz) : Dec P t (2 * sz) (fun x : α × α => f x.1 ++ f x.2) (fun x => G x.1 ∧ G x.2) :=
  dec_map (dec_arr ht hc hs he hf) fun l ⟨hl, hg⟩ => by
    match l, hl with
    | [a, b], _ => exact ⟨(a, b), by simp [sts], hg a (by simp), hg b (by simp)⟩
theorem dec_arr4 {α : Type} {t e : TypeId} {sz : Nat} {f : α → List Value} {G : α → Prop} (ht : P.underlying t = some (.array 4 e)) (hc : P.cellsOf t = 4 * sz) (hs : 0 < sz)
    (he : Dec P e sz f G) (hf : ∀ a, (f a).length = sz) : Dec P t (4 * sz) (fun x : α × α × α × α => f x.1 ++ (f x.2.1 ++ (f x.2.2.1 ++ f x.2.2.2))) (fun x => G x.1 ∧ G x.2.1 ∧ G x.2.2.1 ∧ G x.2.2.2) :=
  dec_map (dec_arr ht hc hs he hf) fun l ⟨hl, hg⟩ => by
    match l, hl with
    | [a, b, c, d], _ => exact ⟨(a, b, c, d), by simp [sts], hg a (by simp), hg b (by simp), hg c (by simp), hg d (by simp)⟩
theorem okWide_array {w : World} {r : Reach} {base : Nat} {t e : TypeId} {n : Nat} {v : Value} (ht : P.underlying t = some (.array n e)) (h : Value.okWide P w r base t v) : ∃ cs, v = .agg cs := by
  simp only [Value.okWide, ht] at h
  obtain ⟨cs, h1, _⟩ := h
  exact ⟨cs, h1⟩
/-- a struct or an array by value -/
theorem open_aggV {α : Type} {w : World} {base : Nat} {spare : Nat → Bool} {held : Bool} {t : TypeId} {sz : Nat} {f : α → List Value} {G : α → Prop} {cs : Array Value} {d : DataW H} {ps : List MemPlace}
    (hd : Dec P t sz f G) (h : DataW.Trod enc P w base spare held t (.agg cs) d ps) : ∃ a, cs = (f a).toArray ∧ G a := by
  obtain ⟨fuel, h⟩ := h
  obtain ⟨a, ha, hg⟩ := hd.2 H enc w base spare held fuel _ _ h
  refine ⟨a, ?_, hg⟩
  rw [← ha]
  simp [Value.cells]

/-- a slice of elements whose cells are known by their readings -/
theorem open_sl {α : Type} {w : World} {base : Nat} {spare : Nat → Bool} {held : Bool} {t e : TypeId} {sz : Nat} {f : α → List Value} {G : α → Prop} {A : Option Addr} {n c : Nat} {d : DataW H} {ps : List MemPlace}
    (ht : P.underlying t = some (.slice e)) (he : Dec P e sz f G) (hf : ∀ a, (f a).length = sz) (hs : 0 < sz) (h : DataW.Trod enc P w base spare held t (.slice A n c) d ps) :
    ∃ l : List α, Sl w w.heap.size sz A n c (sts f l) ∧ ∀ a ∈ l, G a := by
  obtain ⟨fuel, h⟩ := h
  rcases open_slice ht h with ⟨hcs, _⟩ | ⟨a, len, cap, m, fu, D, Pl, hcs, hb, hl, hm, hmm, _, hi⟩
  · simp only [Value.cells, List.cons.injEq, Value.slice.injEq, and_true] at hcs
    obtain ⟨rfl, rfl, rfl⟩ := hcs
    exact ⟨[], Sl.nil, by simp⟩
  · simp only [Value.cells, List.cons.injEq, Value.slice.injEq, and_true] at hcs
    obtain ⟨rfl, rfl, rfl⟩ := hcs
    have hnm : n ≤ m := by rw [hmm]; split <;> omega
    have key : ∀ i, i < n → ∃ b : α, G b ∧ ∀ j, j < sz → w.cell? (a.add (i * sz + j)) = (f b)[j]? := by
      intro i hin
      obtain ⟨cs', hc', ht'⟩ := hi i (by omega)
      rw [he.1] at hc'
      obtain ⟨b, hb', hg⟩ := he.2 H enc w base spare held fu cs' _ ht'
      obtain ⟨_, hcl, hat⟩ := World.cells?_some hc'
      refine ⟨b, hg, fun j hj => ?_⟩
      rw [← Go.Deep.add_add, hat j hj, hb']
    have key2 : ∃ l : List α, l.length = n ∧ ∀ i b, l[i]? = some b → G b ∧ ∀ j, j < sz → w.cell? (a.add (i * sz + j)) = (f b)[j]? := by
      have : ∀ k, k ≤ n → ∃ l : List α, l.length = k ∧ ∀ i b, l[i]? = some b → G b ∧ ∀ j, j < sz → w.cell? (a.add (i * sz + j)) = (f b)[j]? := by
        intro k
        induction k with
        | zero => exact fun _ => ⟨[], rfl, by simp⟩
        | succ k ih =>
          intro hk
          obtain ⟨l, hl', hp⟩ := ih (by omega)
          obtain ⟨b, hg, hb'⟩ := key k (by omega)
          refine ⟨l ++ [b], by simp [hl'], fun i b' hib => ?_⟩
          rw [List.getElem?_append] at hib
          split at hib
          · exact hp i b' hib
          · have hi0 : i = k := by
              have := (List.getElem?_eq_some_iff.1 hib).1
              simp at this; omega
            subst hi0
            rw [hl', Nat.sub_self] at hib
            simp at hib
            subst hib
            exact ⟨hg, hb'⟩
      exact this n (Nat.le_refl n)
    obtain ⟨l, hll, hp⟩ := key2
    refine ⟨l, ⟨hl, hm, (fun hA => by cases hA), by rw [sts_length f sz hf, hll], fun hn => ?_⟩, fun b hb' => ?_⟩
    · have h00 : l[0]? = some (l[0]'(by omega)) := List.getElem?_eq_getElem (by omega)
      have hc0 := (hp 0 _ h00).2 0 hs
      rw [Nat.zero_mul, Nat.zero_add, add_zero'] at hc0
      have hf0 : (f (l[0]'(by omega)))[0]? = some ((f (l[0]'(by omega)))[0]'(by rw [hf]; exact hs)) := List.getElem?_eq_getElem _
      rw [hf0] at hc0
      have hspot := World.cell?_spot hc0
      obtain ⟨ab, ao, asp⟩ := a
      simp only at hspot
      subst hspot
      refine ⟨ab, ao, rfl, block_lt_of_cell hc0, fun j u hu => ?_⟩
      have hjl : j < n * sz := by
        have := (List.getElem?_eq_some_iff.1 hu).1
        rw [sts_length f sz hf, hll] at this
        exact this
      have hq : j / sz < n := Nat.div_lt_of_lt_mul (by rw [Nat.mul_comm]; exact hjl)
      have hr : j % sz < sz := Nat.mod_lt _ hs
      have hj : j = j / sz * sz + j % sz := by rw [Nat.mul_comm]; exact (Nat.div_add_mod j sz).symm
      have hk : l[j / sz]? = some (l[j / sz]'(by omega)) := List.getElem?_eq_getElem (by omega)
      have h1 := sts_get hf hk hr
      rw [← hj, hu] at h1
      have h2 := (hp _ _ hk).2 _ hr
      rw [← hj, add_none, ← h1] at h2
      exact h2
    · obtain ⟨i, hi'⟩ := List.mem_iff_getElem?.1 hb'
      exact (hp i b hi').1

theorem open_sl8 {w : World} {base : Nat} {spare : Nat → Bool} {held : Bool} {t e : TypeId} {A : Option Addr} {n c : Nat} {d : DataW H} {ps : List MemPlace}
    (ht : P.underlying t = some (.slice e)) (he : P.underlying e = some (.int .u8)) (hc : P.cellsOf e = 1) (h : DataW.Trod enc P w base spare held t (.slice A n c) d ps) :
    ∃ l : List UInt8, Sl w w.heap.size 1 A n c (u8s l) := by
  obtain ⟨l, hl, _⟩ := open_sl ht (dec_u8 he hc) (fun _ => rfl) (by omega) h
  rw [u8s_sts] at hl
  exact ⟨l, hl⟩

theorem trodAll_lt {w : World} {base : Nat} {spare : Nat → Bool} {held : Bool} : ∀ {ts : List TypeId} {vs : List Value} {ds : List (DataW H)} {ps : List MemPlace}, DataW.TrodAll enc P w base spare held ts vs ds ps → ∀ x ∈ ps, x.block < w.heap.size
  | [], [], [], ps, h => by intro x hx; have h' : ps = [] := h; rw [h'] at hx; cases hx
  | t :: ts, v :: vs, d :: ds, ps, h => by
    obtain ⟨p, q, ⟨m, hm⟩, hq, rfl⟩ := h
    intro x hx
    rcases List.mem_append.1 hx with hx | hx
    · exact DataW.trod_lt m _ _ _ hm x hx
    · exact trodAll_lt hq x hx
  | [], _ :: _, _, _, h => h.elim
  | [], [], _ :: _, _, h => h.elim
  | _ :: _, [], _, _, h => h.elim
  | _ :: _, _ :: _, [], _, h => h.elim

/-- the arguments read behind the call as before -/
theorem trodAll_stays (hl : laidOutB P = true) {W W' : World} (hb : Below W.heap.size W W') : ∀ {ts : List TypeId} {vs : List Value} {ds : List (DataW H)} {ps : List MemPlace},
    (∀ t ∈ ts, P.readableRec t = true ∧ t < P.types.size) → DataW.TrodAll enc P W 0 (fun _ => true) true ts vs ds ps → DataW.TrodAll enc P W' 0 (fun b => decide (b < W.heap.size)) true ts vs ds ps
  | [], [], [], _, _, h => h
  | t :: ts, v :: vs, d :: ds, ps, hr, h => by
    obtain ⟨p, q, ⟨m, hm⟩, hq, rfl⟩ := h
    have h1 := hr t (List.mem_cons_self ..)
    exact ⟨p, q, Below.trod hl h1.1 h1.2 ⟨m, hm⟩ hb (fun x hx => DataW.trod_lt m _ _ _ hm x hx), trodAll_stays hl hb (fun t ht => hr t (List.mem_cons_of_mem _ ht)) hq, rfl⟩
  | [], _ :: _, _, _, _, h => h.elim
  | [], [], _ :: _, _, _, h => h.elim
  | _ :: _, [], _, _, _, h => h.elim
  | _ :: _, _ :: _, [], _, _, h => h.elim

theorem trodAll_size : ∀ {w : World} {base : Nat} {spare : Nat → Bool} {held : Bool} {ts : List TypeId} {vs : List Value} {ds : List (DataW H)} {ps : List MemPlace}, DataW.TrodAll enc P w base spare held ts vs ds ps → ds.length = ts.length
  | _, _, _, _, [], [], [], _, _ => rfl
  | _, _, _, _, t :: ts, v :: vs, d :: ds, _, h => by
    obtain ⟨p, q, _, hq, _⟩ := h
    simp [trodAll_size hq]
  | _, _, _, _, [], _ :: _, _, _, h => h.elim
  | _, _, _, _, [], [], _ :: _, _, h => h.elim
  | _, _, _, _, _ :: _, [], _, _, h => h.elim
  | _, _, _, _, _ :: _, _ :: _, [], _, h => h.elim

/-- the row's contract, out of the walk -/
theorem law_post {W : World} {args : Array Value} {ds gs : List (DataW H)} {before : List MemPlace} {fn : Func} {s : ChangeSpec} {f : Nat} {tb : TypeId} (hl : laidOutB P = true) (hvars : s.vars = []) (htb : P.underlying tb = some .bool) (hrt : fn.resultTypes = #[tb])
    (hr : ∀ t ∈ fn.params.toList, P.readableRec t = true ∧ t < P.types.size) (hfn : ∀ ds : List (DataW H), ds.length = fn.params.toList.length → s.fn H ds = { results := [.lit (.bool true)], args := ds })
    (hW : DataW.Whole enc P fn.params.toList s.vars false W args.toList ds gs before) (hc : Calls P f args W (RetT W true)) :
    Calls P f args W fun e W' => ∃ v, e = .returned v ∧ s.post enc P fn false true false false W args v W' := by
  refine hc.mono fun e W' h => ?_
  obtain ⟨he, bel⟩ := h
  subst he
  have hW' := hW
  obtain ⟨p, q, hA, hV, rfl, hfz, hnd⟩ := hW
  rw [hvars] at hV
  obtain ⟨rfl, rfl⟩ := trodVars_none hV
  have hfd := hfn ds (trodAll_size hA)
  refine ⟨_, rfl, ds, [], p ++ [], [], p, [], hW', ?_, ?_, ?_, bel.frame _, fun h => by cases h⟩
  · rw [hrt, List.append_nil, hfd]
    exact trodAll_mk1 (shut_bool htb _)
  · rw [List.append_nil, hfd]
    exact trodAll_stays hl bel hr hA
  · rw [hvars, List.append_nil, hfd]
    rfl
end
end Go.Proofs.YtagkcmoloceheaaDoor
