/-
  Code over abstract states: what a body does, reckoned; and that it does so. No program in sight.
-/
import Derived.Test.YtiggambibcohcaaAvI
namespace Go.Proofs.Ytiggambibcohcaa
open Go.RowKit
set_option linter.unusedSimpArgs false
set_option linter.unusedVariables false

def rowOk (e sz : Nat) : AV → Bool
  | .row r e' sz' _ => e' == e && sz' == sz
  | _ => true
def undT (P : Program) (t : TypeId) : Bool := (P.underlying t).isSome
/-- one operation, reckoned (K: what has to hold of the state behind it) -/
def evO (P : Program) (o : Oper) (σ : St) (K : St → Prop) : Prop :=
  match o.op with
  | .move x => okConst x = true ∧ K (σ.put o.dst (σ.ev x))
  | .assign x => okConst x = true ∧ K (σ.put o.dst (σ.ev x))
  | .pick c x y => okConst c = true ∧ okConst x = true ∧ okConst y = true ∧ match σ.ev c with
    | .c (.v (.bool t)) => K (σ.put o.dst (pickAV t (σ.ev x) (σ.ev y)))
    | _ => False
  | .binOp op t x y _ => okConst x = true ∧ okConst y = true ∧ match σ.ev x, σ.ev y with
    | .c (.v (.bool u)), .c (.v (.bool v)) => (op = .eql ∨ op = .neq) ∧ boolT P t = true ∧ K (σ.put o.dst (.c (.v (.bool (if op = .eql then u == v else u != v)))))
    | .c (.v u), .c (.v v) => match bop op u v with
      | some r => K (σ.put o.dst (.c (.v r)))
      | none => OpA P o σ K
    | .agg cs, .agg ds => match eqAV cs ds with
      | some r => (op = .eql ∨ op = .neq) ∧ eqTy P 6 t = true ∧ aggT P t = some true ∧ szT P t = some cs.length ∧ cs.length = ds.length ∧ P.eqGuardType P.depth t = false ∧ K (σ.put o.dst (.c (.v (.bool (if op = .eql then r else !r)))))
      | none => False
    | _, _ => OpA P o σ K
  | .unOp op t x => okConst x = true ∧ match op, σ.ev x with
    | .not, .c (.v (.bool b)) => K (σ.put o.dst (.c (.v (.bool (!b)))))
    | .neg, .c (.v (.int k n)) => K (σ.put o.dst (.c (.v (.int k (k.wrap (0 - n))))))
    | .xor, .c (.v (.int k n)) => K (σ.put o.dst (.c (.v (.int k (k.wrap (BitVec.ofInt k.bits (if k.signed then -1 else k.max) ^^^ BitVec.ofInt k.bits n).toNat)))))
    | _, _ => False
  | .convert s d x => okConst x = true ∧ undT P s = true ∧ match intT P d, σ.ev x with
    | some k', .c (.v (.int k n)) => K (σ.put o.dst (.c (.v (.int k' (k'.wrap n)))))
    | _, _ => False
  | .extract x k => okConst x = true ∧ match σ.ev x with
    | .tup xs => match xs[k]? with
      | some y => K (σ.put o.dst y)
      | none => False
    | _ => False
  | .nilCheck x => okConst x = true ∧ match σ.ev x with
    | .ptr r off => K (σ.put o.dst (.ptr r off))
    | .fn f cs => K (σ.put o.dst (.fn f cs))
    | _ => False
  | .makeFunc (.func f) first caps => first = #[] ∧ caps.toList.all okConst = true ∧ K (σ.put o.dst (.fn f (caps.toList.map σ.ev)))
  | .load t x => okConst x = true ∧ match σ.ev x, szT P t, aggT P t with
    | .ptr r off, some s, some true => match hget σ.H r with
      | some cs => off + s ≤ cs.length ∧ 0 < s ∧ K (σ.put o.dst (.agg ((cs.drop off).take s)))
      | none => False
    | .ptr r off, some s, some false => match hget σ.H r with
      | some cs => match cs[off]? with
        | some y => K (σ.put o.dst y)
        | none => False
      | none => False
    | .ep cs, some s, some true => s ≤ cs.length ∧ K (σ.put o.dst (.agg ((cs.take s).map .c)))
    | .ep cs, some s, some false => match cs[0]? with
      | some y => K (σ.put o.dst (.c y))
      | none => False
    | _, _, _ => False
  | .fieldAddr t x k => okConst x = true ∧ match σ.ev x, fldT P t k with
    | .ptr r off, some (ofs, s, _) => s ≠ 0 ∧ K (σ.put o.dst (.ptr r (off + ofs)))
    | .ep cs, some (ofs, s, _) => s ≠ 0 ∧ ofs < cs.length ∧ K (σ.put o.dst (.ep (cs.drop ofs)))
    | _, _ => False
  | .field t x k => okConst x = true ∧ match σ.ev x, fldT P t k with
    | .agg cs, some (ofs, s, true) => K (σ.put o.dst (.agg ((cs.drop ofs).take s)))
    | .agg cs, some (ofs, s, false) => match cs[ofs]? with
      | some y => K (σ.put o.dst y)
      | none => False
    | _, _ => False
  | .alloc t => match o.dst, zeroT P t with
    | some d, some z => σ.free d = true ∧ d < 1000 ∧ z.all (·.oneCell') = true ∧ K ((St.mk σ.T (hput σ.H d (z.map fun x => .c (.v x)))).put (some d) (.ptr d 0))
    | _, _ => False
  | .box t x => okConst x = true ∧ match o.dst, (σ.ev x).cells with
    | some d, some ys => σ.free d = true ∧ d < 1000 ∧ AV.refsL d ys = false ∧ K ((St.mk σ.T (hput σ.H d ys)).put (some d) (.ptr d 0))
    | _, _ => False
  | .store t p x => okConst p = true ∧ okConst x = true ∧ o.dst = none ∧ match σ.ev p, (σ.ev x).cells with
    | .ptr r off, some ys => match hget σ.H r with
      | some cs => szT P t = some ys.length ∧ off + ys.length ≤ cs.length ∧ 0 < ys.length ∧ K ⟨σ.T, hput σ.H r (spl cs off ys)⟩
      | none => False
    | _, _ => False
  | .indexAddr t x i => okConst x = true ∧ okConst i = true ∧ match σ.ev x, σ.ev i with
    | .row r _ sz n, .c (.v (.int _ m)) => (slcT P t).map (fun p => p.2.1) = some sz ∧ 0 ≤ m ∧ m < n ∧ K (σ.put o.dst (.ptr r (m.toNat * sz)))
    | .c (.sl _ sz n cs), .c (.v (.int _ m)) => (slcT P t).map (fun p => p.2.1) = some sz ∧ 0 < sz ∧ 0 ≤ m ∧ m < n ∧ K (σ.put o.dst (.ep ((cs.drop (m.toNat * sz)).take sz)))
    | .ptr r off, .c (.v (.int _ m)) => match arrT P t with
      | some (n, sz, _) => 0 ≤ m ∧ m < n ∧ K (σ.put o.dst (.ptr r (off + m.toNat * sz)))
      | none => False
    | _, _ => OpA P o σ K
  | .index t x i => okConst x = true ∧ okConst i = true ∧ match σ.ev x, σ.ev i, arrT P t with
    | .agg cs, .c (.v (.int _ m)), some (n, sz, true) => 0 ≤ m ∧ m < n ∧ K (σ.put o.dst (.agg ((cs.drop (m.toNat * sz)).take sz)))
    | .agg cs, .c (.v (.int _ m)), some (n, sz, false) => 0 ≤ m ∧ m < n ∧ match cs[m.toNat * sz]? with
      | some y => K (σ.put o.dst y)
      | none => False
    | _, _, _ => False
  | .build t parts => parts.toList.all (fun p => okConst p.2) = true ∧ match plT P t, zeroT P t with
    | some pl, some z => z.all (·.oneCell') = true ∧ match fillA pl (z.map fun x => .c (.v x)) (parts.toList.map fun x => (x.1, σ.ev x.2)) with
      | some ds => K (σ.put o.dst (.agg ds))
      | none => False
    | _, _ => False
  | .buildSlice t len parts => parts.toList.all (fun p => okConst p.2) = true ∧ match o.dst, slcZ P t with
    | some d, some (e, sz, _) => match zeroT P e, fillA (plsFrom sz 0 len) (List.replicate (len * sz) .any) (parts.toList.map fun x => (x.1, σ.ev x.2)) with
      | some z, some ds => z.all (·.oneCell') = true ∧ len * sz ≤ 16777216 ∧ 0 < sz ∧ σ.free d = true ∧ d < 1000 ∧ ds.length = len * sz ∧ AV.refsL d ds = false ∧ K ((St.mk σ.T (hput σ.H d ds)).put (some d) (.row d e sz len))
      | _, _ => False
    | _, _ => False
  | .slice t x lo hi mx => okConst x = true ∧ lo.toList.all okConst = true ∧ hi.toList.all okConst = true ∧ mx.toList.all okConst = true ∧ (!mx.isSome || hi.isSome) = true ∧ match σ.ev x with
    | .c (.sl _ sz n cs) => match bnd σ.ev 0 lo, bnd σ.ev n hi, bnd σ.ev n mx with
      | some l, some h, some m => (slcT P t).map (fun p => p.2.1) = some sz ∧ 0 ≤ l ∧ l ≤ h ∧ h ≤ n ∧ (mx.isSome = true → h ≤ m ∧ m ≤ n) ∧
        K (σ.put o.dst (.c (.sl (tightB mx m h) sz (h.toNat - l.toNat) ((cs.drop (l.toNat * sz)).take ((h.toNat - l.toNat) * sz)))))
      | _, _, _ => False
    | _ => OpA P o σ K
  | .call c => match c.callee, c.args.toList, c.argTypes.toList with
    | .builtin .len, [x], [t] => okConst x = true ∧ (slcT P t).isSome = true ∧ match lenA (σ.ev x) with
      | some n => K (σ.put o.dst (.c (.v (.int .i64 n))))
      | none => False
    | .builtin .min, [x, y], _ => okConst x = true ∧ okConst y = true ∧ match σ.ev x, σ.ev y with
      | .c (.v (.int k m)), .c (.v (.int _ n)) => K (σ.put o.dst (.c (.v (.int k (if n < m then n else m)))))
      | _, _ => False
    | .builtin .append, [x, y], [t, t'] => match slcZ P t, σ.dst (σ.ev x), σ.src (σ.ev y), o.dst with
      | some (e, sz, by_), some (rr, n, cs), some (m, ds), some d => t = t' ∧ okConst x = true ∧ okConst y = true ∧ 0 < sz ∧ 0 < by_ ∧ rowOk e sz (σ.ev x) = true ∧ cs.length = n * sz ∧ ds.length = m * sz ∧ (n + m) * by_ ≤ 140737488355328 ∧ σ.free d = true ∧ d < 1000 ∧ AV.refsL d cs = false ∧ AV.refsL d ds = false ∧
        K ((St.mk σ.T (hput (hdelO σ.H rr) d (cs ++ ds))).put (some d) (.row d e sz (n + m)))
      | _, _, _, _ => OpA P o σ K
    | _, _, _ => OpA P o σ K
  | _ => OpA P o σ K
theorem slcT_of {P : Program} {t sz : Nat} (h : (slcT P t).map (fun p => p.2.1) = some sz) : ∃ e by_, slcT P t = some (e, sz, by_) := by
  cases hs : slcT P t with
  | none => rw [hs] at h; cases h
  | some p => obtain ⟨e, s, b⟩ := p; rw [hs] at h; simp at h; subst h; exact ⟨e, b, rfl⟩
theorem evO_sound {P : Program} {o : Oper} {σ : St} {K : St → Prop} (h : evO P o σ K) : OpA P o σ K := by
  unfold evO at h
  split at h
  · rename_i x ho; exact opA_move (.inl ho) h.1 h.2
  · rename_i x ho; exact opA_move (.inr ho) h.1 h.2
  · rename_i c x y ho
    obtain ⟨h1, h2, h3, h⟩ := h
    split at h
    · rename_i t ht; exact opA_pick ho h2 h3 h1 ht h
    · exact h.elim
  · rename_i op t x y t' ho
    obtain ⟨h1, h2, h⟩ := h
    split at h
    · rename_i u v e1 e2; exact opA_eqb h.1 ho h.2.1 h1 h2 e1 e2 h.2.2
    · rename_i u v _ e1 e2
      split at h
      · rename_i r hr; exact opA_bin ho h1 h2 e1 e2 hr h
      · exact h
    · rename_i cs ds e1 e2
      split at h
      · rename_i r hr
        obtain ⟨g1, g2, g3, g4, g5, g6, g7⟩ := h
        exact opA_eqs 6 g1 ho g2 g3 g4 g5 (by omega) g6 h1 h2 e1 e2 hr g7
      · exact h.elim
    · exact h
  · rename_i op t x ho
    obtain ⟨h1, h⟩ := h
    split at h
    · rename_i b e; exact opA_not ho h1 e h
    · rename_i k n e; exact opA_neg ho h1 e h
    · rename_i k n e; exact opA_xor ho h1 e h
    · exact h.elim
  · rename_i s d x ho
    obtain ⟨h1, h2, h⟩ := h
    split at h
    · rename_i k' k n e1 e2; exact opA_conv ho e1 h2 h1 e2 h
    · exact h.elim
  · rename_i x k ho
    obtain ⟨h1, h⟩ := h
    split at h
    · rename_i xs e
      split at h
      · rename_i y hy; exact opA_extract ho h1 e hy h
      · exact h.elim
    · exact h.elim
  · rename_i x ho
    obtain ⟨h1, h⟩ := h
    split at h
    · rename_i r off e; exact opA_nilCheck ho h1 e h
    · rename_i f cs e; exact opA_nilCheck_fn ho h1 e h
    · exact h.elim
  · rename_i f first caps ho
    obtain ⟨rfl, h1, h⟩ := h
    exact opA_makeFunc ho h1 h
  · rename_i t x ho
    obtain ⟨h1, h⟩ := h
    split at h
    · rename_i r off s e1 e2 e3
      split at h
      · rename_i cs hr; exact opA_load_ptr ho h1 e1 hr e2 e3 (y := .agg ((cs.drop off).take s)) (by rw [if_pos rfl]; exact ⟨h.1, h.2.1, rfl⟩) h.2.2
      · exact h.elim
    · rename_i r off s e1 e2 e3
      split at h
      · rename_i cs hr
        split at h
        · rename_i y hy; exact opA_load_ptr ho h1 e1 hr e2 e3 (y := y) (by simpa using hy) h
        · exact h.elim
      · exact h.elim
    · rename_i cs s e1 e2 e3
      exact opA_load_ep ho h1 e1 e2 e3 (y := .agg ((cs.take s).map .c)) (by rw [if_pos rfl]; exact ⟨h.1, rfl⟩) h.2
    · rename_i cs s e1 e2 e3
      split at h
      · rename_i y hy; exact opA_load_ep ho h1 e1 e2 e3 (y := .c y) (by simp [hy]) h
      · exact h.elim
    · exact h.elim
  · rename_i t x k ho
    obtain ⟨h1, h⟩ := h
    split at h
    · rename_i r off ofs s g e1 e2; exact opA_field_ptr ho h1 e1 e2 h.1 h.2
    · rename_i cs ofs s g e1 e2; exact opA_field_ep ho h1 e1 e2 h.1 h.2.1 h.2.2
    · exact h.elim
  · rename_i t x k ho
    obtain ⟨h1, h⟩ := h
    split at h
    · rename_i cs ofs s e1 e2; exact opA_field_agg ho h1 e1 e2 (y := .agg ((cs.drop ofs).take s)) (by simp) h
    · rename_i cs ofs s e1 e2
      split at h
      · rename_i y hy; exact opA_field_agg ho h1 e1 e2 (y := y) (by simpa using hy) h
      · exact h.elim
    · exact h.elim
  · rename_i t ho
    split at h
    · rename_i d z e1 e2; exact opA_alloc ho e1 h.1 h.2.1 e2 h.2.2.1 (by rw [e1]; exact h.2.2.2)
    · exact h.elim
  · rename_i t x ho
    obtain ⟨h1, h⟩ := h
    split at h
    · rename_i d ys e1 e2; exact opA_box ho h1 e1 h.1 h.2.1 e2 h.2.2.1 (by rw [e1]; exact h.2.2.2)
    · exact h.elim
  · rename_i t p x ho
    obtain ⟨h1, h2, h3, h⟩ := h
    split at h
    · rename_i r off ys e1 e2
      split at h
      · rename_i cs hr; exact opA_store ho h1 h2 e1 hr e2 h.1 h.2.1 h.2.2.1 h3 h.2.2.2
      · exact h.elim
    · exact h.elim
  · rename_i t x i ho
    obtain ⟨h1, h2, h⟩ := h
    split at h
    · rename_i r e sz n k m e1 e2
      obtain ⟨hs, g1, g2, g3⟩ := h
      obtain ⟨_, _, hs⟩ := slcT_of hs
      exact opA_index_row ho h1 h2 e1 e2 hs ⟨g1, g2⟩ g3
    · rename_i ex sz n cs k m e1 e2
      obtain ⟨hs, g0, g1, g2, g3⟩ := h
      obtain ⟨_, _, hs⟩ := slcT_of hs
      exact opA_index_sl ho h1 h2 e1 e2 hs g0 ⟨g1, g2⟩ g3
    · rename_i r off k m e1 e2
      split at h
      · rename_i n sz g hs; exact opA_index_arr ho h1 h2 e1 e2 hs ⟨h.1, h.2.1⟩ h.2.2
      · exact h.elim
    · exact h
  · rename_i t x i ho
    obtain ⟨h1, h2, h⟩ := h
    split at h
    · rename_i cs k m n sz e1 e2 e3; exact opA_index_agg ho h1 h2 e1 e2 e3 ⟨h.1, h.2.1⟩ (y := .agg ((cs.drop (m.toNat * sz)).take sz)) (by simp) h.2.2
    · rename_i cs k m n sz e1 e2 e3
      obtain ⟨g1, g2, h⟩ := h
      split at h
      · rename_i y hy; exact opA_index_agg ho h1 h2 e1 e2 e3 ⟨g1, g2⟩ (y := y) (by simpa using hy) h
      · exact h.elim
    · exact h.elim
  · rename_i t parts ho
    obtain ⟨h0, h⟩ := h
    split at h
    · rename_i pl z e1 e2
      obtain ⟨h1, h⟩ := h
      split at h
      · rename_i ds hf; exact opA_build ho h0 e1 e2 h1 hf h
      · exact h.elim
    · exact h.elim
  · rename_i t len parts ho
    obtain ⟨h0, h⟩ := h
    split at h
    · rename_i d e sz by_ e1 e2
      split at h
      · rename_i z ds e3 e4
        obtain ⟨g1, g2, g3, g4, g5, g6, g7, g8⟩ := h
        have hp : plsFrom sz 0 len = (List.range len).map fun k => (k * sz, sz) := by rw [plsFrom_eq]; simp
        rw [hp] at e4
        exact opA_buildSlice ho h0 e2 e3 g1 g2 g3 e1 g4 g5 e4 g6 g7 (by rw [e1]; exact g8)
      · exact h.elim
    · exact h.elim
  · rename_i t x lo hi mx ho
    obtain ⟨h0, h1, h2, h3, h4, h⟩ := h
    split at h
    · rename_i ex sz n cs e1
      split at h
      · rename_i l hh m e2 e3 e4
        obtain ⟨g0, g1, g2, g3, g4, g5⟩ := h
        obtain ⟨_, _, hs⟩ := slcT_of g0
        exact opA_slice ho h0 h1 h2 h3 hs (AV.le_of e1) e2 e3 e4 (fun hm => by rw [hm] at h4; simpa using h4) ⟨g1, g2, g3, g4⟩ g5
      · exact h.elim
    · exact h
  · rename_i c ho
    have one : ∀ {α : Type} {xs : Array α} {l : List α}, xs.toList = l → xs = l.toArray := fun h => by rw [← h]
    split at h
    · rename_i x t e1 e2 e3
      obtain ⟨h1, h2, h⟩ := h
      split at h
      · rename_i n e4
        exact opA_len (by rw [ho]; obtain ⟨ca, ar, at'⟩ := c; simp only at e1 e2 e3; rw [e1, one e2, one e3]) h1 h2 e4 h
      · exact h.elim
    · rename_i x y e1 e2
      obtain ⟨h1, h2, h⟩ := h
      split at h
      · rename_i k m k' n e4 e5
        exact opA_min2 (ts := c.argTypes) (by rw [ho]; obtain ⟨ca, ar, at'⟩ := c; simp only at e1 e2; rw [e1, one e2]) h1 h2 e4 e5 h
      · exact h.elim
    · rename_i x y t t' e1 e2 e3
      split at h
      · rename_i e sz by_ rr n cs m ds d e4 e5 e6 e7
        obtain ⟨rfl, h1, h2, h⟩ := h
        obtain ⟨g1, g2, g3, g4, g5, g6, g7, g8, g9, g10, g11⟩ := h
        refine opA_append (by rw [ho]; obtain ⟨ca, ar, at'⟩ := c; simp only at e1 e2 e3; rw [e1, one e2, one e3]) h1 h2 e4 g1 g2 (fun r e' sz' n' hr => ?_) e5 e6 g4 g5 g6 e7 g7 g8 g9 g10 (by rw [e7]; exact g11)
        rw [hr] at g3
        simp only [rowOk, Bool.and_eq_true, beq_iff_eq] at g3
        exact ⟨g3.1, g3.2⟩
      · exact h
    · exact h
  · exact h

/-- a region's operations in their order -/
def evL (P : Program) (ops : Array Oper) : List Oper → St → (St → Prop) → Prop
  | [], σ, K => K σ
  | o :: rest, σ, K => match o.guard with
    | none => OpA P o σ fun σ' => evL P ops rest σ' K
    | some (j, want) => match (ops[j]?).bind (·.dst) with
      | some d => match σ.T.getD d .any with
        | .c (.v (.bool b)) => (b = want → OpA P o (σ.put (some d) (.c (.v (.bool want)))) fun σ' => evL P ops rest σ' K) ∧ (b = !want → evL P ops rest ((σ.put (some d) (.c (.v (.bool !want)))).put o.dst (.tup [])) K)
        | .tup [] => evL P ops rest (σ.put o.dst (.tup [])) K
        | _ => False
      | none => False
/-- what a piece of code does -/
def AW (P : Program) (c : Code) (σ : St) (Φ : Exit → St → Prop) : Prop :=
  ∀ (E : Env) (ι : Nat → Nat × Nat × Nat) (a : Act) (w : World), Conc E ι σ a w → c.wp P (fun ex a' w' => ∃ ι' σ', Conc E ι' σ' a' w' ∧ Φ ex σ') a w
theorem put_same {σ : St} {d : Nat} {x : AV} (h : σ.T.getD d .any = x) (hx : x ≠ .any) : σ.put (some d) x = σ := by
  show St.mk (σ.T.set d x) σ.H = σ
  have : σ.T.set d x = σ.T := by
    apply List.ext_getElem?
    intro i
    rw [List.getElem?_set]
    split
    · rename_i e; subst e
      rw [List.getD_eq_getElem?_getD] at h
      split
      · rename_i hlt
        rw [List.getElem?_eq_getElem hlt] at h ⊢
        simp at h; rw [h]
      · rename_i hge
        rw [List.getElem?_eq_none (by omega)] at h
        exact absurd h.symm hx
    · rfl
  rw [this]
theorem RV.undef {S : Nat → Prop} {ι : Nat → Nat × Nat × Nat} {w : World} : RV S ι w undef (.tup []) :=
  .tup [] [] rfl fun j u x hu => by cases hu
theorem RV.undef_inv {S : Nat → Prop} {ι : Nat → Nat × Nat × Nat} {w : World} {v : Value} (h : RV S ι w v (.tup [])) : v = Go.undef := by
  cases h with
  | tup us cs hl h => cases us <;> first | rfl | cases hl
theorem evL_sound {P : Program} {ops : Array Oper} {Φ : Exit → St → Prop} : ∀ (l : List Oper) (σ : St), evL P ops l σ (Φ .normal) → ∀ (E : Env) (ι : Nat → Nat × Nat × Nat) (a : Act) (w : World), Conc E ι σ a w →
    wpList P ops (fun ex a' w' => ∃ ι' σ', Conc E ι' σ' a' w' ∧ Φ ex σ') l a w
  | [], σ, h, E, ι, a, w, hc => ⟨ι, σ, hc, h⟩
  | o :: rest, σ, h, E, ι, a, w, hc => by
    unfold evL at h
    split at h
    · rename_i hg
      refine wpList_plain hg fun K hK => ?_
      exact h E ι a w hc K _ fun ι' σ' a' w' hk hc' => hK _ _ (evL_sound rest σ' hk E ι' a' w' hc')
    · rename_i j want hg
      split at h
      · rename_i d hd
        split at h
        · rename_i b hb
          have hv := hc.tmp d
          rw [hb] at hv
          obtain ⟨e, _⟩ := hv.v_inv
          have hlt : d < a.tmps.size := by
            rw [hc.size]
            rcases Nat.lt_or_ge d σ.T.length with h | h
            · exact h
            · rw [List.getD_eq_getElem?_getD, List.getElem?_eq_none h] at hb; cases hb
          have hy : yielded ops a.tmps j = some b := by
            unfold yielded
            rw [hd]
            simp only [Option.bind_some]
            have : a.tmps[d]? = some (.bool b) := by
              rw [Array.getElem?_eq_getElem hlt]
              simp only [Array.getD, hlt, dif_pos] at e
              simpa using e
            rw [this]
          refine wpList_step fun K hK => ?_
          have hw : Region.wanted o (yielded ops a.tmps) = (some b == some want) := by
            unfold Region.wanted
            rw [hg]
            simp only [hy]
          rw [hw]
          by_cases hbw : b = want
          · subst hbw
            simp only [beq_self_eq_true, if_true]
            have h1 := h.1 rfl
            rw [put_same hb (by simp)] at h1
            exact h1 E ι a w hc K _ fun ι' σ' a' w' hk hc' => hK _ _ (evL_sound rest σ' hk E ι' a' w' hc')
          · have hbw' : b = !want := by cases b <;> cases want <;> simp_all
            have : (some b == some want) = false := by simp [hbw]
            simp only [this, Bool.false_eq_true, if_false]
            have h2 := h.2 hbw'
            rw [put_same (by rw [hb, hbw']) (by simp)] at h2
            exact hK _ _ (evL_sound rest _ h2 E ι _ w (hc.put o.dst .undef))
        · rename_i hb
          have hv := hc.tmp d
          rw [hb] at hv
          have e := hv.undef_inv
          have hy : yielded ops a.tmps j = none := by
            unfold yielded
            rw [hd]
            simp only [Option.bind_some]
            simp only [Array.getD_eq_getD_getElem?] at e
            cases hh : a.tmps[d]? with
            | none => rfl
            | some u => rw [hh] at e; simp only [Option.getD_some] at e; rw [e]; rfl
          refine wpList_step fun K hK => ?_
          have hw : Region.wanted o (yielded ops a.tmps) = false := by
            unfold Region.wanted
            rw [hg]
            simp only [hy]
            rfl
          rw [hw]
          simp only [Bool.false_eq_true, if_false]
          exact hK _ _ (evL_sound rest _ h E ι _ w (hc.put o.dst .undef))
        · exact h.elim
      · exact h.elim
/-- a body, reckoned -/
def evC (P : Program) : Code → St → (Exit → St → Prop) → Prop
  | .skip, σ, Φ => Φ .normal σ
  | .region _ ops false, σ, Φ => evL P ops ops.toList σ (Φ .normal)
  | .seq a b, σ, Φ => evC P a σ fun ex σ' => match ex with
    | .normal => evC P b σ' Φ
    | ex => Φ ex σ'
  | .cond c x y, σ, Φ => okConst c = true ∧ match σ.ev c with
    | .c (.v (.bool t)) => (t = true → evC P x σ Φ) ∧ (t = false → evC P y σ Φ)
    | _ => False
  | .block id c, σ, Φ => evC P c σ fun ex σ' => match ex with
    | .exit j => if j = id then Φ .normal σ' else Φ (.exit j) σ'
    | ex => Φ ex σ'
  | .exit id, σ, Φ => Φ (.exit id) σ
  | .ret, σ, Φ => Φ .ret σ
  | c, σ, Φ => AW P c σ Φ
theorem evC_sound {P : Program} : ∀ (c : Code) (σ : St) (Φ : Exit → St → Prop), evC P c σ Φ → AW P c σ Φ
  | .skip, σ, Φ, h => fun E ι a w hc => wp_skip ⟨ι, σ, hc, h⟩
  | .region id ops false, σ, Φ, h => fun E ι a w hc => wp_region_list (evL_sound _ σ h E ι a w hc)
  | .region id ops true, σ, Φ, h => h
  | .seq x y, σ, Φ, h => fun E ι a w hc => by
    refine wp_seq (wp_mono (evC_sound x σ _ h E ι a w hc) fun ex a' w' => ?_)
    rintro ⟨ι', σ', hc', hΦ⟩
    cases ex with
    | normal => exact evC_sound y σ' Φ hΦ E ι' a' w' hc'
    | _ => exact ⟨ι', σ', hc', hΦ⟩
  | .cond c x y, σ, Φ, h => fun E ι a w hc => by
    unfold evC at h
    obtain ⟨h0, h⟩ := h
    split at h
    · rename_i t ht
      have hv := hc.ev c h0
      rw [ht] at hv
      obtain ⟨e, _⟩ := hv.v_inv
      exact wp_cond_split e (fun h' => evC_sound x σ Φ (h.1 h') E ι a w hc) (fun h' => evC_sound y σ Φ (h.2 h') E ι a w hc)
    · exact h.elim
  | .block id c, σ, Φ, h => fun E ι a w hc => by
    refine wp_block (wp_mono (evC_sound c σ _ h E ι a w hc) fun ex a' w' => ?_)
    rintro ⟨ι', σ', hc', hΦ⟩
    cases ex with
    | exit j =>
      unfold Exit.inBlock
      simp only at hΦ ⊢
      split at hΦ
      · rename_i e; rw [if_pos e]; exact ⟨ι', σ', hc', hΦ⟩
      · rename_i e; rw [if_neg e]; exact ⟨ι', σ', hc', hΦ⟩
    | _ => exact ⟨ι', σ', hc', hΦ⟩
  | .exit id, σ, Φ, h => fun E ι a w hc => wp_exit ⟨ι, σ, hc, h⟩
  | .ret, σ, Φ, h => fun E ι a w hc => wp_ret ⟨ι, σ, hc, h⟩
  | .loop c, σ, Φ, h => h
  | .rangeFunc _ _ _ _, σ, Φ, h => h
  | .scope _, σ, Φ, h => h
  | .label _, σ, Φ, h => h
  | .goto _, σ, Φ, h => h
  | .refuse _, σ, Φ, h => h
theorem AW.mono {P : Program} {c : Code} {σ : St} {Φ Ψ : Exit → St → Prop} (h : AW P c σ Φ) (hΦ : ∀ ex σ, Φ ex σ → Ψ ex σ) : AW P c σ Ψ :=
  fun E ι a w hc => wp_mono (h E ι a w hc) fun ex a' w' ⟨ι', σ', hc', hq⟩ => ⟨ι', σ', hc', hΦ _ _ hq⟩
/-- less may be known -/
theorem AW.weak {P : Program} {c : Code} {σ τ : St} {Φ : Exit → St → Prop} (hle : σ.le τ) (h : AW P c τ Φ) : AW P c σ Φ :=
  fun E ι a w hc => h E ι a w (hc.le hle)
/-- a loop: the states at its head, by something that falls -/
theorem AW.loop {P : Program} {c : Code} {σ : St} {Φ : Exit → St → Prop} {α : Type} (I : α → St) (μ : α → Nat) (x0 : α) (h0 : σ.le (I x0))
    (round : ∀ x, evC P c (I x) fun ex σ' => match ex with | .normal => ∃ y, μ y < μ x ∧ σ'.le (I y) | ex => Φ ex σ') : AW P (.loop c) σ Φ := by
  intro E ι a w hc b k cs
  have key : ∀ n x ι a w, μ x = n → Conc E ι (I x) a w → ∃ e a' w', (∃ ι' σ', Conc E ι' σ' a' w' ∧ Φ e σ') ∧ Arrives P (lone (b.at a (.code c :: .inLoop c :: k)) cs w) b k cs e a' w' := by
    intro n
    induction n using Nat.strongRecOn with
    | _ n ih =>
      intro x ι a w hn hI
      obtain ⟨e, a₁, w₁, ⟨ι₁, σ₁, hc₁, hq⟩, harr⟩ := evC_sound c (I x) _ (round x) E ι a w hI b (.inLoop c :: k) cs
      cases e with
      | normal =>
        obtain ⟨y, hlt, hle⟩ := hq
        obtain ⟨e₂, a₂, w₂, hq₂, harr₂⟩ := ih (μ y) (hn ▸ hlt) y ι₁ a₁ w₁ rfl (hc₁.le hle)
        exact ⟨e₂, a₂, w₂, hq₂, .of_steps (Steps.trans harr (.one step_inLoop)) harr₂⟩
      | exit id => exact ⟨_, a₁, w₁, ⟨ι₁, σ₁, hc₁, hq⟩, .pass (x := .inLoop c) rfl (fun _ _ => .inl (by simp)) harr⟩
      | goto l => exact ⟨_, a₁, w₁, ⟨ι₁, σ₁, hc₁, hq⟩, .pass (x := .inLoop c) rfl (fun _ _ => .inl (by simp)) harr⟩
      | ret => exact ⟨_, a₁, w₁, ⟨ι₁, σ₁, hc₁, hq⟩, .pass (x := .inLoop c) rfl (fun _ _ => .inl (by simp)) harr⟩
      | panic ch => exact ⟨_, a₁, w₁, ⟨ι₁, σ₁, hc₁, hq⟩, .pass (x := .inLoop c) rfl (fun _ _ => .inl (by simp)) harr⟩
      | outgrown => exact ⟨_, a₁, w₁, ⟨ι₁, σ₁, hc₁, hq⟩, .pass (x := .inLoop c) rfl (fun _ _ => .inl (by simp)) harr⟩
  obtain ⟨e, a', w', hq, harr⟩ := key _ x0 ι a w rfl (hc.le h0)
  exact ⟨e, a', w', hq, .of_steps (.one step_loop) harr⟩
end Go.Proofs.Ytiggambibcohcaa
