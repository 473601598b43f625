/- What a value that is well typed looks like, cell by cell (whole numbers, bools, strings; structs and arrays of these, by value). Plain lemmas, no condition but the type's own. -/
import Derived.WideShapes
import Derived.ChangeSame
import Derived.ChangeArms
import Derived.OpenShut
import Derived.Deep.Slices
import Derived.Test.YtmpnnppgppoliaaWWords
namespace Go.Proofs.Ytmpnnppgppoliaa.Open
open Go
section
variable {P : Program} {w : World} {r : Reach} {base : Nat}
theorem cell_int {t : TypeId} {k : IntKind} {v : Value} (hu : P.underlying t = some (.int k)) (h : Cell.okWide P w r base t v) : ∃ x, v = .int k x ∧ (Lit.int k x).wf = true := by
  simp only [Cell.okWide, hu] at h
  cases v <;> simp_all [Cell.ok, IntKind.has, Lit.wf]
theorem cell_bool {t : TypeId} {v : Value} (hu : P.underlying t = some .bool) (h : Cell.okWide P w r base t v) : ∃ x, v = .bool x := by
  simp only [Cell.okWide, hu] at h
  cases v <;> simp_all [Cell.ok]
theorem cell_string {t : TypeId} {v : Value} (hu : P.underlying t = some .string) (h : Cell.okWide P w r base t v) : ∃ x, v = .string x := by
  simp only [Cell.okWide, hu] at h
  cases v <;> simp_all [Cell.ok]
/-- A struct or an array by value: its cells, each of its own type. -/
theorem cells_open {t : TypeId} {v : Value} (ts : List TypeId) (ha : (∃ fs, P.underlying t = some (.struct fs)) ∨ ∃ n e, P.underlying t = some (.array n e)) (hct : P.cellTypes P.depth t = some ts) (hn : P.cellsOf t = ts.length)
    (h : Value.okWide P w r base t v) : ∃ l : List Value, v = .agg l.toArray ∧ l.length = ts.length ∧ ∀ (i : Nat) (u : TypeId), ts[i]? = some u → ∃ c : Value, l[i]? = some c ∧ Cell.okWide P w r base u c := by
  have h' : ∃ cs, v = .agg cs ∧ cs.size = P.cellsOf t ∧ Row.okWide P w r base t cs := by
    rcases ha with ⟨fs, hs⟩ | ⟨n, e, hs⟩ <;> (unfold Value.okWide at h; rw [hs] at h; exact h)
  obtain ⟨⟨l⟩, rfl, hsz, ts', hct', _, hr⟩ := h'
  rw [hct] at hct'
  obtain rfl := Option.some.inj hct'
  have hl : l.length = ts.length := by rw [← hn, ← hsz]; rfl
  refine ⟨l, rfl, hl, fun i u hi => ?_⟩
  have hlt : i < ts.length := (List.getElem?_eq_some_iff.1 hi).1
  have hv : l[i]? = some (l[i]'(by omega)) := List.getElem?_eq_getElem (by omega)
  obtain ⟨u', hu', hok⟩ := hr i (l[i]'(by omega)) (by rw [List.getElem?_toArray]; exact hv)
  rw [Nat.mod_eq_of_lt hlt, hi] at hu'
  obtain rfl := Option.some.inj hu'
  exact ⟨_, hv, hok⟩
end
/-! ### What is read as data, leaf by leaf -/
section
variable {H : Type} {enc : TypeId × Value → H} {P : Program} {w : World} {base : Nat} {spare : Nat → Bool} {held : Bool}
open Go.Proofs.YtmpnnppgppoliaaW.PrintWords
def leavesF (P : Program) (rec : TypeId → Option (List TypeId)) : Nat → List Field → Option (List TypeId)
  | _, [] => some []
  | off, fd :: r => if fd.offset = off then (rec fd.type).bind fun l => if l.length = P.cellsOf fd.type then (leavesF P rec (off + l.length) r).map (l ++ ·) else none else none
/-- The types of a type's cells, where it is made of whole numbers, bools and strings alone. -/
def leaves (P : Program) : Nat → TypeId → Option (List TypeId)
  | 0, _ => none
  | f + 1, t => match P.underlying t with
    | some (.struct fs) => leavesF P (leaves P f) 0 fs.toList
    | some (.array n e) => (leaves P f e).bind fun l => if l.length = P.cellsOf e then some ((List.replicate n l).flatten) else none
    | some (.int _) => some [t]
    | some .bool => some [t]
    | some .string => some [t]
    | _ => none
def LeafOK (enc : TypeId × Value → H) (P : Program) (w : World) (base : Nat) (spare : Nat → Bool) (held : Bool) (u : TypeId) (c : Value) : Prop := ∃ n y, DataW.trod enc P w base spare held n u [c] = some y
theorem leaf_int {u : TypeId} {k : IntKind} {c : Value} (hu : P.underlying u = some (.int k)) (h : LeafOK enc P w base spare held u c) : ∃ x, c = .int k x ∧ (Lit.int k x).wf = true := by
  obtain ⟨n, y, h⟩ := h
  cases n with
  | zero => simp [DataW.trod] at h
  | succ n =>
    unfold DataW.trod at h
    rw [hu] at h
    cases c <;> simp_all
theorem leaf_bool {u : TypeId} {c : Value} (hu : P.underlying u = some .bool) (h : LeafOK enc P w base spare held u c) : ∃ x, c = .bool x := by
  obtain ⟨n, y, h⟩ := h
  cases n with
  | zero => simp [DataW.trod] at h
  | succ n =>
    unfold DataW.trod at h
    rw [hu] at h
    cases c <;> simp_all
theorem leaf_string {u : TypeId} {c : Value} (hu : P.underlying u = some .string) (h : LeafOK enc P w base spare held u c) : ∃ x, c = .string x ∧ x.size ≤ maxLen := by
  obtain ⟨n, y, h⟩ := h
  cases n with
  | zero => simp [DataW.trod] at h
  | succ n =>
    unfold DataW.trod at h
    rw [hu] at h
    cases c <;> simp_all
theorem leaves_fields {f : Nat} (ih : ∀ t ts m cs x, leaves P f t = some ts → DataW.trod enc P w base spare held m t cs = some x → ∀ (i : Nat) (u : TypeId), ts[i]? = some u → ∃ c : Value, cs[i]? = some c ∧ LeafOK enc P w base spare held u c)
    (cs : List Value) (m : Nat) : ∀ (r : List Field) (off : Nat) (ts : List TypeId), leavesF P (leaves P f) off r = some ts →
      (∀ fd ∈ r, ∃ y, DataW.trod enc P w base spare held m fd.type ((cs.drop fd.offset).take (P.cellsOf fd.type)) = some y) →
      ∀ (i : Nat) (u : TypeId), ts[i]? = some u → ∃ c : Value, cs[off + i]? = some c ∧ LeafOK enc P w base spare held u c := by
  intro r
  induction r with
  | nil => intro off ts h _ i u hi; simp [leavesF] at h; subst h; simp at hi
  | cons fd r ihr =>
    intro off ts h hf i u hi
    unfold leavesF at h
    split at h
    · rename_i ho
      obtain ⟨l, hl, h⟩ := Option.bind_eq_some_iff.1 h
      split at h
      · rename_i hlen
        obtain ⟨l2, hl2, rfl⟩ := Option.map_eq_some_iff.1 h
        by_cases hlt : i < l.length
        · rw [List.getElem?_append_left hlt] at hi
          obtain ⟨y, hy⟩ := hf fd (by simp)
          obtain ⟨c, hc, hok⟩ := ih _ _ _ _ _ hl hy i u hi
          refine ⟨c, ?_, hok⟩
          rw [List.getElem?_take, if_pos (by omega), List.getElem?_drop, ho] at hc
          exact hc
        · rw [List.getElem?_append_right (by omega)] at hi
          obtain ⟨c, hc, hok⟩ := ihr _ _ hl2 (fun z hz => hf z (by simp [hz])) _ u hi
          refine ⟨c, ?_, hok⟩
          rw [show off + i = off + l.length + (i - l.length) by omega]
          exact hc
      · simp at h
    · simp at h
theorem leaves_get : ∀ (f : Nat) (t : TypeId) (ts : List TypeId) (m : Nat) (cs : List Value) (x : DataW H × List MemPlace), leaves P f t = some ts → DataW.trod enc P w base spare held m t cs = some x →
    ∀ (i : Nat) (u : TypeId), ts[i]? = some u → ∃ c : Value, cs[i]? = some c ∧ LeafOK enc P w base spare held u c := by
  intro f
  induction f with
  | zero => intro t ts m cs x h; simp [leaves] at h
  | succ f ih =>
    intro t ts m cs x h hx i u hi
    unfold leaves at h
    split at h
    · rename_i fs hs
      obtain ⟨xs, n, _, _, _, hlen, hf⟩ := DataW.trod_struct hs hx
      have := leaves_fields ih cs n fs.toList 0 ts h (fun fd hfd => by
        obtain ⟨j, hj, e⟩ := List.getElem_of_mem hfd
        have hj' : j < fs.size := by simpa using hj
        have h1 := hf j fd (by rw [Array.getElem?_eq_getElem hj']; simpa using e)
        rw [List.getElem?_eq_getElem (by omega)] at h1
        exact ⟨_, h1⟩) i u hi
      simpa using this
    · rename_i n e hs
      obtain ⟨l, hl, h⟩ := Option.bind_eq_some_iff.1 h
      split at h
      · rename_i hlen
        obtain rfl := Option.some.inj h
        obtain ⟨xs, n', _, _, _, hxl, hf⟩ := DataW.trod_array hs hx
        have hfl : ∀ (n i : Nat) (u : TypeId), ((List.replicate n l).flatten)[i]? = some u → ∃ q, q < n ∧ q * l.length ≤ i ∧ l[i - q * l.length]? = some u := by
          intro n
          induction n with
          | zero => intro i u h; simp at h
          | succ n ihn =>
            intro i u h
            rw [List.replicate_succ, List.flatten_cons] at h
            by_cases hlt : i < l.length
            · rw [List.getElem?_append_left hlt] at h
              exact ⟨0, by omega, by omega, by simpa using h⟩
            · rw [List.getElem?_append_right (by omega)] at h
              obtain ⟨q, hq, hle, hu⟩ := ihn _ _ h
              refine ⟨q + 1, by omega, by rw [Nat.add_mul]; omega, ?_⟩
              rw [show i - (q + 1) * l.length = i - l.length - q * l.length by rw [Nat.add_mul]; omega]
              exact hu
        obtain ⟨q, hq, hle, hu⟩ := hfl n i u hi
        have h1 := hf q hq
        rw [List.getElem?_eq_getElem (by omega)] at h1
        obtain ⟨c, hc, hok⟩ := ih _ _ _ _ _ hl h1 _ u hu
        refine ⟨c, ?_, hok⟩
        rw [List.getElem?_take] at hc
        split at hc
        · rw [List.getElem?_drop, ← hlen, show q * l.length + (i - q * l.length) = i by omega] at hc
          exact hc
        · simp at hc
      · simp at h
    all_goals first
      | (simp at h; done)
      | (obtain rfl := Option.some.inj h
         cases i with
         | succ i => simp at hi
         | zero =>
           simp at hi
           subst hi
           cases m with
           | zero => simp [DataW.trod] at hx
           | succ m =>
             have hx0 := hx
             unfold DataW.trod at hx
             match cs with
             | [] => simp_all
             | [c] => exact ⟨c, rfl, m + 1, x, hx0⟩
             | c :: c' :: r => simp_all)
/-- A slice that came in, element by element: what each element's cells are, R tells. -/
theorem open_row {α : Type} {R : α → List Value → Prop} {good : α → Prop} {t e : TypeId} {v : Value} {d : DataW H} {p : List MemPlace} (k : Nat) (ht : P.underlying t = some (.slice e)) (hk : P.cellsOf e = k)
    (hdec : ∀ n cs x, cs.length = k → DataW.trod enc P w base spare held n e cs = some x → ∃ p, R p cs ∧ good p) (hv : ∃ A len cap, v = .slice A len cap) (h : DataW.Trod enc P w base spare held t v d p) :
    ∃ (A : Option Addr) (cap : Nat) (ps : List α), v = .slice A ps.length cap ∧ ps.length ≤ cap ∧ cap ≤ maxLen ∧ ReadsRow R k w A ps.length ps ∧ ∀ q ∈ ps, good q := by
  obtain ⟨A, len, cap, rfl⟩ := hv
  obtain ⟨fuel, hf⟩ := h
  rcases Go.Deep.open_slice ht hf with ⟨hcs, _⟩ | ⟨a, l, c, m, n, D, Pl, hcs, _, hl, hm, hmm, _, hx⟩
  · simp [Value.cells] at hcs
    obtain ⟨rfl, rfl, rfl⟩ := hcs
    exact ⟨none, 0, [], rfl, Nat.le_refl _, by simp [maxLen], ⟨rfl, by simp, fun h => by simp at h⟩, fun q hq => by simp at hq⟩
  · simp [Value.cells] at hcs
    obtain ⟨rfl, rfl, rfl⟩ := hcs
    have hle : len ≤ m := by rw [hmm]; split <;> omega
    have hel : ∀ i, i < len → ∃ p, ∃ cs', cs'.length = k ∧ R p cs' ∧ good p ∧ ∀ j u, cs'[j]? = some u → w.cell? (a.add (i * k + j)) = some u := by
      intro i hi
      obtain ⟨cs', h1, h2⟩ := hx i (by omega)
      rw [hk] at h1
      obtain ⟨_, hlen, hat⟩ := World.cells?_some h1
      obtain ⟨p, hp, hg⟩ := hdec n cs' _ hlen h2
      refine ⟨p, cs', hlen, hp, hg, fun j u hj => ?_⟩
      have hjl : j < k := by rw [← hlen]; exact (List.getElem?_eq_some_iff.1 hj).1
      have := hat j hjl
      rw [← Go.Deep.add_add, this, hj]
    obtain ⟨ps, hpl, hps⟩ : ∃ ps : List α, ps.length = len ∧ ∀ i p, ps[i]? = some p → ∃ cs', cs'.length = k ∧ R p cs' ∧ good p ∧ ∀ j u, cs'[j]? = some u → w.cell? (a.add (i * k + j)) = some u := by
      have key : ∀ q, q ≤ len → ∃ ps : List α, ps.length = q ∧ ∀ i p, ps[i]? = some p → ∃ cs', cs'.length = k ∧ R p cs' ∧ good p ∧ ∀ j u, cs'[j]? = some u → w.cell? (a.add (i * k + j)) = some u := by
        intro q
        induction q with
        | zero => intro _; exact ⟨[], rfl, fun i p h => by simp at h⟩
        | succ q ihq =>
          intro hq
          obtain ⟨ps, hl1, h1⟩ := ihq (by omega)
          obtain ⟨p, hp⟩ := hel q (by omega)
          refine ⟨ps ++ [p], by simp [hl1], fun i p' hi => ?_⟩
          by_cases hlt : i < ps.length
          · rw [List.getElem?_append_left hlt] at hi
            exact h1 i p' hi
          · rw [List.getElem?_append_right (by omega)] at hi
            have : i = q := by
              have := (List.getElem?_eq_some_iff.1 hi).1
              simp at this; omega
            subst this
            simp [hl1] at hi
            subst hi
            exact hp
      exact key len (Nat.le_refl _)
    subst hpl
    refine ⟨some a, cap, ps, rfl, hl, hm, ⟨rfl, by unfold maxLen at hm; omega, fun _ => ⟨a, rfl, fun j p hj => ?_⟩⟩, fun q hq => ?_⟩
    · obtain ⟨cs', h1, h2, _, h3⟩ := hps j p hj
      exact ⟨cs', h1, h2, h3⟩
    · obtain ⟨j, hj, e⟩ := List.getElem_of_mem hq
      obtain ⟨_, _, _, h3, _⟩ := hps j q (by rw [List.getElem?_eq_getElem hj, e])
      exact h3
end
end Go.Proofs.Ytmpnnppgppoliaa.Open
