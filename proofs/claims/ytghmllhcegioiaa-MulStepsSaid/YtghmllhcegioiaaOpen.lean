/- What a value that is well typed looks like, cell by cell (whole numbers, bools, strings; structs and arrays of these, by value). Plain lemmas, no condition but the type's own. -/
import Derived.WideShapes
import Derived.ChangeSame
namespace Go.Proofs.Ytghmllhcegioiaa.Open
open Go
section
variable {P : Program} {w : World} {r : Reach} {base : Nat}
theorem cell_int {t : TypeId} {k : IntKind} {v : Value} (hu : P.underlying t = some (.int k)) (h : Cell.okWide P w r base t v) : ∃ x, v = .int k x ∧ (Lit.int k x).wf = true := by
  simp only [Cell.okWide, hu] at h
  cases v <;> simp_all [Cell.ok, IntKind.has, Lit.wf]
theorem cell_bool {t : TypeId} {v : Value} (hu : P.underlying t = some .bool) (h : Cell.okWide P w r base t v) : ∃ x, v = .bool x := by
  simp only [Cell.okWide, hu] at h
  cases v <;> simp_all [Cell.ok]
theorem cell_string {t : TypeId} {v : Value} (hu : P.underlying t = some .string) (h : Cell.okWide P w r base t v) : ∃ x, v = .string x := by
  simp only [Cell.okWide, hu] at h
  cases v <;> simp_all [Cell.ok]
/-- A struct or an array by value: its cells, each of its own type. -/
theorem cells_open {t : TypeId} {v : Value} (ts : List TypeId) (ha : (∃ fs, P.underlying t = some (.struct fs)) ∨ ∃ n e, P.underlying t = some (.array n e)) (hct : P.cellTypes P.depth t = some ts) (hn : P.cellsOf t = ts.length)
    (h : Value.okWide P w r base t v) : ∃ l : List Value, v = .agg l.toArray ∧ l.length = ts.length ∧ ∀ (i : Nat) (u : TypeId), ts[i]? = some u → ∃ c : Value, l[i]? = some c ∧ Cell.okWide P w r base u c := by
  have h' : ∃ cs, v = .agg cs ∧ cs.size = P.cellsOf t ∧ Row.okWide P w r base t cs := by
    rcases ha with ⟨fs, hs⟩ | ⟨n, e, hs⟩ <;> (unfold Value.okWide at h; rw [hs] at h; exact h)
  obtain ⟨⟨l⟩, rfl, hsz, ts', hct', _, hr⟩ := h'
  rw [hct] at hct'
  obtain rfl := Option.some.inj hct'
  have hl : l.length = ts.length := by rw [← hn, ← hsz]; rfl
  refine ⟨l, rfl, hl, fun i u hi => ?_⟩
  have hlt : i < ts.length := (List.getElem?_eq_some_iff.1 hi).1
  have hv : l[i]? = some (l[i]'(by omega)) := List.getElem?_eq_getElem (by omega)
  obtain ⟨u', hu', hok⟩ := hr i (l[i]'(by omega)) (by rw [List.getElem?_toArray]; exact hv)
  rw [Nat.mod_eq_of_lt hlt, hi] at hu'
  obtain rfl := Option.some.inj hu'
  exact ⟨_, hv, hok⟩
end
end Go.Proofs.Ytghmllhcegioiaa.Open
