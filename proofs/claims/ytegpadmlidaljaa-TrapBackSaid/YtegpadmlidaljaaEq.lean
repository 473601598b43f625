/- '==' of an array, or of a core, with itself is true. Plain lemmas over the model's '=='. -/
import Derived.Test.YtegpadmlidaljaaArch
import Derived.Test.YtegpadmlidaljaaWEqStruct
namespace Go.Proofs.Ytegpadmlidaljaa.Arch
open Go Go.Proofs Go.RowKit Go.Proofs.YtegpadmlidaljaaW.PrintWords
section
variable {P : Program}
theorem loop_yields {σ : Type} (w : World) (s : σ) (g : Nat → σ → Sem (ForInStep σ)) : ∀ (l : List Nat), (∀ i ∈ l, (g i s).run P w = .ok (.yield s) w) → (forIn (m := Sem) l s g).run P w = .ok s w := by
  intro l
  induction l with
  | nil => intro _; simp
  | cons i l ih =>
    intro h
    simp only [List.forIn_cons, Sem.run_bind, h i (by simp), Result.andThen_ok]
    exact ih (fun j hj => h j (by simp [hj]))
theorem run_equalIn_array (w : World) (d : Nat) (t e : TypeId) (len sz : Nat) (xs : Array Value) (hu : P.underlying t = some (.array len e)) (hsz : (sizeOf e).run P w = .ok sz w)
    (h : ∀ i, i < len → ∃ u, (part e xs (i * sz)).run P w = .ok u w ∧ (Op.equalIn d e u u).run P w = .ok true w) : (Op.equalIn (d + 1) t (.agg xs) (.agg xs)).run P w = .ok true w := by
  simp only [Op.equalIn, Sem.run_bind, run_underlying hu, Result.andThen_ok, hsz]
  rw [Std.Legacy.Range.forIn_eq_forIn_range', loop_yields]
  · rfl
  · intro i hi
    obtain ⟨u, hp, he⟩ := h i (by simpa [Std.Legacy.Range.size] using hi)
    simp only [Sem.run_bind, hp, he, Result.andThen_ok, Bool.not_true, Bool.false_eq_true, if_false, Sem.run_pure]
/-- The words of a core that lie in a row of its cells. -/
theorem words_eq (w : World) (d : Nat) (t len : Nat) (xs : Array Value) (hu : P.underlying t = some (.array len 22)) (hu2 : P.underlying 22 = some (.int .u32)) (hsz : (sizeOf 22).run P w = .ok 1 w) (hag : (isAgg 22).run P w = .ok false w)
    (hx : ∀ i, i < len → ∃ x, xs[i]? = some (.int .u32 x)) : (Op.equalIn (d + 2) t (.agg xs) (.agg xs)).run P w = .ok true w := by
  refine run_equalIn_array w (d + 1) t 22 len 1 xs hu hsz (fun i hi => ?_)
  obtain ⟨x, hx⟩ := hx i hi
  refine ⟨.int .u32 x, ?_, ?_⟩
  · simp only [part, Sem.run_bind, hag, Result.andThen_ok, Bool.false_eq_true, if_false, Nat.mul_one, hx, Sem.run_pure]
  · simp only [Op.equalIn, Sem.run_bind, run_underlying hu2, Result.andThen_ok, if_true, Sem.run_pure, beq_self_eq_true]
end
theorem sized22 (w : World) : (sizeOf 22).run Try.prog w = .ok 1 w := by go_simp
theorem agg22 (w : World) : (isAgg 22).run Try.prog w = .ok false w := by go_simp
theorem part_agg {P : Program} (w : World) (t sz off : Nat) (xs : Array Value) (hag : (isAgg t).run P w = .ok true w) (hsz : (sizeOf t).run P w = .ok sz w) : (part t xs off).run P w = .ok (.agg (xs.extract off (off + sz))) w := by
  simp only [part, Sem.run_bind, hag, hsz, Result.andThen_ok, if_true, Sem.run_pure]
theorem part_cell {P : Program} (w : World) (t off : Nat) (xs : Array Value) (v : Value) (hag : (isAgg t).run P w = .ok false w) (hv : xs[off]? = some v) : (part t xs off).run P w = .ok v w := by
  simp only [part, Sem.run_bind, hag, Result.andThen_ok, Bool.false_eq_true, if_false, hv, Sem.run_pure]
theorem eq26 (A : Array Value) (hA : IsArch A) (d : Nat) (w : World) : (Op.equalIn (d + 4) 26 (.agg A) (.agg A)).run Try.prog w = .ok true w := by
  have hs := hA.size
  have h0 := hA.at 0 (by decide)
  obtain ⟨b, hb⟩ := hA.flag
  have ex : ∀ off n i, off + n ≤ 29 → i < n → (A.extract off (off + n))[i]? = some (.int .u32 (wd A (off + i))) := fun off n i h1 h2 => by
    rw [Array.getElem?_extract_of_lt (by omega)]
    have := hA.at (off + i) (by omega)
    rw [Array.getElem?_eq_getElem (by omega)] at this
    exact this
  refine eqA_of Try.underlying26 (by kernel_rfl) ?_
  have e22 : ∀ x w, (Op.equalIn (d + 3) 22 (.int .u32 x) (.int .u32 x)).run Try.prog w = .ok true w := fun x w => by
    simp only [Op.equalIn, Sem.run_bind, run_underlying Try.underlying22, Result.andThen_ok, if_true, Sem.run_pure, beq_self_eq_true]
  have e4 : ∀ x w, (Op.equalIn (d + 3) 4 (.bool x) (.bool x)).run Try.prog w = .ok true w := fun x w => by
    simp only [Op.equalIn, Sem.run_bind, run_underlying Try.underlying4, Result.andThen_ok, Sem.run_pure, beq_self_eq_true]
  have P0 := part_cell w 22 0 A _ (agg22 w) h0
  have P1 : (part 23 A 1).run Try.prog w = .ok (.agg (A.extract 1 17)) w := part_agg w 23 16 1 A (by go_simp) (by go_simp)
  have P2 : (part 24 A 17).run Try.prog w = .ok (.agg (A.extract 17 29)) w := part_agg w 24 12 17 A (by go_simp) (by go_simp)
  have P3 : (part 4 A 29).run Try.prog w = .ok (.bool b) w := part_cell w 4 29 A _ (by go_simp) hb
  have E1 : (Op.equalIn (d + 3) 23 (.agg (A.extract 1 17)) (.agg (A.extract 1 17))).run Try.prog w = .ok true w := words_eq w (d + 1) 23 16 _ Try.underlying23 Try.underlying22 (sized22 w) (agg22 w) (fun i hi => ⟨_, ex 1 16 i (by omega) hi⟩)
  have E2 : (Op.equalIn (d + 3) 24 (.agg (A.extract 17 29)) (.agg (A.extract 17 29))).run Try.prog w = .ok true w := words_eq w (d + 1) 24 12 _ Try.underlying24 Try.underlying22 (sized22 w) (agg22 w) (fun i hi => ⟨_, ex 17 12 i (by omega) hi⟩)
  have E0 := e22 (wd A 0) w
  have E3 := e4 b w
  clear ex e22 e4 h0 hb
  exact eqf_cons (r := true) (s := true) (by rfl) P0 P0 E0 (eqf_cons (r := true) (s := true) (by rfl) P1 P1 E1 (eqf_cons (r := true) (s := true) (by rfl) P2 P2 E2 (eqf_last (r := true) (by rfl) P3 P3 E3)))
end Go.Proofs.Ytegpadmlidaljaa.Arch
