/- A core's registers as 30 cells: what each holds, and what becomes of it. Plain lemmas; the one condition is that the cells are a core's. -/
import Derived.Test.YtegpadmlidaljaaBoxes
import Derived.Test.YtegpadmlidaljaaProg
namespace Go.Proofs.Ytegpadmlidaljaa.Arch
open Go Go.Proofs Go.RowKit Go.Proofs.YtegpadmlidaljaaW.PrintWords Go.Proofs.Ytegpadmlidaljaa.Boxes
/-- The word in a cell. -/
def wd (A : Array Value) (i : Nat) : Int := match A[i]? with | some (.int _ x) => x | _ => 0
/-- The cells of a core: 29 words and a bool. -/
structure IsArch (A : Array Value) : Prop where
  size : A.size = 30
  word : ∀ i, i < 29 → ∃ x, A[i]? = some (.int .u32 x) ∧ 0 ≤ x ∧ x < 4294967296
  flag : ∃ b, A[29]? = some (.bool b)
/-- A cell written. -/
def stw (A : Array Value) (i : Nat) (v : Int) : Array Value := A.setIfInBounds i (.int .u32 v)
section
variable {A : Array Value}
theorem IsArch.at (h : IsArch A) (i : Nat) (hi : i < 29) : A[i]? = some (.int .u32 (wd A i)) := by
  obtain ⟨x, hx, _⟩ := h.word i hi
  unfold wd
  rw [hx]
theorem IsArch.lo (h : IsArch A) (i : Nat) (hi : i < 29) : 0 ≤ wd A i ∧ wd A i < 4294967296 := by
  obtain ⟨x, hx, hb⟩ := h.word i hi
  unfold wd
  rw [hx]
  exact hb
theorem stw_size (A : Array Value) (i : Nat) (v : Int) : (stw A i v).size = A.size := by simp [stw]
theorem stw_get (A : Array Value) (i j : Nat) (v : Int) (hi : i < A.size) : (stw A i v)[j]? = if i = j then some (.int .u32 v) else A[j]? := by
  unfold stw
  rw [Array.getElem?_setIfInBounds]
  by_cases h : i = j
  · subst h; simp [hi]
  · rw [if_neg h, if_neg h]
theorem IsArch.stw (h : IsArch A) {i : Nat} (hi : i < 29) {v : Int} (h0 : 0 ≤ v) (h1 : v < 4294967296) : IsArch (stw A i v) := by
  have hs := h.size
  refine ⟨by rw [stw_size, hs], fun j hj => ?_, ?_⟩
  · rw [stw_get _ _ _ _ (by omega)]
    by_cases e : i = j
    · rw [if_pos e]; exact ⟨v, rfl, h0, h1⟩
    · rw [if_neg e]; exact h.word j hj
  · rw [stw_get _ _ _ _ (by omega), if_neg (by omega)]; exact h.flag
theorem wd_stw (h : IsArch A) (i j : Nat) (v : Int) (hi : i < 29) : wd (stw A i v) j = if i = j then v else wd A j := by
  have hs := h.size
  unfold wd
  rw [stw_get _ _ _ _ (by omega)]
  by_cases e : i = j
  · rw [if_pos e, if_pos e]
  · rw [if_neg e, if_neg e]
theorem IsArch.one (h : IsArch A) : A.all (·.oneCell') = true := by
  rw [Array.all_eq_true]
  intro i hi
  have hs := h.size
  by_cases e : i < 29
  · obtain ⟨x, hx, _⟩ := h.word i e
    rw [Array.getElem?_eq_getElem hi] at hx
    rw [Option.some.inj hx]; rfl
  · obtain ⟨b, hb⟩ := h.flag
    have : i = 29 := by omega
    subst this
    rw [Array.getElem?_eq_getElem hi] at hb
    rw [Option.some.inj hb]; rfl
theorem one_stw (h : A.all (·.oneCell') = true) (i : Nat) (v : Int) : (stw A i v).all (·.oneCell') = true := by
  rw [Array.all_eq_true] at h ⊢
  intro j hj
  have hj' : j < A.size := by rw [stw_size] at hj; exact hj
  show ((A.setIfInBounds i (.int .u32 v))[j]'(by simpa using hj')).oneCell' = true
  rw [Array.getElem_setIfInBounds hj']
  split
  · rfl
  · exact h j hj'
theorem IsArch.ext {B : Array Value} (h : IsArch A) (k : IsArch B) (hw : ∀ i, i < 29 → wd A i = wd B i) (hf : A[29]? = B[29]?) : A = B := by
  have hs := h.size
  have ks := k.size
  apply Array.ext_getElem?
  intro i
  by_cases e : i < 29
  · rw [h.at i e, k.at i e, hw i e]
  · by_cases e2 : i = 29
    · subst e2; exact hf
    · rw [Array.getElem?_eq_none (by omega), Array.getElem?_eq_none (by omega)]
theorem stw_flag (h : IsArch A) (i : Nat) (v : Int) (hi : i < 29) : (stw A i v)[29]? = A[29]? := by
  have hs := h.size
  rw [stw_get _ _ _ _ (by omega), if_neg (by omega)]
end
def zeroA : Array Value := #[.int .u32 0, .int .u32 0, .int .u32 0, .int .u32 0, .int .u32 0, .int .u32 0, .int .u32 0, .int .u32 0, .int .u32 0, .int .u32 0, .int .u32 0, .int .u32 0, .int .u32 0, .int .u32 0, .int .u32 0, .int .u32 0, .int .u32 0, .int .u32 0, .int .u32 0, .int .u32 0, .int .u32 0, .int .u32 0, .int .u32 0, .int .u32 0, .int .u32 0, .int .u32 0, .int .u32 0, .int .u32 0, .int .u32 0, .bool false]
theorem zeroA_is : IsArch zeroA := by
  refine ⟨rfl, fun i hi => ?_, false, rfl⟩
  have : zeroA = ((List.replicate 29 (Value.int .u32 0)) ++ [Value.bool false]).toArray := rfl
  rw [this]
  refine ⟨0, ?_, by decide, by decide⟩
  rw [List.getElem?_toArray, List.getElem?_append_left (by simpa using hi), List.getElem?_replicate, if_pos hi]
theorem zeroA_wd (i : Nat) : wd zeroA i = 0 := by
  have : zeroA = ((List.replicate 29 (Value.int .u32 0)) ++ [Value.bool false]).toArray := rfl
  unfold wd
  rw [this, List.getElem?_toArray]
  by_cases h : i < 29
  · rw [List.getElem?_append_left (by simpa using h), List.getElem?_replicate, if_pos h]
  · rw [List.getElem?_append_right (by simpa using h)]
    simp only [List.length_replicate]
    cases hk : i - 29 with
    | zero => rfl
    | succ k => rfl
theorem size_of {A : Array Value} (h : A.size = 30) : (Try.prog.info? 26).map (·.size) = some A.size := by rw [h]; kernel_rfl
end Go.Proofs.Ytegpadmlidaljaa.Arch
