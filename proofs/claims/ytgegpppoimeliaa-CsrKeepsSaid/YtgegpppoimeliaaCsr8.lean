/- Registers that have none but their bits keep to that, and no line is lost: plain lemmas. The one condition is that the cells are a core's. -/
import Derived.Test.YtgegpppoimeliaaCsr7
import Derived.Test.YtgegpppoimeliaaBoxes3
namespace Go.Proofs.Ytgegpppoimeliaa.Csr
open Go Go.Proofs Go.RowKit Go.Proofs.YtgegpppoimeliaaW.PrintWords Go.Proofs.Ytgegpppoimeliaa.Boxes Go.Proofs.Ytgegpppoimeliaa.Arch Go.Proofs.Ytgegpppoimeliaa.Plain
def U (x : Int) : Prop := 0 ≤ x ∧ x < 4294967296
theorem and_and {v m : Int} (hv : U v) (hm : U m) : Go.bits .and .u32 (Go.bits .and .u32 v m) m = Go.bits .and .u32 v m := by
  obtain ⟨v, rfl⟩ := nat_of hv.1
  obtain ⟨m, rfl⟩ := nat_of hm.1
  have h1 := hv.2
  have h2 := hm.2
  have h3 := Nat.and_lt_two_pow (n := 32) v (y := m) (by omega)
  rw [and32 v m (by omega) (by omega), and32 (v &&& m) m (by omega) (by omega)]
  congr 1
  apply Nat.eq_of_testBit_eq
  intro j
  simp only [Nat.testBit_and]
  cases v.testBit j <;> cases m.testBit j <;> rfl
theorem or_and {x y m : Int} (hx : U x) (hy : U y) (hm : U m) (h1 : Go.bits .and .u32 x m = x) (h2 : Go.bits .and .u32 y m = y) : Go.bits .and .u32 (Go.bits .or .u32 x y) m = Go.bits .or .u32 x y := by
  obtain ⟨x, rfl⟩ := nat_of hx.1
  obtain ⟨y, rfl⟩ := nat_of hy.1
  obtain ⟨m, rfl⟩ := nat_of hm.1
  have q1 := hx.2
  have q2 := hy.2
  have q3 := hm.2
  have h3 := Nat.or_lt_two_pow (n := 32) (x := x) (y := y) (by omega) (by omega)
  rw [and32 x m (by omega) (by omega)] at h1
  rw [and32 y m (by omega) (by omega)] at h2
  rw [or32 x y (by omega) (by omega), and32 (x ||| y) m (by omega) (by omega)]
  congr 1
  apply Nat.eq_of_testBit_eq
  intro j
  have e1 : (x &&& m).testBit j = x.testBit j := by rw [show x &&& m = x by omega]
  have e2 : (y &&& m).testBit j = y.testBit j := by rw [show y &&& m = y by omega]
  simp only [Nat.testBit_and, Nat.testBit_or] at e1 e2 ⊢
  revert e1 e2
  cases x.testBit j <;> cases y.testBit j <;> cases m.testBit j <;> simp
theorem or_keeps {x y : Int} (hx : U x) (hy : U y) : Go.bits .and .u32 (Go.bits .or .u32 x y) x = x := by
  obtain ⟨x, rfl⟩ := nat_of hx.1
  obtain ⟨y, rfl⟩ := nat_of hy.1
  have q1 := hx.2
  have q2 := hy.2
  have h3 := Nat.or_lt_two_pow (n := 32) (x := x) (y := y) (by omega) (by omega)
  rw [or32 x y (by omega) (by omega), and32 (x ||| y) x (by omega) (by omega)]
  congr 1
  apply Nat.eq_of_testBit_eq
  intro j
  simp only [Nat.testBit_and, Nat.testBit_or]
  cases x.testBit j <;> cases y.testBit j <;> rfl
theorem and_self32 {x : Int} (hx : U x) : Go.bits .and .u32 x x = x := by
  obtain ⟨x, rfl⟩ := nat_of hx.1
  have q1 := hx.2
  rw [and32 x x (by omega) (by omega), Nat.and_self]
theorem and_full {x : Int} (hx : U x) : Go.bits .and .u32 x 4294967295 = x := by
  obtain ⟨x, rfl⟩ := nat_of hx.1
  have q1 := hx.2
  have := and32_mask x 32 (by omega) (by decide)
  rw [show (((2 ^ 32 - 1 : Nat)) : Int) = 4294967295 from rfl] at this
  rw [this, Nat.mod_eq_of_lt (by omega)]
section
variable {A : Array Value}
theorem bits_get (h : bitsB A = true) (i : Nat) (hi : i < 12) : Go.bits .and .u32 (wd A (17 + i)) (mk i) = wd A (17 + i) := by
  unfold bitsB at h
  rw [List.all_eq_true] at h
  have := h i (by simpa using hi)
  unfold okb at this
  simpa using this
theorem bits_stw (hA : IsArch A) (h : bitsB A = true) (i : Nat) (hi : i < 12) {v : Int} (hv : Go.bits .and .u32 v (mk i) = v) : bitsB (stw A (17 + i) v) = true := by
  refine bits_all fun j hj => ?_
  unfold okb
  rw [wd_stw hA _ _ _ (by omega)]
  by_cases e : i = j
  · subst e; rw [if_pos rfl, hv]; simp
  · rw [if_neg (by omega), bits_get h j hj]; simp
theorem wr_bits (hA : IsArch A) (h : bitsB A = true) (k : Bool) (n : Int) {v : Int} (hv : U v) (hc : my k n false = 0) : bitsB (wrA A k n v) = true := by
  have hr := my_range hc
  unfold wrA
  rw [if_pos hc]
  have hn : ((n.toNat : Nat) : Int) = n := Int.toNat_of_nonneg hr.1
  refine bits_stw hA h n.toNat (by omega) ?_
  rw [hn]
  exact and_and hv (mk_bound n)
theorem cnt_bits (hA : IsArch A) (h : bitsB A = true) : bitsB (cntA A) = true := by
  have h1 := bits_stw hA h 7 (by decide) (v := (wd A 24 + 1) % 4294967296) (and_full ⟨by omega, by omega⟩)
  have hA1 := hA.stw (i := 24) (by decide) (v := (wd A 24 + 1) % 4294967296) (by omega) (by omega)
  unfold cntA
  split
  · refine bits_stw hA1 h1 10 (by decide) ?_
    exact or_and (hA.lo 27 (by decide)) ⟨by decide, by decide⟩ (mk_bound 10) (bits_get h 10 (by decide)) rfl
  · exact h1
theorem rs_bits (hA : IsArch A) (h : bitsB A = true) {l : Int} (hl : U l) : bitsB (rsA A l) = true := by
  have hb := and_bound hl (show (0 : Int) ≤ 7 ∧ (7 : Int) < 4294967296 by decide)
  exact bits_stw hA h 10 (by decide) (or_and (hA.lo 27 (by decide)) hb (mk_bound 10) (bits_get h 10 (by decide)) (and_and hl (show U 7 from ⟨by decide, by decide⟩)))
theorem rs_keeps (hA : IsArch A) {l : Int} (hl : U l) : Go.bits .and .u32 (wd (rsA A l) 27) (wd A 27) = wd A 27 := by
  unfold rsA
  rw [wd_stw hA _ _ _ (by decide), if_pos rfl]
  exact or_keeps (hA.lo 27 (by decide)) (and_bound hl (show (0 : Int) ≤ 7 ∧ (7 : Int) < 4294967296 by decide))
theorem cnt_keeps (hA : IsArch A) : Go.bits .and .u32 (wd (cntA A) 27) (wd A 27) = wd A 27 := by
  have hA1 := hA.stw (i := 24) (by decide) (v := (wd A 24 + 1) % 4294967296) (by omega) (by omega)
  unfold cntA
  split
  · rw [wd_stw hA1 _ _ _ (by decide), if_pos rfl]
    exact or_keeps (hA.lo 27 (by decide)) ⟨by decide, by decide⟩
  · rw [wd_stw hA _ _ _ (by decide), if_neg (by decide)]
    exact and_self32 (hA.lo 27 (by decide))
theorem wr_keeps (hA : IsArch A) (k : Bool) (n : Int) {v : Int} (hc : my k n false = 0) (hn : n ≠ 10) : wd (wrA A k n v) 27 = wd A 27 := by
  have hr := my_range hc
  unfold wrA
  rw [if_pos hc, wd_stw hA _ _ _ (by omega), if_neg (by omega)]
end
end Go.Proofs.Ytgegpppoimeliaa.Csr
