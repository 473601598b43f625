/- Behind as many branches as there are bits nothing is left of what was ahead: the plain law of HistForgets. No condition but that the histories are words. -/
import Derived.Test.YtghmllhcegioiaaPHistForgetsx1
import Derived.Test.YtghmllhcegioiaaBits
namespace Go.Proofs.Ytghmllhcegioiaa.Forgets
open Go.RowKit Go.Proofs.Ytghmllhcegioiaa.PHistForgets Go.Proofs.YtghmllhcegioiaaW.PrintWords Go.Proofs.YtghmllhcegioiaaW.PrintLast Go.Proofs.Ytghmllhcegioiaa.Plain

/-! ### Histories: what the functions come to -/
/-- How many bits count. -/
def M (a : Int) : Nat := (mn (mx a 0) 8).toNat
theorem M_le (a : Int) : M a ≤ 8 := by unfold M mn mx; split <;> split <;> omega
theorem M_int (a : Int) : mn (mx a 0) 8 = (M a : Int) := by unfold M mn mx; split <;> split <;> omega
theorem M_of (a : Int) : M a = if a < 0 then 0 else if a > 8 then 8 else a.toNat := by unfold M mn mx; (repeat' split) <;> omega
theorem M_cases (a : Int) : M a = 0 ∨ M a = 1 ∨ M a = 2 ∨ M a = 3 ∨ M a = 4 ∨ M a = 5 ∨ M a = 6 ∨ M a = 7 ∨ M a = 8 := by have := M_le a; omega
theorem mask_f (a : Int) : hist_Mask.f a = some ((2 ^ M a - 1 : Nat) : Int) := by
  have hs : ∀ m : Nat, m ≤ 8 → ((shl .u32 1 (m : Int)) - 1) % 4294967296 = ((2 ^ m - 1 : Nat) : Int) := by
    intro m hm
    have : m = 0 ∨ m = 1 ∨ m = 2 ∨ m = 3 ∨ m = 4 ∨ m = 5 ∨ m = 6 ∨ m = 7 ∨ m = 8 := by omega
    rcases this with rfl | rfl | rfl | rfl | rfl | rfl | rfl | rfl | rfl <;> decide
  unfold hist_Mask.f hist_many.f
  simp only [Option.bind_some, M_int]
  rw [if_pos (by omega), hs _ (M_le a)]
theorem push_f (h : Nat) (a : Int) (t : Bool) : hist_Push.f h a t = some (((2 * h + t.toNat) % 2 ^ M a : Nat) : Int) := by
  have e0 : ((h : Int) * 2) % 4294967296 = ((2 * h % 4294967296 : Nat) : Int) := by omega
  have hor : (2 * h % 4294967296) ||| 1 = 2 * h % 4294967296 + 1 := by
    have := Nat.two_pow_add_eq_or_of_lt (i := 1) (b := 1) (by decide) (h % 2147483648)
    have e : 2 * h % 4294967296 = 2 ^ 1 * (h % 2147483648) := by omega
    rw [e, ← this]
  have hmod : ∀ x : Nat, (x % 4294967296) % 2 ^ M a = x % 2 ^ M a := fun x => by
    rcases M_cases a with e | e | e | e | e | e | e | e | e <;> rw [e] <;> omega
  unfold hist_Push.f
  simp only [mask_f, Option.bind_some]
  cases t with
  | true =>
    simp only [if_true, Bool.toNat_true]
    rw [e0, show (1 : Int) = ((1 : Nat) : Int) from rfl, or32 _ _ (by omega) (by decide), hor, and32_mask _ _ (by omega) (by have := M_le a; omega)]
    have : 2 * h % 4294967296 + 1 = (2 * h + 1) % 4294967296 := by omega
    rw [this, hmod]
  | false =>
    simp only [Bool.toNat_false, Bool.false_eq_true, if_false, Nat.add_zero]
    rw [e0, and32_mask _ _ (by omega) (by have := M_le a; omega), hmod]
/-- A word folded into m bits. -/
def fo (m x : Nat) : Nat := if h : x = 0 ∨ m = 0 then 0 else (x % 2 ^ m) ^^^ fo m (x / 2 ^ m)
termination_by x
decreasing_by
  have : 1 < 2 ^ m := Nat.one_lt_two_pow (by omega)
  exact Nat.div_lt_self (by omega) this
theorem fo_zero (m : Nat) : fo m 0 = 0 := by rw [fo]; simp
theorem fo_none (x : Nat) : fo 0 x = 0 := by rw [fo]; simp
theorem fo_step {m x : Nat} (hm : 0 < m) : fo m x = (x % 2 ^ m) ^^^ fo m (x / 2 ^ m) := by
  by_cases hx : x = 0
  · subst hx; simp [fo_zero]
  · rw [fo, dif_neg (by omega)]
theorem fo_lt (m : Nat) : ∀ x, fo m x < 2 ^ m := by
  intro x
  induction x using Nat.strongRecOn with
  | ind x ih =>
    by_cases hx : x = 0 ∨ m = 0
    · rw [fo, dif_pos hx]; exact Nat.two_pow_pos m
    · rw [fo, dif_neg hx]
      have : 1 < 2 ^ m := Nat.one_lt_two_pow (by omega)
      exact Nat.xor_lt_two_pow (Nat.mod_lt _ (by omega)) (ih _ (Nat.div_lt_self (by omega) this))
theorem fold_ends (m : Nat) (hm : 0 < m) (h8 : m ≤ 8) : ∀ (x acc : Nat), x < 4294967296 → acc < 4294967296 → Ev (fun k => hist_Fold.l0 k x acc m) ((acc ^^^ fo m x : Nat) : Int) := by
  intro x
  induction x using Nat.strongRecOn with
  | ind x ih =>
    intro acc hx hacc
    have hM : M m = m := by rw [M_of]; (repeat' split) <;> omega
    by_cases h0 : x = 0
    · subst h0
      refine Ev.step (f := fun k => some (acc : Int)) (fun k => ?_) ?_
      · simp only [hist_Fold.l0]; rw [if_pos (by omega), if_pos (by omega)]
      · rw [fo_zero, Nat.xor_zero]; exact Ev.now _
    · have h1 : 1 < 2 ^ m := Nat.one_lt_two_pow (by omega)
      have hlt : x / 2 ^ m < x := Nat.div_lt_self (by omega) h1
      have hmod : x % 2 ^ m < 4294967296 := Nat.lt_of_le_of_lt (Nat.mod_le _ _) hx
      refine Ev.step (f := fun k => hist_Fold.l0 k ((x / 2 ^ m : Nat) : Int) ((acc ^^^ (x % 2 ^ m) : Nat) : Int) m) (fun k => ?_) ?_
      · simp only [hist_Fold.l0]
        rw [if_pos (by omega), if_neg (by omega), mask_f, hM]
        simp only [Option.bind_some]
        rw [if_pos (by omega), and32_mask _ _ hx (by omega), xor32 _ _ hacc hmod]
        congr 1
        unfold shr
        have : min ((m : Int).toNat) (IntKind.u32.bits) = m := by simp [IntKind.bits]; omega
        rw [this]
        simp
      · have := ih (x / 2 ^ m) hlt (acc ^^^ (x % 2 ^ m)) (by omega) (Nat.xor_lt_two_pow (n := 32) hacc hmod)
        rw [Nat.xor_assoc, ← fo_step hm] at this
        exact this
theorem fold_f (x : Nat) (a : Int) (hx : x < 4294967296) : Ev (fun k => hist_Fold.f k x a) ((fo (M a) x : Nat) : Int) := by
  unfold hist_Fold.f hist_many.f
  simp only [Option.bind_some, M_int]
  by_cases h0 : M a = 0
  · rw [h0, fo_none]
    refine Ev.step (f := fun k => some (0 : Int)) (fun k => ?_) (Ev.now _)
    simp only [hist_Fold.l0]; rw [if_neg (by simp)]
  · have := fold_ends (M a) (by omega) (M_le a) x 0 hx (by decide)
    rw [Nat.zero_xor] at this
    exact this
/-- What branches did. -/
def las : Nat → Nat → List Bool
  | 0, _ => []
  | m + 1, h => (h % 2 == 1) :: las m (h / 2)
theorem las_length (m : Nat) : ∀ h, (las m h).length = m := by
  induction m with
  | zero => intro h; rfl
  | succ m ih => intro h; simp [las, ih]
theorem last_ends (m : Nat) (h8 : m ≤ 8) (d : Nat) : ∀ (i h : Nat) (acc : List Bool), i + d = m → h < 4294967296 → acc.length = i → Ev (fun k => hist_Last.l0 k h acc m i) (acc ++ las d h) := by
  induction d with
  | zero =>
    intro i h acc hi hh ha
    refine Ev.step (f := fun k => some acc) (fun k => ?_) ?_
    · simp only [hist_Last.l0]; rw [if_neg (by omega)]
    · simp only [las, List.append_nil]; exact Ev.now _
  | succ d ih =>
    intro i h acc hi hh ha
    refine Ev.step (f := fun k => hist_Last.l0 k ((h / 2 : Nat) : Int) (acc ++ [h % 2 == 1]) m ((i + 1 : Nat) : Int)) (fun k => ?_) ?_
    · simp only [hist_Last.l0]; rw [if_pos (by omega), if_pos (by omega), and32_one _ hh]
      have e1 : wrap64 ((i : Int) + 1) = ((i + 1 : Nat) : Int) := by unfold wrap64; omega
      have e2 : ((h : Int) / 2) = ((h / 2 : Nat) : Int) := by omega
      have e3 : (((h % 2 : Nat) : Int) == 1) = (h % 2 == 1) := by
        rw [Bool.eq_iff_iff]; simp only [beq_iff_eq]; omega
      rw [e1, e2, e3]
    · have := ih (i + 1) (h / 2) (acc ++ [h % 2 == 1]) (by omega) (by omega) (by simp [ha])
      simpa [las, List.append_assoc] using this
theorem last_f (h : Nat) (a : Int) (hh : h < 4294967296) : Ev (fun k => hist_Last.f k h a) (las (M a) h) := by
  unfold hist_Last.f hist_many.f
  simp only [Option.bind_some, M_int]
  exact last_ends (M a) (M_le a) (M a) 0 h [] (by omega) hh rfl
/-- A history with one branch more, of m bits. -/
def pu (m h : Nat) (t : Bool) : Nat := (2 * h + t.toNat) % 2 ^ m
theorem pu_lt (m h : Nat) (t : Bool) : pu m h t < 2 ^ m := Nat.mod_lt _ (Nat.two_pow_pos m)
/-- The histories behind the first k branches. -/
def hs (m : Nat) (l : List Bool) (x k : Nat) : Nat := (l.take k).foldl (pu m) x
theorem hs_zero (m : Nat) (l : List Bool) (x : Nat) : hs m l x 0 = x := rfl
theorem hs_succ (m : Nat) (l : List Bool) (x k : Nat) (hk : k < l.length) : hs m l x (k + 1) = pu m (hs m l x k) (rdOf false l (k : Int)) := by
  unfold hs
  rw [List.take_succ_eq_append_getElem hk, List.foldl_append]
  simp [rdOf, List.getD_eq_getElem?_getD, hk]
theorem hs_push (n : Int) (l : List Bool) (x k : Nat) (hk : k < l.length) : hist_Push.f (hs (M n) l x k) n (rdOf false l (k : Int)) = some ((hs (M n) l x (k + 1) : Nat) : Int) := by
  rw [push_f, hs_succ _ _ _ _ hk]; rfl
theorem pu_alike (m j x y : Nat) (t : Bool) (h : x % 2 ^ j = y % 2 ^ j) : pu m x t % 2 ^ min (j + 1) m = pu m y t % 2 ^ min (j + 1) m := by
  unfold pu
  have h1 : ∀ z : Nat, z % 2 ^ m % 2 ^ min (j + 1) m = z % 2 ^ (j + 1) % 2 ^ min (j + 1) m := fun z => by
    rw [Nat.mod_mod_of_dvd _ (Nat.pow_dvd_pow 2 (Nat.min_le_right _ _)), Nat.mod_mod_of_dvd _ (Nat.pow_dvd_pow 2 (Nat.min_le_left _ _))]
  have h2 : ∀ z : Nat, (2 * z + t.toNat) % 2 ^ (j + 1) = (2 * (z % 2 ^ j) + t.toNat) % 2 ^ (j + 1) := fun z => by
    have e : 2 * z + t.toNat = 2 * (z % 2 ^ j) + t.toNat + 2 ^ (j + 1) * (z / 2 ^ j) := by
      have := Nat.div_add_mod z (2 ^ j)
      rw [Nat.pow_succ, Nat.mul_comm (2 ^ j) 2, Nat.mul_assoc]
      omega
    rw [e, Nat.add_mul_mod_self_left]
  rw [h1, h1, h2, h2 y, h]
theorem hs_alike (m : Nat) (l : List Bool) (x y : Nat) : ∀ k, k ≤ l.length → hs m l x k % 2 ^ min k m = hs m l y k % 2 ^ min k m := by
  intro k
  induction k with
  | zero => intro _; simp [Nat.mod_one]
  | succ k ih =>
    intro hk
    rw [hs_succ _ _ _ _ (by omega), hs_succ _ _ _ _ (by omega)]
    by_cases h : k ≤ m
    · have := ih (by omega)
      rw [Nat.min_eq_left h] at this
      exact pu_alike m k _ _ _ this
    · have := ih (by omega)
      rw [Nat.min_eq_right (by omega)] at this
      have h3 := pu_alike m m _ _ (rdOf false l (k : Int)) this
      rw [Nat.min_eq_right (by omega)] at h3 ⊢
      exact h3
theorem hs_end (n : Int) (l : List Bool) (x y : Nat) (h : n ≤ (l.length : Int)) : l.length = 0 ∨ (hs (M n) l x l.length = hs (M n) l y l.length ∧ ((hs (M n) l x l.length : Nat) : Int) ≤ ((2 ^ M n - 1 : Nat) : Int)) := by
  by_cases h0 : l.length = 0
  · exact .inl h0
  · right
    have hM : M n ≤ l.length := by rw [M_of]; (repeat' split) <;> omega
    have hlt : ∀ z, hs (M n) l z l.length < 2 ^ M n := fun z => by
      obtain ⟨k, hk⟩ : ∃ k, l.length = k + 1 := ⟨l.length - 1, by omega⟩
      rw [hk, hs_succ _ _ _ _ (by omega)]
      exact pu_lt _ _ _
    have e := hs_alike (M n) l x y l.length (Nat.le_refl _)
    rw [Nat.min_eq_right hM, Nat.mod_eq_of_lt (hlt x), Nat.mod_eq_of_lt (hlt y)] at e
    have := hlt x
    exact ⟨e, by omega⟩
end Go.Proofs.Ytghmllhcegioiaa.Forgets
