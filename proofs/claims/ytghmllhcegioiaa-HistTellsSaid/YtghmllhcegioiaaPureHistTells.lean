/- The program's histories, folded words and lists of what branches did are the document's, for every word, number of bits and branch. No condition. -/
import Derived.Test.YtghmllhcegioiaaOHistTellsx2
import Derived.Test.YtghmllhcegioiaaBits
namespace Go.Proofs.Ytghmllhcegioiaa.Pure
open Go.RowKit Go.Proofs.Ytghmllhcegioiaa.PHistTells Go.Proofs.YtghmllhcegioiaaW.PrintWords Go.Proofs.YtghmllhcegioiaaW.PrintLast Go.Proofs.Ytghmllhcegioiaa.Plain

/-! ### Histories: what the functions come to -/
/-- How many bits count. -/
def M (a : Int) : Nat := (mn (mx a 0) 8).toNat
theorem M_le (a : Int) : M a ≤ 8 := by unfold M mn mx; split <;> split <;> omega
theorem M_int (a : Int) : mn (mx a 0) 8 = (M a : Int) := by unfold M mn mx; split <;> split <;> omega
theorem M_of (a : Int) : M a = if a < 0 then 0 else if a > 8 then 8 else a.toNat := by unfold M mn mx; (repeat' split) <;> omega
theorem M_cases (a : Int) : M a = 0 ∨ M a = 1 ∨ M a = 2 ∨ M a = 3 ∨ M a = 4 ∨ M a = 5 ∨ M a = 6 ∨ M a = 7 ∨ M a = 8 := by have := M_le a; omega
theorem mask_f (a : Int) : hist_Mask.f a = some ((2 ^ M a - 1 : Nat) : Int) := by
  have hs : ∀ m : Nat, m ≤ 8 → ((shl .u32 1 (m : Int)) - 1) % 4294967296 = ((2 ^ m - 1 : Nat) : Int) := by
    intro m hm
    have : m = 0 ∨ m = 1 ∨ m = 2 ∨ m = 3 ∨ m = 4 ∨ m = 5 ∨ m = 6 ∨ m = 7 ∨ m = 8 := by omega
    rcases this with rfl | rfl | rfl | rfl | rfl | rfl | rfl | rfl | rfl <;> decide
  unfold hist_Mask.f hist_many.f
  simp only [Option.bind_some, M_int]
  rw [if_pos (by omega), hs _ (M_le a)]
theorem push_f (h : Nat) (a : Int) (t : Bool) : hist_Push.f h a t = some (((2 * h + t.toNat) % 2 ^ M a : Nat) : Int) := by
  have e0 : ((h : Int) * 2) % 4294967296 = ((2 * h % 4294967296 : Nat) : Int) := by omega
  have hor : (2 * h % 4294967296) ||| 1 = 2 * h % 4294967296 + 1 := by
    have := Nat.two_pow_add_eq_or_of_lt (i := 1) (b := 1) (by decide) (h % 2147483648)
    have e : 2 * h % 4294967296 = 2 ^ 1 * (h % 2147483648) := by omega
    rw [e, ← this]
  have hmod : ∀ x : Nat, (x % 4294967296) % 2 ^ M a = x % 2 ^ M a := fun x => by
    rcases M_cases a with e | e | e | e | e | e | e | e | e <;> rw [e] <;> omega
  unfold hist_Push.f
  simp only [mask_f, Option.bind_some]
  cases t with
  | true =>
    simp only [if_true, Bool.toNat_true]
    rw [e0, show (1 : Int) = ((1 : Nat) : Int) from rfl, or32 _ _ (by omega) (by decide), hor, and32_mask _ _ (by omega) (by have := M_le a; omega)]
    have : 2 * h % 4294967296 + 1 = (2 * h + 1) % 4294967296 := by omega
    rw [this, hmod]
  | false =>
    simp only [Bool.toNat_false, Bool.false_eq_true, if_false, Nat.add_zero]
    rw [e0, and32_mask _ _ (by omega) (by have := M_le a; omega), hmod]
/-- A word folded into m bits. -/
def fo (m x : Nat) : Nat := if h : x = 0 ∨ m = 0 then 0 else (x % 2 ^ m) ^^^ fo m (x / 2 ^ m)
termination_by x
decreasing_by
  have : 1 < 2 ^ m := Nat.one_lt_two_pow (by omega)
  exact Nat.div_lt_self (by omega) this
theorem fo_zero (m : Nat) : fo m 0 = 0 := by rw [fo]; simp
theorem fo_none (x : Nat) : fo 0 x = 0 := by rw [fo]; simp
theorem fo_step {m x : Nat} (hm : 0 < m) : fo m x = (x % 2 ^ m) ^^^ fo m (x / 2 ^ m) := by
  by_cases hx : x = 0
  · subst hx; simp [fo_zero]
  · rw [fo, dif_neg (by omega)]
theorem fo_lt (m : Nat) : ∀ x, fo m x < 2 ^ m := by
  intro x
  induction x using Nat.strongRecOn with
  | ind x ih =>
    by_cases hx : x = 0 ∨ m = 0
    · rw [fo, dif_pos hx]; exact Nat.two_pow_pos m
    · rw [fo, dif_neg hx]
      have : 1 < 2 ^ m := Nat.one_lt_two_pow (by omega)
      exact Nat.xor_lt_two_pow (Nat.mod_lt _ (by omega)) (ih _ (Nat.div_lt_self (by omega) this))
theorem fold_ends (m : Nat) (hm : 0 < m) (h8 : m ≤ 8) : ∀ (x acc : Nat), x < 4294967296 → acc < 4294967296 → Ev (fun k => hist_Fold.l0 k x acc m) ((acc ^^^ fo m x : Nat) : Int) := by
  intro x
  induction x using Nat.strongRecOn with
  | ind x ih =>
    intro acc hx hacc
    have hM : M m = m := by rw [M_of]; (repeat' split) <;> omega
    by_cases h0 : x = 0
    · subst h0
      refine Ev.step (f := fun k => some (acc : Int)) (fun k => ?_) ?_
      · simp only [hist_Fold.l0]; rw [if_pos (by omega), if_pos (by omega)]
      · rw [fo_zero, Nat.xor_zero]; exact Ev.now _
    · have h1 : 1 < 2 ^ m := Nat.one_lt_two_pow (by omega)
      have hlt : x / 2 ^ m < x := Nat.div_lt_self (by omega) h1
      have hmod : x % 2 ^ m < 4294967296 := Nat.lt_of_le_of_lt (Nat.mod_le _ _) hx
      refine Ev.step (f := fun k => hist_Fold.l0 k ((x / 2 ^ m : Nat) : Int) ((acc ^^^ (x % 2 ^ m) : Nat) : Int) m) (fun k => ?_) ?_
      · simp only [hist_Fold.l0]
        rw [if_pos (by omega), if_neg (by omega), mask_f, hM]
        simp only [Option.bind_some]
        rw [if_pos (by omega), and32_mask _ _ hx (by omega), xor32 _ _ hacc hmod]
        congr 1
        unfold shr
        have : min ((m : Int).toNat) (IntKind.u32.bits) = m := by simp [IntKind.bits]; omega
        rw [this]
        simp
      · have := ih (x / 2 ^ m) hlt (acc ^^^ (x % 2 ^ m)) (by omega) (Nat.xor_lt_two_pow (n := 32) hacc hmod)
        rw [Nat.xor_assoc, ← fo_step hm] at this
        exact this
theorem fold_f (x : Nat) (a : Int) (hx : x < 4294967296) : Ev (fun k => hist_Fold.f k x a) ((fo (M a) x : Nat) : Int) := by
  unfold hist_Fold.f hist_many.f
  simp only [Option.bind_some, M_int]
  by_cases h0 : M a = 0
  · rw [h0, fo_none]
    refine Ev.step (f := fun k => some (0 : Int)) (fun k => ?_) (Ev.now _)
    simp only [hist_Fold.l0]; rw [if_neg (by simp)]
  · have := fold_ends (M a) (by omega) (M_le a) x 0 hx (by decide)
    rw [Nat.zero_xor] at this
    exact this
/-- What branches did. -/
def las : Nat → Nat → List Bool
  | 0, _ => []
  | m + 1, h => (h % 2 == 1) :: las m (h / 2)
theorem las_length (m : Nat) : ∀ h, (las m h).length = m := by
  induction m with
  | zero => intro h; rfl
  | succ m ih => intro h; simp [las, ih]
theorem last_ends (m : Nat) (h8 : m ≤ 8) (d : Nat) : ∀ (i h : Nat) (acc : List Bool), i + d = m → h < 4294967296 → acc.length = i → Ev (fun k => hist_Last.l0 k h acc m i) (acc ++ las d h) := by
  induction d with
  | zero =>
    intro i h acc hi hh ha
    refine Ev.step (f := fun k => some acc) (fun k => ?_) ?_
    · simp only [hist_Last.l0]; rw [if_neg (by omega)]
    · simp only [las, List.append_nil]; exact Ev.now _
  | succ d ih =>
    intro i h acc hi hh ha
    refine Ev.step (f := fun k => hist_Last.l0 k ((h / 2 : Nat) : Int) (acc ++ [h % 2 == 1]) m ((i + 1 : Nat) : Int)) (fun k => ?_) ?_
    · simp only [hist_Last.l0]; rw [if_pos (by omega), if_pos (by omega), and32_one _ hh]
      have e1 : wrap64 ((i : Int) + 1) = ((i + 1 : Nat) : Int) := by unfold wrap64; omega
      have e2 : ((h : Int) / 2) = ((h / 2 : Nat) : Int) := by omega
      have e3 : (((h % 2 : Nat) : Int) == 1) = (h % 2 == 1) := by
        rw [Bool.eq_iff_iff]; simp only [beq_iff_eq]; omega
      rw [e1, e2, e3]
    · have := ih (i + 1) (h / 2) (acc ++ [h % 2 == 1]) (by omega) (by omega) (by simp [ha])
      simpa [las, List.append_assoc] using this
theorem last_f (h : Nat) (a : Int) (hh : h < 4294967296) : Ev (fun k => hist_Last.f k h a) (las (M a) h) := by
  unfold hist_Last.f hist_many.f
  simp only [Option.bind_some, M_int]
  exact last_ends (M a) (M_le a) (M a) 0 h [] (by omega) hh rfl
/-! ### The document's -/
theorem brought_f (a : Int) : cotterelref17_brought.f a = some (M a : Int) := by
  unfold cotterelref17_brought.f
  rw [M_of]
  (repeat' split) <;> simp <;> omega
theorem rmask_ends (a : Int) (d : Nat) : ∀ i : Nat, i + d = M a → Ev (fun k => cotterelref17_Mask.l0 k a ((2 ^ i : Nat) : Int) i) ((2 ^ M a - 1 : Nat) : Int) := by
  induction d with
  | zero =>
    intro i hi
    have hi' : i = M a := by omega
    refine Ev.step (f := fun k => some ((2 ^ M a - 1 : Nat) : Int)) (fun k => ?_) (Ev.now _)
    simp only [cotterelref17_Mask.l0, brought_f, Option.bind_some]
    rw [if_neg (by omega), hi']
    have := Nat.two_pow_pos (M a)
    rcases M_cases a with e | e | e | e | e | e | e | e | e <;> rw [e] <;> decide
  | succ d ih =>
    intro i hi
    have h8 := M_le a
    refine Ev.step (f := fun k => cotterelref17_Mask.l0 k a ((2 ^ (i + 1) : Nat) : Int) ((i + 1 : Nat) : Int)) (fun k => ?_) (ih (i + 1) (by omega))
    simp only [cotterelref17_Mask.l0, brought_f, Option.bind_some]
    rw [if_pos (by omega)]
    have e1 : wrap64 ((i : Int) + 1) = ((i + 1 : Nat) : Int) := by unfold wrap64; omega
    have hp : 2 ^ i ≤ 2 ^ 8 := Nat.pow_le_pow_right (by decide) (by omega)
    have e2 : (2 * ((2 ^ i : Nat) : Int)) % 4294967296 = ((2 ^ (i + 1) : Nat) : Int) := by rw [Nat.pow_succ]; omega
    rw [e1, e2]
theorem rmask_f (a : Int) : Ev (fun k => cotterelref17_Mask.f k a) ((2 ^ M a - 1 : Nat) : Int) := by
  unfold cotterelref17_Mask.f
  exact rmask_ends a (M a) 0 (by omega)
theorem size_eq (a : Int) : (((2 ^ M a - 1 : Nat) : Int) + 1) % 4294967296 = ((2 ^ M a : Nat) : Int) := by
  rcases M_cases a with e | e | e | e | e | e | e | e | e <;> rw [e] <;> decide
theorem rpush_f (h : Nat) (a : Int) (t : Bool) : Ev (fun k => cotterelref17_Push.f k h a t) (((2 * h + t.toNat) % 2 ^ M a : Nat) : Int) := by
  unfold cotterelref17_Push.f
  have hp := Nat.two_pow_pos (M a)
  cases t with
  | true =>
    simp only [if_true, Bool.toNat_true]
    refine Ev.bind (rmask_f a) ?_
    rw [size_eq, if_neg (by omega)]
    have : (((2 * (h : Int)) % 4294967296) + 1) % ((2 ^ M a : Nat) : Int) = (((2 * h + 1) % 2 ^ M a : Nat) : Int) := by
      rcases M_cases a with e | e | e | e | e | e | e | e | e <;> rw [e] <;> omega
    rw [this]; exact Ev.now _
  | false =>
    simp only [Bool.toNat_false, Bool.false_eq_true, if_false, Nat.add_zero]
    refine Ev.bind (rmask_f a) ?_
    rw [size_eq, if_neg (by omega)]
    have : ((2 * (h : Int)) % 4294967296) % ((2 ^ M a : Nat) : Int) = (((2 * h) % 2 ^ M a : Nat) : Int) := by
      rcases M_cases a with e | e | e | e | e | e | e | e | e <;> rw [e] <;> omega
    rw [this]; exact Ev.now _
theorem tmod2 (n : Nat) : Int.tmod (n : Int) 2 = ((n % 2 : Nat) : Int) := by rw [Int.tmod_eq_emod_of_nonneg (by omega)]; omega
theorem tdiv2 (n : Nat) (h : n < 4294967296) : (Int.tdiv (n : Int) 2) % 4294967296 = ((n / 2 : Nat) : Int) := by rw [Int.tdiv_eq_ediv_of_nonneg (by omega)]; omega
theorem xor_two (a b : Nat) : (a ^^^ b) % 2 = if a % 2 = b % 2 then 0 else 1 := by
  have h := xor_mod a b 1
  simp only [Nat.pow_one] at h
  rw [h]
  rcases Nat.mod_two_eq_zero_or_one a with ha | ha <;> rcases Nat.mod_two_eq_zero_or_one b with hb | hb <;> rw [ha, hb] <;> decide
theorem both_ends (a b : Nat) (ha : a < 4294967296) (hb : b < 4294967296) (d : Nat) : ∀ i : Nat, i + d = 32 →
    Ev (fun k => cotterelref17_both.l0 k ((a / 2 ^ i : Nat) : Int) ((b / 2 ^ i : Nat) : Int) (((a ^^^ b) % 2 ^ i : Nat) : Int) ((2 ^ i % 4294967296 : Nat) : Int) i) ((a ^^^ b : Nat) : Int) := by
  have hx : a ^^^ b < 2 ^ 32 := Nat.xor_lt_two_pow ha hb
  induction d with
  | zero =>
    intro i hi
    have hi' : i = 32 := by omega
    subst hi'
    refine Ev.step (f := fun k => some (((a ^^^ b) : Nat) : Int)) (fun k => ?_) (Ev.now _)
    simp only [cotterelref17_both.l0]
    rw [if_neg (by omega), Nat.mod_eq_of_lt hx]
  | succ d ih =>
    intro i hi
    refine Ev.step (f := fun k => cotterelref17_both.l0 k ((a / 2 ^ (i + 1) : Nat) : Int) ((b / 2 ^ (i + 1) : Nat) : Int) (((a ^^^ b) % 2 ^ (i + 1) : Nat) : Int) ((2 ^ (i + 1) % 4294967296 : Nat) : Int) ((i + 1 : Nat) : Int)) (fun k => ?_) (ih (i + 1) (by omega))
    have hp : 2 ^ i ≤ 2 ^ 31 := Nat.pow_le_pow_right (by decide) (by omega)
    have e1 : wrap64 ((i : Int) + 1) = ((i + 1 : Nat) : Int) := by unfold wrap64; omega
    have e2 : (2 * ((2 ^ i % 4294967296 : Nat) : Int)) % 4294967296 = ((2 ^ (i + 1) % 4294967296 : Nat) : Int) := by rw [Nat.pow_succ]; omega
    have ea : a / 2 ^ i < 4294967296 := Nat.lt_of_le_of_lt (Nat.div_le_self _ _) ha
    have eb : b / 2 ^ i < 4294967296 := Nat.lt_of_le_of_lt (Nat.div_le_self _ _) hb
    have da : a / 2 ^ i / 2 = a / 2 ^ (i + 1) := by rw [Nat.div_div_eq_div_mul, Nat.pow_succ]
    have db : b / 2 ^ i / 2 = b / 2 ^ (i + 1) := by rw [Nat.div_div_eq_div_mul, Nat.pow_succ]
    have hxi : (a ^^^ b) % 2 ^ (i + 1) = (a ^^^ b) % 2 ^ i + 2 ^ i * ((a / 2 ^ i ^^^ b / 2 ^ i) % 2) := by
      rw [← xor_div, Nat.mod_pow_succ]
    simp only [cotterelref17_both.l0]
    rw [if_pos (by omega), tmod2, tmod2, tdiv2 _ ea, tdiv2 _ eb, da, db, e1, e2, hxi, xor_two]
    have hlt := Nat.mod_lt (a ^^^ b) (Nat.two_pow_pos i)
    by_cases hc : a / 2 ^ i % 2 = b / 2 ^ i % 2
    · rw [if_pos (by omega), if_pos hc]; simp only [Nat.mul_zero, Nat.add_zero]
    · rw [if_neg (by omega), if_neg hc, Nat.mul_one]
      congr 1
      omega
theorem both_f (a b : Nat) (ha : a < 4294967296) (hb : b < 4294967296) : Ev (fun k => cotterelref17_both.f k a b) ((a ^^^ b : Nat) : Int) := by
  unfold cotterelref17_both.f
  have := both_ends a b ha hb 32 0 rfl
  simpa [Nat.mod_one] using this
theorem rfold_ends (m : Nat) (hm : 0 < m) (h8 : m ≤ 8) : ∀ (x acc : Nat), x < 4294967296 → acc < 4294967296 → Ev (fun k => cotterelref17_Fold.l0 k x ((2 ^ m : Nat) : Int) acc) ((acc ^^^ fo m x : Nat) : Int) := by
  intro x
  induction x using Nat.strongRecOn with
  | ind x ih =>
    intro acc hx hacc
    by_cases h0 : x = 0
    · subst h0
      refine Ev.step (f := fun k => some (acc : Int)) (fun k => ?_) ?_
      · simp only [cotterelref17_Fold.l0]; rw [if_pos (by omega)]
      · rw [fo_zero, Nat.xor_zero]; exact Ev.now _
    · have h1 : 1 < 2 ^ m := Nat.one_lt_two_pow (by omega)
      have hlt : x / 2 ^ m < x := Nat.div_lt_self (by omega) h1
      have hmod : x % 2 ^ m < 4294967296 := Nat.lt_of_le_of_lt (Nat.mod_le _ _) hx
      have em : Int.tmod (x : Int) ((2 ^ m : Nat) : Int) = ((x % 2 ^ m : Nat) : Int) := by rw [Int.tmod_eq_emod_of_nonneg (by omega), Int.natCast_emod]
      have ed : (Int.tdiv (x : Int) ((2 ^ m : Nat) : Int)) % 4294967296 = ((x / 2 ^ m : Nat) : Int) := by
        rw [Int.tdiv_eq_ediv_of_nonneg (by omega), ← Int.natCast_ediv]
        have h2 : x / 2 ^ m < 4294967296 := by omega
        generalize x / 2 ^ m = y at h2 ⊢
        omega
      refine Ev.step (f := fun k => (cotterelref17_both.f k acc ((x % 2 ^ m : Nat) : Int)).bind fun t => cotterelref17_Fold.l0 k ((x / 2 ^ m : Nat) : Int) ((2 ^ m : Nat) : Int) t) (fun k => ?_) ?_
      · simp only [cotterelref17_Fold.l0]
        rw [if_neg (by omega), if_neg (by omega), em, ed]
      · refine Ev.bind (both_f _ _ hacc hmod) ?_
        have := ih (x / 2 ^ m) hlt (acc ^^^ (x % 2 ^ m)) (by omega) (Nat.xor_lt_two_pow (n := 32) hacc hmod)
        rw [Nat.xor_assoc, ← fo_step hm] at this
        exact this
theorem rfold_f (x : Nat) (a : Int) (hx : x < 4294967296) : Ev (fun k => cotterelref17_Fold.f k x a) ((fo (M a) x : Nat) : Int) := by
  unfold cotterelref17_Fold.f
  refine Ev.bind (rmask_f a) ?_
  rw [size_eq]
  by_cases h0 : M a = 0
  · rw [h0, fo_none]; simp only [Nat.pow_zero]; exact Ev.now _
  · have h1 : 1 < 2 ^ M a := Nat.one_lt_two_pow h0
    have := rfold_ends (M a) (by omega) (M_le a) x 0 hx (by decide)
    rw [Nat.zero_xor] at this
    have hne : ¬ ((2 ^ M a : Nat) : Int) = 1 := by omega
    simp only [if_neg hne]
    exact this
theorem rlast_ends (a : Int) (d : Nat) : ∀ (i h : Nat) (acc : List Bool), i + d = M a → h < 4294967296 → acc.length = i → Ev (fun k => cotterelref17_Last.l0 k h a acc i) (acc ++ las d h) := by
  have h8 := M_le a
  induction d with
  | zero =>
    intro i h acc hi hh ha
    refine Ev.step (f := fun k => some acc) (fun k => ?_) ?_
    · simp only [cotterelref17_Last.l0, brought_f, Option.bind_some]; rw [if_neg (by omega)]
    · simp only [las, List.append_nil]; exact Ev.now _
  | succ d ih =>
    intro i h acc hi hh ha
    refine Ev.step (f := fun k => cotterelref17_Last.l0 k ((h / 2 : Nat) : Int) a (acc ++ [h % 2 == 1]) ((i + 1 : Nat) : Int)) (fun k => ?_) ?_
    · simp only [cotterelref17_Last.l0, brought_f, Option.bind_some]; rw [if_pos (by omega), if_pos (by omega), tmod2, tdiv2 _ hh]
      have e1 : wrap64 ((i : Int) + 1) = ((i + 1 : Nat) : Int) := by unfold wrap64; omega
      have e3 : (((h % 2 : Nat) : Int) == 1) = (h % 2 == 1) := by
        rw [Bool.eq_iff_iff]; simp only [beq_iff_eq]; omega
      rw [e1, e3]
    · have := ih (i + 1) (h / 2) (acc ++ [h % 2 == 1]) (by omega) (by omega) (by simp [ha])
      simpa [las, List.append_assoc] using this
theorem rlast_f (h : Nat) (a : Int) (hh : h < 4294967296) : Ev (fun k => cotterelref17_Last.f k h a) (las (M a) h) := by
  unfold cotterelref17_Last.f
  exact rlast_ends a (M a) 0 h [] (by omega) hh rfl
theorem same_ends (l : List Bool) (hl : l.length < 1000) (d : Nat) : ∀ i : Nat, i + d = l.length → Ev (fun k => cotterelsame_Bools.l0 k l l i) true := by
  induction d with
  | zero =>
    intro i hi
    refine Ev.step (f := fun k => cotterelsame_Bools.j1 k l l i false) (fun k => ?_) (Ev.step (f := fun _ => some true) (fun k => ?_) (Ev.now _))
    · simp only [cotterelsame_Bools.l0]; rw [if_neg (by omega)]
    · simp only [cotterelsame_Bools.j1, Bool.false_eq_true, if_false]
  | succ d ih =>
    intro i hi
    have e1 : wrap64 ((i : Int) + 1) = ((i + 1 : Nat) : Int) := by unfold wrap64; omega
    refine Ev.step (f := fun k => cotterelsame_Bools.j1 k l l i true) (fun k => ?_) (Ev.step (f := fun k => cotterelsame_Bools.l0 k l l ((i + 1 : Nat) : Int)) (fun k => ?_) (ih (i + 1) (by omega)))
    · simp only [cotterelsame_Bools.l0]; rw [if_pos (by omega), decide_eq_true (by omega)]
    · simp only [cotterelsame_Bools.j1, if_true]; rw [if_pos (by omega), if_pos (by omega), if_pos (by omega), if_neg (by simp), e1]
theorem same_f (l : List Bool) (hl : l.length < 1000) : Ev (fun k => cotterelsame_Bools.f k l l) true := by
  unfold cotterelsame_Bools.f
  simp only [if_true]
  exact same_ends l hl l.length 0 (by omega)
theorem awake_f : Ev (fun k => cotterellaw17_awake.f k) true := Ev.of cotterellaw17_awake.mono (k := 20) (by kernel_rfl)

theorem HistTells : cotterellaw17_HistTells.Pure := by
  intro a0 a1 a2 w0 _
  obtain ⟨h0, h1⟩ := wf_u32 w0
  obtain ⟨x, rfl⟩ := nat_of h0
  have hx : x < 4294967296 := by omega
  refine Ev.rounds (g := fun k => cotterellaw17_HistTells.f k x a1 a2) ?_
  unfold cotterellaw17_HistTells.f
  rw [push_f x a1 a2]
  simp only [Option.bind_some]
  refine Ev.bind (rpush_f x a1 a2) ?_
  refine yes rfl ?_
  refine Ev.bind (fold_f x a1 hx) (Ev.bind (rfold_f x a1 hx) ?_)
  refine yes rfl ?_
  rw [mask_f]
  simp only [Option.bind_some]
  refine Ev.bind (rmask_f a1) ?_
  refine yes rfl ?_
  refine Ev.bind (last_f x a1 hx) (Ev.bind (rlast_f x a1 hx) (Ev.bind (same_f _ (by rw [las_length]; have := M_le a1; omega)) ?_))
  refine yes rfl ?_
  exact Ev.bind awake_f (Ev.now _)

end Go.Proofs.Ytghmllhcegioiaa.Pure
