/- Folding is linear by exclusive or; what is folded has no more bits; a word of so few bits stays: for every two words and number of bits. No condition. -/
import Derived.Test.YtghmllhcegioiaaPHistFoldsx1
import Derived.Test.YtghmllhcegioiaaBits
namespace Go.Proofs.Ytghmllhcegioiaa.Pure
open Go.RowKit Go.Proofs.Ytghmllhcegioiaa.PHistFolds Go.Proofs.YtghmllhcegioiaaW.PrintWords Go.Proofs.YtghmllhcegioiaaW.PrintLast Go.Proofs.Ytghmllhcegioiaa.Plain

/-! ### Histories: what the functions come to -/
/-- How many bits count. -/
def M (a : Int) : Nat := (mn (mx a 0) 8).toNat
theorem M_le (a : Int) : M a ≤ 8 := by unfold M mn mx; split <;> split <;> omega
theorem M_int (a : Int) : mn (mx a 0) 8 = (M a : Int) := by unfold M mn mx; split <;> split <;> omega
theorem M_of (a : Int) : M a = if a < 0 then 0 else if a > 8 then 8 else a.toNat := by unfold M mn mx; (repeat' split) <;> omega
theorem M_cases (a : Int) : M a = 0 ∨ M a = 1 ∨ M a = 2 ∨ M a = 3 ∨ M a = 4 ∨ M a = 5 ∨ M a = 6 ∨ M a = 7 ∨ M a = 8 := by have := M_le a; omega
theorem mask_f (a : Int) : hist_Mask.f a = some ((2 ^ M a - 1 : Nat) : Int) := by
  have hs : ∀ m : Nat, m ≤ 8 → ((shl .u32 1 (m : Int)) - 1) % 4294967296 = ((2 ^ m - 1 : Nat) : Int) := by
    intro m hm
    have : m = 0 ∨ m = 1 ∨ m = 2 ∨ m = 3 ∨ m = 4 ∨ m = 5 ∨ m = 6 ∨ m = 7 ∨ m = 8 := by omega
    rcases this with rfl | rfl | rfl | rfl | rfl | rfl | rfl | rfl | rfl <;> decide
  unfold hist_Mask.f hist_many.f
  simp only [Option.bind_some, M_int]
  rw [if_pos (by omega), hs _ (M_le a)]
theorem push_f (h : Nat) (a : Int) (t : Bool) : hist_Push.f h a t = some (((2 * h + t.toNat) % 2 ^ M a : Nat) : Int) := by
  have e0 : ((h : Int) * 2) % 4294967296 = ((2 * h % 4294967296 : Nat) : Int) := by omega
  have hor : (2 * h % 4294967296) ||| 1 = 2 * h % 4294967296 + 1 := by
    have := Nat.two_pow_add_eq_or_of_lt (i := 1) (b := 1) (by decide) (h % 2147483648)
    have e : 2 * h % 4294967296 = 2 ^ 1 * (h % 2147483648) := by omega
    rw [e, ← this]
  have hmod : ∀ x : Nat, (x % 4294967296) % 2 ^ M a = x % 2 ^ M a := fun x => by
    rcases M_cases a with e | e | e | e | e | e | e | e | e <;> rw [e] <;> omega
  unfold hist_Push.f
  simp only [mask_f, Option.bind_some]
  cases t with
  | true =>
    simp only [if_true, Bool.toNat_true]
    rw [e0, show (1 : Int) = ((1 : Nat) : Int) from rfl, or32 _ _ (by omega) (by decide), hor, and32_mask _ _ (by omega) (by have := M_le a; omega)]
    have : 2 * h % 4294967296 + 1 = (2 * h + 1) % 4294967296 := by omega
    rw [this, hmod]
  | false =>
    simp only [Bool.toNat_false, Bool.false_eq_true, if_false, Nat.add_zero]
    rw [e0, and32_mask _ _ (by omega) (by have := M_le a; omega), hmod]
/-- A word folded into m bits. -/
def fo (m x : Nat) : Nat := if h : x = 0 ∨ m = 0 then 0 else (x % 2 ^ m) ^^^ fo m (x / 2 ^ m)
termination_by x
decreasing_by
  have : 1 < 2 ^ m := Nat.one_lt_two_pow (by omega)
  exact Nat.div_lt_self (by omega) this
theorem fo_zero (m : Nat) : fo m 0 = 0 := by rw [fo]; simp
theorem fo_none (x : Nat) : fo 0 x = 0 := by rw [fo]; simp
theorem fo_step {m x : Nat} (hm : 0 < m) : fo m x = (x % 2 ^ m) ^^^ fo m (x / 2 ^ m) := by
  by_cases hx : x = 0
  · subst hx; simp [fo_zero]
  · rw [fo, dif_neg (by omega)]
theorem fo_lt (m : Nat) : ∀ x, fo m x < 2 ^ m := by
  intro x
  induction x using Nat.strongRecOn with
  | ind x ih =>
    by_cases hx : x = 0 ∨ m = 0
    · rw [fo, dif_pos hx]; exact Nat.two_pow_pos m
    · rw [fo, dif_neg hx]
      have : 1 < 2 ^ m := Nat.one_lt_two_pow (by omega)
      exact Nat.xor_lt_two_pow (Nat.mod_lt _ (by omega)) (ih _ (Nat.div_lt_self (by omega) this))
theorem fold_ends (m : Nat) (hm : 0 < m) (h8 : m ≤ 8) : ∀ (x acc : Nat), x < 4294967296 → acc < 4294967296 → Ev (fun k => hist_Fold.l0 k x acc m) ((acc ^^^ fo m x : Nat) : Int) := by
  intro x
  induction x using Nat.strongRecOn with
  | ind x ih =>
    intro acc hx hacc
    have hM : M m = m := by rw [M_of]; (repeat' split) <;> omega
    by_cases h0 : x = 0
    · subst h0
      refine Ev.step (f := fun k => some (acc : Int)) (fun k => ?_) ?_
      · simp only [hist_Fold.l0]; rw [if_pos (by omega), if_pos (by omega)]
      · rw [fo_zero, Nat.xor_zero]; exact Ev.now _
    · have h1 : 1 < 2 ^ m := Nat.one_lt_two_pow (by omega)
      have hlt : x / 2 ^ m < x := Nat.div_lt_self (by omega) h1
      have hmod : x % 2 ^ m < 4294967296 := Nat.lt_of_le_of_lt (Nat.mod_le _ _) hx
      refine Ev.step (f := fun k => hist_Fold.l0 k ((x / 2 ^ m : Nat) : Int) ((acc ^^^ (x % 2 ^ m) : Nat) : Int) m) (fun k => ?_) ?_
      · simp only [hist_Fold.l0]
        rw [if_pos (by omega), if_neg (by omega), mask_f, hM]
        simp only [Option.bind_some]
        rw [if_pos (by omega), and32_mask _ _ hx (by omega), xor32 _ _ hacc hmod]
        congr 1
        unfold shr
        have : min ((m : Int).toNat) (IntKind.u32.bits) = m := by simp [IntKind.bits]; omega
        rw [this]
        simp
      · have := ih (x / 2 ^ m) hlt (acc ^^^ (x % 2 ^ m)) (by omega) (Nat.xor_lt_two_pow (n := 32) hacc hmod)
        rw [Nat.xor_assoc, ← fo_step hm] at this
        exact this
theorem fold_f (x : Nat) (a : Int) (hx : x < 4294967296) : Ev (fun k => hist_Fold.f k x a) ((fo (M a) x : Nat) : Int) := by
  unfold hist_Fold.f hist_many.f
  simp only [Option.bind_some, M_int]
  by_cases h0 : M a = 0
  · rw [h0, fo_none]
    refine Ev.step (f := fun k => some (0 : Int)) (fun k => ?_) (Ev.now _)
    simp only [hist_Fold.l0]; rw [if_neg (by simp)]
  · have := fold_ends (M a) (by omega) (M_le a) x 0 hx (by decide)
    rw [Nat.zero_xor] at this
    exact this
/-- What branches did. -/
def las : Nat → Nat → List Bool
  | 0, _ => []
  | m + 1, h => (h % 2 == 1) :: las m (h / 2)
theorem las_length (m : Nat) : ∀ h, (las m h).length = m := by
  induction m with
  | zero => intro h; rfl
  | succ m ih => intro h; simp [las, ih]
theorem last_ends (m : Nat) (h8 : m ≤ 8) (d : Nat) : ∀ (i h : Nat) (acc : List Bool), i + d = m → h < 4294967296 → acc.length = i → Ev (fun k => hist_Last.l0 k h acc m i) (acc ++ las d h) := by
  induction d with
  | zero =>
    intro i h acc hi hh ha
    refine Ev.step (f := fun k => some acc) (fun k => ?_) ?_
    · simp only [hist_Last.l0]; rw [if_neg (by omega)]
    · simp only [las, List.append_nil]; exact Ev.now _
  | succ d ih =>
    intro i h acc hi hh ha
    refine Ev.step (f := fun k => hist_Last.l0 k ((h / 2 : Nat) : Int) (acc ++ [h % 2 == 1]) m ((i + 1 : Nat) : Int)) (fun k => ?_) ?_
    · simp only [hist_Last.l0]; rw [if_pos (by omega), if_pos (by omega), and32_one _ hh]
      have e1 : wrap64 ((i : Int) + 1) = ((i + 1 : Nat) : Int) := by unfold wrap64; omega
      have e2 : ((h : Int) / 2) = ((h / 2 : Nat) : Int) := by omega
      have e3 : (((h % 2 : Nat) : Int) == 1) = (h % 2 == 1) := by
        rw [Bool.eq_iff_iff]; simp only [beq_iff_eq]; omega
      rw [e1, e2, e3]
    · have := ih (i + 1) (h / 2) (acc ++ [h % 2 == 1]) (by omega) (by omega) (by simp [ha])
      simpa [las, List.append_assoc] using this
theorem last_f (h : Nat) (a : Int) (hh : h < 4294967296) : Ev (fun k => hist_Last.f k h a) (las (M a) h) := by
  unfold hist_Last.f hist_many.f
  simp only [Option.bind_some, M_int]
  exact last_ends (M a) (M_le a) (M a) 0 h [] (by omega) hh rfl
theorem awake_f : Ev (fun k => cotterellaw17_awake.f k) true := Ev.of cotterellaw17_awake.mono (k := 20) (by kernel_rfl)
theorem fo_xor (m : Nat) : ∀ x y, fo m (x ^^^ y) = fo m x ^^^ fo m y := by
  by_cases hm : m = 0
  · subst hm; intro x y; simp [fo_none]
  · have hm' : 0 < m := by omega
    have key : ∀ n x y, x < n → y < n → fo m (x ^^^ y) = fo m x ^^^ fo m y := by
      intro n
      induction n with
      | zero => intro x y hx; omega
      | succ n ih =>
        intro x y hx hy
        have h1 : 1 < 2 ^ m := Nat.one_lt_two_pow (by omega)
        by_cases hz : x = 0 ∧ y = 0
        · obtain ⟨rfl, rfl⟩ := hz; simp [fo_zero]
        · rw [fo_step hm' (x := x ^^^ y), fo_step hm' (x := x), fo_step hm' (x := y), xor_mod, xor_div]
          have hn : 0 < n := by omega
          have hxd : x / 2 ^ m < n := by
            by_cases h0 : x = 0
            · subst h0; simpa using hn
            · exact Nat.lt_of_lt_of_le (Nat.div_lt_self (by omega) h1) (by omega)
          have hyd : y / 2 ^ m < n := by
            by_cases h0 : y = 0
            · subst h0; simpa using hn
            · exact Nat.lt_of_lt_of_le (Nat.div_lt_self (by omega) h1) (by omega)
          rw [ih _ _ hxd hyd]
          ac_rfl
    intro x y
    exact key (x + y + 1) x y (by omega) (by omega)
theorem fo_small (m x : Nat) (h : x < 2 ^ m) : fo m x = x := by
  by_cases hm : m = 0
  · subst hm; simp at h; subst h; simp [fo_zero]
  · rw [fo_step (by omega), Nat.mod_eq_of_lt h, Nat.div_eq_of_lt h, fo_zero, Nat.xor_zero]

theorem HistFolds : cotterellaw17_HistFolds.Pure := by
  intro a0 a1 a2 w0 w1 _
  obtain ⟨h0, h1⟩ := wf_u32 w0
  obtain ⟨g0, g1⟩ := wf_u32 w1
  obtain ⟨x, rfl⟩ := nat_of h0
  obtain ⟨y, rfl⟩ := nat_of g0
  have hx : x < 4294967296 := by omega
  have hy : y < 4294967296 := by omega
  have h8 := M_le a2
  have hp := Nat.two_pow_pos (M a2)
  have hp8 := Nat.pow_le_pow_right (n := 2) (by decide) h8
  have hlt := fo_lt (M a2)
  refine Ev.rounds (g := fun k => cotterellaw17_HistFolds.f k x y a2) ?_
  unfold cotterellaw17_HistFolds.f
  rw [mask_f, xor32 _ _ hx hy]
  simp only [Option.bind_some]
  refine Ev.bind (fold_f _ a2 (Nat.xor_lt_two_pow (n := 32) hx hy)) (Ev.bind (fold_f x a2 hx) (Ev.bind (fold_f y a2 hy) ?_))
  have l1 := hlt x
  have l2 := hlt y
  rw [xor32 _ _ (by omega) (by omega), and32_mask _ _ hx (by omega), fo_xor]
  refine yes rfl (Ev.bind (fold_f x a2 hx) (yes (by omega) (Ev.bind (fold_f _ a2 (by have := Nat.mod_le x (2 ^ M a2); omega)) ?_)))
  rw [fo_small _ _ (Nat.mod_lt _ hp)]
  exact yes rfl (Ev.bind awake_f (Ev.now _))

end Go.Proofs.Ytghmllhcegioiaa.Pure
