/- The last branch is told first, and behind it all that were told ahead but the last of them, for every history, number of bits and branch. No condition. -/
import Derived.Test.YtghmllhcegioiaaPHistLastx2
import Derived.Test.YtghmllhcegioiaaBits
namespace Go.Proofs.Ytghmllhcegioiaa.Pure
open Go.RowKit Go.Proofs.Ytghmllhcegioiaa.PHistLast Go.Proofs.YtghmllhcegioiaaW.PrintWords Go.Proofs.YtghmllhcegioiaaW.PrintLast Go.Proofs.Ytghmllhcegioiaa.Plain

/-! ### Histories: what the functions come to -/
/-- How many bits count. -/
def M (a : Int) : Nat := (mn (mx a 0) 8).toNat
theorem M_le (a : Int) : M a ≤ 8 := by unfold M mn mx; split <;> split <;> omega
theorem M_int (a : Int) : mn (mx a 0) 8 = (M a : Int) := by unfold M mn mx; split <;> split <;> omega
theorem M_of (a : Int) : M a = if a < 0 then 0 else if a > 8 then 8 else a.toNat := by unfold M mn mx; (repeat' split) <;> omega
theorem M_cases (a : Int) : M a = 0 ∨ M a = 1 ∨ M a = 2 ∨ M a = 3 ∨ M a = 4 ∨ M a = 5 ∨ M a = 6 ∨ M a = 7 ∨ M a = 8 := by have := M_le a; omega
theorem mask_f (a : Int) : hist_Mask.f a = some ((2 ^ M a - 1 : Nat) : Int) := by
  have hs : ∀ m : Nat, m ≤ 8 → ((shl .u32 1 (m : Int)) - 1) % 4294967296 = ((2 ^ m - 1 : Nat) : Int) := by
    intro m hm
    have : m = 0 ∨ m = 1 ∨ m = 2 ∨ m = 3 ∨ m = 4 ∨ m = 5 ∨ m = 6 ∨ m = 7 ∨ m = 8 := by omega
    rcases this with rfl | rfl | rfl | rfl | rfl | rfl | rfl | rfl | rfl <;> decide
  unfold hist_Mask.f hist_many.f
  simp only [Option.bind_some, M_int]
  rw [if_pos (by omega), hs _ (M_le a)]
theorem push_f (h : Nat) (a : Int) (t : Bool) : hist_Push.f h a t = some (((2 * h + t.toNat) % 2 ^ M a : Nat) : Int) := by
  have e0 : ((h : Int) * 2) % 4294967296 = ((2 * h % 4294967296 : Nat) : Int) := by omega
  have hor : (2 * h % 4294967296) ||| 1 = 2 * h % 4294967296 + 1 := by
    have := Nat.two_pow_add_eq_or_of_lt (i := 1) (b := 1) (by decide) (h % 2147483648)
    have e : 2 * h % 4294967296 = 2 ^ 1 * (h % 2147483648) := by omega
    rw [e, ← this]
  have hmod : ∀ x : Nat, (x % 4294967296) % 2 ^ M a = x % 2 ^ M a := fun x => by
    rcases M_cases a with e | e | e | e | e | e | e | e | e <;> rw [e] <;> omega
  unfold hist_Push.f
  simp only [mask_f, Option.bind_some]
  cases t with
  | true =>
    simp only [if_true, Bool.toNat_true]
    rw [e0, show (1 : Int) = ((1 : Nat) : Int) from rfl, or32 _ _ (by omega) (by decide), hor, and32_mask _ _ (by omega) (by have := M_le a; omega)]
    have : 2 * h % 4294967296 + 1 = (2 * h + 1) % 4294967296 := by omega
    rw [this, hmod]
  | false =>
    simp only [Bool.toNat_false, Bool.false_eq_true, if_false, Nat.add_zero]
    rw [e0, and32_mask _ _ (by omega) (by have := M_le a; omega), hmod]
/-- A word folded into m bits. -/
def fo (m x : Nat) : Nat := if h : x = 0 ∨ m = 0 then 0 else (x % 2 ^ m) ^^^ fo m (x / 2 ^ m)
termination_by x
decreasing_by
  have : 1 < 2 ^ m := Nat.one_lt_two_pow (by omega)
  exact Nat.div_lt_self (by omega) this
theorem fo_zero (m : Nat) : fo m 0 = 0 := by rw [fo]; simp
theorem fo_none (x : Nat) : fo 0 x = 0 := by rw [fo]; simp
theorem fo_step {m x : Nat} (hm : 0 < m) : fo m x = (x % 2 ^ m) ^^^ fo m (x / 2 ^ m) := by
  by_cases hx : x = 0
  · subst hx; simp [fo_zero]
  · rw [fo, dif_neg (by omega)]
theorem fo_lt (m : Nat) : ∀ x, fo m x < 2 ^ m := by
  intro x
  induction x using Nat.strongRecOn with
  | ind x ih =>
    by_cases hx : x = 0 ∨ m = 0
    · rw [fo, dif_pos hx]; exact Nat.two_pow_pos m
    · rw [fo, dif_neg hx]
      have : 1 < 2 ^ m := Nat.one_lt_two_pow (by omega)
      exact Nat.xor_lt_two_pow (Nat.mod_lt _ (by omega)) (ih _ (Nat.div_lt_self (by omega) this))
theorem fold_ends (m : Nat) (hm : 0 < m) (h8 : m ≤ 8) : ∀ (x acc : Nat), x < 4294967296 → acc < 4294967296 → Ev (fun k => hist_Fold.l0 k x acc m) ((acc ^^^ fo m x : Nat) : Int) := by
  intro x
  induction x using Nat.strongRecOn with
  | ind x ih =>
    intro acc hx hacc
    have hM : M m = m := by rw [M_of]; (repeat' split) <;> omega
    by_cases h0 : x = 0
    · subst h0
      refine Ev.step (f := fun k => some (acc : Int)) (fun k => ?_) ?_
      · simp only [hist_Fold.l0]; rw [if_pos (by omega), if_pos (by omega)]
      · rw [fo_zero, Nat.xor_zero]; exact Ev.now _
    · have h1 : 1 < 2 ^ m := Nat.one_lt_two_pow (by omega)
      have hlt : x / 2 ^ m < x := Nat.div_lt_self (by omega) h1
      have hmod : x % 2 ^ m < 4294967296 := Nat.lt_of_le_of_lt (Nat.mod_le _ _) hx
      refine Ev.step (f := fun k => hist_Fold.l0 k ((x / 2 ^ m : Nat) : Int) ((acc ^^^ (x % 2 ^ m) : Nat) : Int) m) (fun k => ?_) ?_
      · simp only [hist_Fold.l0]
        rw [if_pos (by omega), if_neg (by omega), mask_f, hM]
        simp only [Option.bind_some]
        rw [if_pos (by omega), and32_mask _ _ hx (by omega), xor32 _ _ hacc hmod]
        congr 1
        unfold shr
        have : min ((m : Int).toNat) (IntKind.u32.bits) = m := by simp [IntKind.bits]; omega
        rw [this]
        simp
      · have := ih (x / 2 ^ m) hlt (acc ^^^ (x % 2 ^ m)) (by omega) (Nat.xor_lt_two_pow (n := 32) hacc hmod)
        rw [Nat.xor_assoc, ← fo_step hm] at this
        exact this
theorem fold_f (x : Nat) (a : Int) (hx : x < 4294967296) : Ev (fun k => hist_Fold.f k x a) ((fo (M a) x : Nat) : Int) := by
  unfold hist_Fold.f hist_many.f
  simp only [Option.bind_some, M_int]
  by_cases h0 : M a = 0
  · rw [h0, fo_none]
    refine Ev.step (f := fun k => some (0 : Int)) (fun k => ?_) (Ev.now _)
    simp only [hist_Fold.l0]; rw [if_neg (by simp)]
  · have := fold_ends (M a) (by omega) (M_le a) x 0 hx (by decide)
    rw [Nat.zero_xor] at this
    exact this
/-- What branches did. -/
def las : Nat → Nat → List Bool
  | 0, _ => []
  | m + 1, h => (h % 2 == 1) :: las m (h / 2)
theorem las_length (m : Nat) : ∀ h, (las m h).length = m := by
  induction m with
  | zero => intro h; rfl
  | succ m ih => intro h; simp [las, ih]
theorem last_ends (m : Nat) (h8 : m ≤ 8) (d : Nat) : ∀ (i h : Nat) (acc : List Bool), i + d = m → h < 4294967296 → acc.length = i → Ev (fun k => hist_Last.l0 k h acc m i) (acc ++ las d h) := by
  induction d with
  | zero =>
    intro i h acc hi hh ha
    refine Ev.step (f := fun k => some acc) (fun k => ?_) ?_
    · simp only [hist_Last.l0]; rw [if_neg (by omega)]
    · simp only [las, List.append_nil]; exact Ev.now _
  | succ d ih =>
    intro i h acc hi hh ha
    refine Ev.step (f := fun k => hist_Last.l0 k ((h / 2 : Nat) : Int) (acc ++ [h % 2 == 1]) m ((i + 1 : Nat) : Int)) (fun k => ?_) ?_
    · simp only [hist_Last.l0]; rw [if_pos (by omega), if_pos (by omega), and32_one _ hh]
      have e1 : wrap64 ((i : Int) + 1) = ((i + 1 : Nat) : Int) := by unfold wrap64; omega
      have e2 : ((h : Int) / 2) = ((h / 2 : Nat) : Int) := by omega
      have e3 : (((h % 2 : Nat) : Int) == 1) = (h % 2 == 1) := by
        rw [Bool.eq_iff_iff]; simp only [beq_iff_eq]; omega
      rw [e1, e2, e3]
    · have := ih (i + 1) (h / 2) (acc ++ [h % 2 == 1]) (by omega) (by omega) (by simp [ha])
      simpa [las, List.append_assoc] using this
theorem last_f (h : Nat) (a : Int) (hh : h < 4294967296) : Ev (fun k => hist_Last.f k h a) (las (M a) h) := by
  unfold hist_Last.f hist_many.f
  simp only [Option.bind_some, M_int]
  exact last_ends (M a) (M_le a) (M a) 0 h [] (by omega) hh rfl
theorem las_at (m : Nat) : ∀ (h i : Nat), i < m → rdOf false (las m h) (i : Int) = h.testBit i := by
  induction m with
  | zero => intro h i hi; omega
  | succ m ih =>
    intro h i hi
    cases i with
    | zero =>
      simp only [rdOf, las, Int.toNat_natCast, List.getD_cons_zero, Nat.testBit_zero]
      rw [Bool.eq_iff_iff]; simp
    | succ i =>
      have := ih (h / 2) i (by omega)
      simp only [rdOf, las, Int.toNat_natCast, List.getD_cons_succ] at this ⊢
      rw [this, Nat.testBit_succ]
theorem now_zero (m h : Nat) (t : Bool) (hm : 0 < m) : rdOf false (las m ((2 * h + t.toNat) % 2 ^ m)) 0 = t := by
  have := las_at m ((2 * h + t.toNat) % 2 ^ m) 0 hm
  rw [show (0 : Int) = ((0 : Nat) : Int) from rfl, this, Nat.testBit_mod_two_pow]
  simp only [hm, decide_true, Bool.true_and, Nat.testBit_zero]
  cases t <;> simp <;> omega
theorem now_succ (m h i : Nat) (t : Bool) (hm : i + 1 < m) : rdOf false (las m ((2 * h + t.toNat) % 2 ^ m)) ((i + 1 : Nat) : Int) = rdOf false (las m h) (i : Int) := by
  rw [las_at _ _ _ hm, las_at _ _ _ (by omega), Nat.testBit_mod_two_pow, Nat.testBit_succ]
  have : (2 * h + t.toNat) / 2 = h := by cases t <;> simp <;> omega
  rw [this]; simp [hm]
theorem awake_f : Ev (fun k => cotterellaw17_awake.f k) true := Ev.of cotterellaw17_awake.mono (k := 20) (by kernel_rfl)
theorem loop_ends (m h : Nat) (t : Bool) (h8 : m ≤ 8) (d : Nat) : ∀ i : Nat, i + d = m →
    Ev (fun k => cotterellaw17_HistLast.l0 k t (las m h) (las m ((2 * h + t.toNat) % 2 ^ m)) i) true := by
  have hl1 := las_length m h
  have hl2 := las_length m ((2 * h + t.toNat) % 2 ^ m)
  induction d with
  | zero =>
    intro i hi
    refine Ev.step (f := fun k => cotterellaw17_HistLast.j2 k t (las m h) (las m ((2 * h + t.toNat) % 2 ^ m)) i false) (fun k => ?_) (Ev.step (f := fun k => (cotterellaw17_awake.f k).bind fun t130 => some t130) (fun k => ?_) (Ev.bind awake_f (Ev.now _)))
    · simp only [cotterellaw17_HistLast.l0]; rw [if_neg (by omega)]
    · simp only [cotterellaw17_HistLast.j2, Bool.false_eq_true, if_false]
  | succ d ih =>
    intro i hi
    have e1 : wrap64 ((i : Int) + 1) = ((i + 1 : Nat) : Int) := by unfold wrap64; omega
    refine Ev.step (f := fun k => cotterellaw17_HistLast.j2 k t (las m h) (las m ((2 * h + t.toNat) % 2 ^ m)) i true) (fun k => ?_) (Ev.step (f := fun k => cotterellaw17_HistLast.l0 k t (las m h) (las m ((2 * h + t.toNat) % 2 ^ m)) ((i + 1 : Nat) : Int)) (fun k => ?_) (ih (i + 1) (by omega)))
    · simp only [cotterellaw17_HistLast.l0]; rw [if_pos (by omega), decide_eq_true (by omega)]
    · simp only [cotterellaw17_HistLast.j2, if_true]
      cases i with
      | zero =>
        have hz := now_zero m h t (by omega)
        rw [if_pos (by omega), if_pos (by omega), if_pos (by omega), show ((0 : Nat) : Int) = 0 from rfl, hz, if_neg (by simp), if_neg (by omega)]
        exact congrArg (cotterellaw17_HistLast.l0 k t _ _) e1
      | succ i =>
        have e2 : wrap64 (((i + 1 : Nat) : Int) - 1) = (i : Int) := by unfold wrap64; omega
        have hz := now_succ m h i t (by omega)
        rw [if_neg (by omega), if_pos (by omega), if_pos (by omega), if_pos (by omega), e2, if_pos (by omega), if_pos (by omega), hz, if_neg (by simp), e1]

theorem HistLast : cotterellaw17_HistLast.Pure := by
  intro a0 a1 t w0 _
  obtain ⟨h0, h1⟩ := wf_u32 w0
  obtain ⟨x, rfl⟩ := nat_of h0
  have hx : x < 4294967296 := by omega
  have h8 := M_le a1
  have hp : (2 * x + t.toNat) % 2 ^ M a1 < 4294967296 := by
    have := Nat.mod_lt (2 * x + t.toNat) (Nat.two_pow_pos (M a1))
    have := Nat.pow_le_pow_right (n := 2) (by decide) h8
    omega
  refine Ev.rounds (g := fun k => cotterellaw17_HistLast.f k x a1 t) ?_
  unfold cotterellaw17_HistLast.f
  refine Ev.bind (last_f x a1 hx) ?_
  rw [push_f x a1 t]
  simp only [Option.bind_some]
  refine Ev.bind (last_f _ a1 hp) ?_
  have hl1 := las_length (M a1) x
  have hl2 := las_length (M a1) ((2 * x + t.toNat) % 2 ^ M a1)
  refine yes (by omega) ?_
  rw [decide_eq_false (by omega)]
  refine Ev.step (f := fun k => cotterellaw17_HistLast.l0 k t (las (M a1) x) (las (M a1) ((2 * x + t.toNat) % 2 ^ M a1)) 0) (fun k => ?_) (loop_ends (M a1) x t h8 (M a1) 0 (by omega))
  simp only [cotterellaw17_HistLast.j0, Bool.false_eq_true, if_false]

end Go.Proofs.Ytghmllhcegioiaa.Pure
