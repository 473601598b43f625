/- Any product under way is, a step later and at its end, what the document says. No condition but that its fields are words and an int. -/
import Derived.Test.YtghmllhcegioiaaOMulStepsx4
import Derived.Test.YtghmllhcegioiaaBits
namespace Go.Proofs.Ytghmllhcegioiaa.Pure
open Go.RowKit Go.Proofs.Ytghmllhcegioiaa.PMulSteps Go.Proofs.YtghmllhcegioiaaW.PrintWords Go.Proofs.YtghmllhcegioiaaW.PrintLast Go.Proofs.Ytghmllhcegioiaa.Plain

/-! ### Products: what the steps come to -/
theorem or_shift (s l : Nat) (hl : l < 4294967296) : (Go.bits .or .u64 ((s : Int) * 4294967296 % 18446744073709551616) (l : Int) / 2) % 4294967296 = ((s % 2 * 2147483648 + l / 2 : Nat) : Int) := by
  have e : ((s : Int) * 4294967296 % 18446744073709551616) = ((s * 4294967296 % 18446744073709551616 : Nat) : Int) := by omega
  have h2 : s * 4294967296 % 18446744073709551616 = 2 ^ 32 * (s % 4294967296) := by omega
  rw [e, or64 _ _ (by omega) (by omega), h2, ← Nat.two_pow_add_eq_or_of_lt (i := 32) hl]
  omega
theorem bit_odd (b : Nat) (hb : b < 4294967296) : (Go.bits .and .u32 b 1 = 1) ↔ b % 2 = 1 := by rw [and32_one _ hb]; omega
/-- What a step adds. -/
def sm (a b hi : Nat) : Nat := hi + b % 2 * a
theorem sm_lt (a b hi : Nat) (ha : a < 4294967296) (hh : hi < 4294967296) : sm a b hi < 8589934592 := by
  unfold sm
  rcases Nat.mod_two_eq_zero_or_one b with h | h <;> rw [h] <;> omega
theorem step_f (a b hi lo : Nat) (n : Int) (ha : a < 4294967296) (hb : b < 4294967296) (hh : hi < 4294967296) (hl : lo < 4294967296) (hn : ¬ n < 1) (hn2 : n ≤ 9223372036854775807) :
    mul_Step.f a b hi lo n = some ((a : Int), ((b / 2 : Nat) : Int), ((sm a b hi / 2 : Nat) : Int), ((sm a b hi % 2 * 2147483648 + lo / 2 : Nat) : Int), n - 1) := by
  have hw : wrap64 (n - 1) = n - 1 := by unfold wrap64; omega
  unfold mul_Step.f
  rw [if_neg hn, hw]
  have e1 : IntKind.u64.wrap (hi : Int) = hi := by rw [wrap_u64]; omega
  have e2 : IntKind.u64.wrap (a : Int) = a := by rw [wrap_u64]; omega
  have e3 : IntKind.u64.wrap (lo : Int) = lo := by rw [wrap_u64]; omega
  rw [e1, e2, e3]
  have eb : ((b : Int) / 2) = ((b / 2 : Nat) : Int) := by omega
  by_cases h : b % 2 = 1
  · have es : sm a b hi = hi + a := by unfold sm; rw [h]; omega
    have e4 : IntKind.u64.wrap ((hi : Int) + a) = ((sm a b hi : Nat) : Int) := by rw [wrap_u64, es]; omega
    have e5 : (((sm a b hi : Nat) : Int) / 2) % 4294967296 = ((sm a b hi / 2 : Nat) : Int) := by omega
    rw [if_pos ((bit_odd b hb).2 h), e4, wrap_u64, or_shift _ _ hl, e5, eb]
  · have es : sm a b hi = hi := by unfold sm; rw [show b % 2 = 0 by omega]; omega
    have e5 : ((hi : Int) / 2) % 4294967296 = ((hi / 2 : Nat) : Int) := by omega
    rw [if_neg (fun k => h ((bit_odd b hb).1 k)), wrap_u64, or_shift _ _ hl, e5, eb, es]
/-- What was made of a product with k of its steps done. -/
structure At (a b k : Nat) (B hi lo : Nat) : Prop where
  rest : B = b / 2 ^ k
  hiB : hi < 4294967296
  loB : lo < 4294967296
  all : hi * 4294967296 + lo = a * (b % 2 ^ k) * 2 ^ (32 - k)
theorem at_zero (a b : Nat) : At a b 0 b 0 0 := ⟨by simp, by decide, by decide, by simp [Nat.mod_one]⟩
theorem half_lo (hi lo p : Nat) (h : hi * 4294967296 + lo = 2 * p) : hi * 2147483648 + lo / 2 = p := by
  have h0 : lo = 2 * (lo / 2) := by omega
  generalize lo / 2 = m at h0 ⊢
  subst h0
  have : 2 * (hi * 2147483648 + m) = 2 * p := by rw [← h, Nat.mul_add, Nat.mul_left_comm]
  exact Nat.eq_of_mul_eq_mul_left (by decide) this
theorem half_hi (q r m : Nat) : q * 4294967296 + (r * 2147483648 + m) = (2 * q + r) * 2147483648 + m := by omega
theorem halves (hi lo p s : Nat) (h : hi * 4294967296 + lo = 2 * p) : (hi + s) / 2 * 4294967296 + ((hi + s) % 2 * 2147483648 + lo / 2) = p + s * 2147483648 := by
  have h2 := half_lo hi lo p h
  rw [half_hi, Nat.div_add_mod, Nat.add_mul, Nat.add_right_comm, h2]
theorem at_succ {a b k B hi lo : Nat} (ha : a < 4294967296) (hk : k < 32) (h : At a b k B hi lo) : At a b (k + 1) (B / 2) (sm a B hi / 2) (sm a B hi % 2 * 2147483648 + lo / 2) := by
  obtain ⟨rfl, hh, hl, hall⟩ := h
  have hs := sm_lt a (b / 2 ^ k) hi ha hh
  refine ⟨by rw [Nat.div_div_eq_div_mul, Nat.pow_succ], by omega, by omega, ?_⟩
  obtain ⟨j, hj⟩ : ∃ j, 32 - k = j + 1 := ⟨31 - k, by omega⟩
  have hj2 : 32 - (k + 1) = j := by omega
  have hp : 2 ^ k * 2 ^ (j + 1) = 4294967296 := by rw [← Nat.pow_add, show k + (j + 1) = 32 by omega]
  rw [hj, Nat.pow_succ] at hall
  rw [hj2, Nat.mod_pow_succ]
  rw [Nat.pow_succ] at hp
  generalize hq : 2 ^ k = q at hall hp ⊢
  generalize 2 ^ j = r at hall hp ⊢
  generalize b % q = c at hall ⊢
  have e3 : q * r = 2147483648 := by rw [← Nat.mul_assoc] at hp; omega
  have e2 : a * c * (r * 2) = 2 * (a * c * r) := by rw [← Nat.mul_assoc, Nat.mul_comm]
  rw [e2] at hall
  have e : a * (c + q * (b / q % 2)) * r = a * c * r + b / q % 2 * a * 2147483648 := by
    rw [← e3, Nat.mul_add, Nat.add_mul]
    congr 1
    ac_rfl
  rw [e]
  exact halves hi lo _ _ hall
theorem at_part {a b k B hi lo : Nat} (h : At a b k B hi lo) : (hi * 4294967296 + lo) / 2 ^ (32 - k) = a * (b % 2 ^ k) := by
  rw [h.all, Nat.mul_div_cancel _ (Nat.two_pow_pos _)]
theorem run_ends (a b : Nat) (ha : a < 4294967296) (hb : b < 4294967296) (d : Nat) : ∀ (i B hi lo : Nat), i + d = 32 → At a b i B hi lo →
    ∃ h l : Nat, At a b 32 (b / 2 ^ 32) h l ∧ Ev (fun k => mul_Run.l0 k 32 i a B hi lo ((32 - i : Nat) : Int)) ((h : Int), (l : Int)) := by
  induction d with
  | zero =>
    intro i B hi lo hi' hA
    obtain rfl : i = 32 := by omega
    refine ⟨hi, lo, ⟨rfl, hA.hiB, hA.loB, hA.all⟩, Ev.step (f := fun k => some ((hi : Int), (lo : Int))) (fun k => ?_) (Ev.now _)⟩
    simp only [mul_Run.l0]; rw [if_neg (by omega)]
  | succ d ih =>
    intro i B hi lo hi' hA
    have hB : B < 4294967296 := by rw [hA.rest]; exact Nat.lt_of_le_of_lt (Nat.div_le_self _ _) hb
    obtain ⟨h, l, hA', hev⟩ := ih (i + 1) _ _ _ (by omega) (at_succ ha (by omega) hA)
    refine ⟨h, l, hA', Ev.step (f := fun k => mul_Run.l0 k 32 ((i + 1 : Nat) : Int) a ((B / 2 : Nat) : Int) ((sm a B hi / 2 : Nat) : Int) ((sm a B hi % 2 * 2147483648 + lo / 2 : Nat) : Int) ((32 - (i + 1) : Nat) : Int)) (fun k => ?_) hev⟩
    have e1 : wrap64 ((i : Int) + 1) = ((i + 1 : Nat) : Int) := by unfold wrap64; omega
    have e2 : ((32 - i : Nat) : Int) - 1 = ((32 - (i + 1) : Nat) : Int) := by omega
    simp only [mul_Run.l0]
    rw [if_pos (by omega), step_f a B hi lo _ ha hB hA.hiB hA.loB (by omega) (by omega), e1, e2]
    simp only [Option.bind_some]
/-- A run from the beginning comes to the whole product's halves. -/
theorem run_new (a b : Nat) (ha : a < 4294967296) (hb : b < 4294967296) : Ev (fun k => mul_Run.f k a b 0 0 32) (((a * b / 4294967296 : Nat) : Int), ((a * b % 4294967296 : Nat) : Int)) := by
  obtain ⟨h, l, hA, hev⟩ := run_ends a b ha hb 32 0 b 0 0 rfl (at_zero a b)
  have hall := hA.all
  rw [Nat.mod_eq_of_lt (show b < 2 ^ 32 from hb), Nat.sub_self, Nat.pow_zero, Nat.mul_one] at hall
  have hl := hA.loB
  have e1 : h = a * b / 4294967296 := by omega
  have e2 : l = a * b % 4294967296 := by omega
  rw [e1, e2] at hev
  unfold mul_Run.f
  exact hev
theorem awake_f : Ev (fun k => cotterellaw04_awake.f k) true := Ev.of cotterellaw04_awake.mono (k := 40) (by kernel_rfl)
theorem lo_small (x l : Nat) (hl : l < 4294967296) : (Int.tdiv (l : Int) 2 + Int.tmod (x : Int) 2 % 4294967296 * 2147483648) % 4294967296 = ((x % 2 * 2147483648 + l / 2 : Nat) : Int) := by
  rw [Int.tdiv_eq_ediv_of_nonneg (by omega), Int.tmod_eq_emod_of_nonneg (by omega)]; omega
theorem hi_small (x : Nat) (hx : x < 8589934592) : IntKind.u64.wrap (Int.tdiv (x : Int) 2) % 4294967296 = ((x / 2 : Nat) : Int) := by
  rw [Int.tdiv_eq_ediv_of_nonneg (by omega), wrap_u64]; omega
theorem rstep_f (a b hi lo : Nat) (n : Int) (ha : a < 4294967296) (hb : b < 4294967296) (hh : hi < 4294967296) (hl : lo < 4294967296) (hn : ¬ n < 1) (hn2 : n ≤ 9223372036854775807) :
    cotterelref04_Step.f a b hi lo n = some ((a : Int), ((b / 2 : Nat) : Int), ((sm a b hi / 2 : Nat) : Int), ((sm a b hi % 2 * 2147483648 + lo / 2 : Nat) : Int), n - 1) := by
  have hw : wrap64 (n - 1) = n - 1 := by unfold wrap64; omega
  have hs := sm_lt a b hi ha hh
  have e1 : IntKind.u64.wrap (hi : Int) = hi := by rw [wrap_u64]; omega
  have e2 : IntKind.u64.wrap (a : Int) = a := by rw [wrap_u64]; omega
  have eb : Int.tdiv (b : Int) 2 % 4294967296 = ((b / 2 : Nat) : Int) := by rw [Int.tdiv_eq_ediv_of_nonneg (by omega)]; omega
  have em : Int.tmod (b : Int) 2 = ((b % 2 : Nat) : Int) := by rw [Int.tmod_eq_emod_of_nonneg (by omega)]; omega
  unfold cotterelref04_Step.f
  rw [if_neg hn, hw, e1, e2, eb, em]
  by_cases h : b % 2 = 1
  · have es : sm a b hi = hi + a := by unfold sm; rw [h]; omega
    have e4 : IntKind.u64.wrap ((hi : Int) + a) = ((sm a b hi : Nat) : Int) := by rw [wrap_u64, es]; omega
    rw [if_pos (by omega), e4, lo_small _ _ hl, hi_small _ hs]
  · have es : sm a b hi = hi := by unfold sm; rw [show b % 2 = 0 by omega]; omega
    rw [if_neg (by omega), lo_small _ _ hl, hi_small _ (by omega), es]
theorem runs_end (d : Nat) : ∀ (c i a b hi lo : Nat), i + d = c → c ≤ 32 → a < 4294967296 → b < 4294967296 → hi < 4294967296 → lo < 4294967296 →
    ∃ r : Int × Int, Ev (fun k => mul_Run.l0 k c i a b hi lo d) r ∧ Ev (fun k => cotterelref04_Run.l0 k a b hi lo d) r := by
  induction d with
  | zero =>
    intro c i a b hi lo hc _ ha hb hh hl
    refine ⟨((hi : Int), (lo : Int)), Ev.step (f := fun _ => some ((hi : Int), (lo : Int))) (fun k => ?_) (Ev.now _), Ev.step (f := fun _ => some ((hi : Int), (lo : Int))) (fun k => ?_) (Ev.now _)⟩
    · simp only [mul_Run.l0]; rw [if_neg (by omega)]
    · simp only [cotterelref04_Run.l0]; rw [if_neg (by omega)]
  | succ d ih =>
    intro c i a b hi lo hc h32 ha hb hh hl
    have hs := sm_lt a b hi ha hh
    have e1 : wrap64 ((i : Int) + 1) = ((i + 1 : Nat) : Int) := by unfold wrap64; omega
    have e2 : ((d + 1 : Nat) : Int) - 1 = (d : Int) := by omega
    obtain ⟨r, h1, h2⟩ := ih c (i + 1) a (b / 2) (sm a b hi / 2) (sm a b hi % 2 * 2147483648 + lo / 2) (by omega) h32 ha (by omega) (by omega) (by omega)
    refine ⟨r, Ev.step (fun k => ?_) h1, Ev.step (fun k => ?_) h2⟩
    · simp only [mul_Run.l0]
      rw [if_pos (by omega), step_f a b hi lo _ ha hb hh hl (by omega) (by omega), e1, e2]
      simp only [Option.bind_some]
    · simp only [cotterelref04_Run.l0]
      rw [if_pos (by omega), rstep_f a b hi lo _ ha hb hh hl (by omega) (by omega), e2]
      simp only [Option.bind_some]
/-- How many steps are left. -/
def lf (n : Int) : Nat := if n < 0 then 0 else if n > 32 then 32 else n.toNat
theorem lf_int (n : Int) : mn (mx n 0) 32 = (lf n : Int) := by unfold lf mn mx; (repeat' split) <;> omega
theorem rrun_f (a b hi lo n : Int) (r : Int × Int) (h : Ev (fun k => cotterelref04_Run.l0 k a b hi lo (lf n)) r) : Ev (fun k => cotterelref04_Run.f k a b hi lo n) r := by
  have key : ∀ m : Int, 0 ≤ m → (if m > 32 then 32 else m) = (lf n : Int) → Ev (fun k => cotterelref04_Run.j0 k a b hi lo m) r := by
    intro m hm he
    refine Ev.step (f := fun k => cotterelref04_Run.j1 k a b hi lo (lf n)) (fun k => ?_) (Ev.step (f := fun k => cotterelref04_Run.l0 k a b hi lo (lf n)) (fun k => ?_) h)
    · simp only [cotterelref04_Run.j0]
      by_cases h32 : m > 32
      · rw [if_pos h32] at he ⊢; rw [he]
      · rw [if_neg h32] at he ⊢; rw [he]
    · simp only [cotterelref04_Run.j1]
  unfold cotterelref04_Run.f
  by_cases h0 : n < 0
  · simp only [if_pos h0]
    exact key 0 (by decide) (by unfold lf; rw [if_pos h0]; rfl)
  · simp only [if_neg h0]
    refine key n (by omega) ?_
    unfold lf; rw [if_neg h0]
    by_cases h32 : n > 32
    · rw [if_pos h32, if_pos h32]; rfl
    · rw [if_neg h32, if_neg h32]; omega
theorem same_refl (a b c d e : Int) : cotterellaw04_same.f a b c d e a b c d e = some true := by
  unfold cotterellaw04_same.f cotterellaw04_give.f
  simp
theorem steps_alike (a b hi lo : Nat) (n : Int) (ha : a < 4294967296) (hb : b < 4294967296) (hh : hi < 4294967296) (hl : lo < 4294967296) (hn2 : n ≤ 9223372036854775807) :
    ∃ p, mul_Step.f a b hi lo n = some p ∧ cotterelref04_Step.f a b hi lo n = some p := by
  by_cases h : n < 1
  · refine ⟨((a : Int), (b : Int), (hi : Int), (lo : Int), n), ?_, ?_⟩
    · unfold mul_Step.f; rw [if_pos h]
    · unfold cotterelref04_Step.f; rw [if_pos h]
  · exact ⟨_, step_f a b hi lo n ha hb hh hl h hn2, rstep_f a b hi lo n ha hb hh hl h hn2⟩

theorem MulSteps (a0 a1 a2 a3 a4 : Int) (w0 : (Lit.int .u32 a0).wf = true) (w1 : (Lit.int .u32 a1).wf = true) (w2 : (Lit.int .u32 a2).wf = true) (w3 : (Lit.int .u32 a3).wf = true) (w4 : (Lit.int .i64 a4).wf = true) :
    ∃ k, cotterellaw04_MulSteps.f k a0 a1 a2 a3 a4 = some true := by
  obtain ⟨h0, h0'⟩ := wf_u32 w0
  obtain ⟨h1, h1'⟩ := wf_u32 w1
  obtain ⟨h2, h2'⟩ := wf_u32 w2
  obtain ⟨h3, h3'⟩ := wf_u32 w3
  obtain ⟨_, h4⟩ := wf_i64 w4
  obtain ⟨a, rfl⟩ := nat_of h0
  obtain ⟨b, rfl⟩ := nat_of h1
  obtain ⟨hi, rfl⟩ := nat_of h2
  obtain ⟨lo, rfl⟩ := nat_of h3
  have hlf : lf a4 ≤ 32 := by unfold lf; (repeat' split) <;> omega
  obtain ⟨r, g1, g2⟩ := runs_end (lf a4) (lf a4) 0 a b hi lo (by omega) hlf (by omega) (by omega) (by omega) (by omega)
  obtain ⟨p, s1, s2⟩ := steps_alike a b hi lo a4 (by omega) (by omega) (by omega) (by omega) h4
  refine Ev.rounds (g := fun k => cotterellaw04_MulSteps.f k a b hi lo a4) ?_
  unfold cotterellaw04_MulSteps.f cotterellaw04_give.f
  simp only [Option.bind_some]
  refine Ev.bind (a := r) ?_ (Ev.bind (rrun_f _ _ _ _ _ r g2) ?_)
  · unfold mul_Run.f
    rw [lf_int]
    exact g1
  · rw [s1, s2]
    simp only [Option.bind_some, same_refl]
    exact yes (by simp) (yes (by simp) (yes (by simp) (Ev.bind awake_f (Ev.now _))))

end Go.Proofs.Ytghmllhcegioiaa.Pure
