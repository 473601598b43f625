/- Each half of any product is the document's, and whichever factor comes first. No condition. -/
import Derived.Test.YtghmllhcegioiaaPMulDoesx1
import Derived.Test.YtghmllhcegioiaaBits
namespace Go.Proofs.Ytghmllhcegioiaa.Pure
open Go.RowKit Go.Proofs.Ytghmllhcegioiaa.PMulDoes Go.Proofs.YtghmllhcegioiaaW.PrintWords Go.Proofs.YtghmllhcegioiaaW.PrintLast Go.Proofs.Ytghmllhcegioiaa.Plain

/-! ### Products: what the steps come to -/
theorem or_shift (s l : Nat) (hl : l < 4294967296) : (Go.bits .or .u64 ((s : Int) * 4294967296 % 18446744073709551616) (l : Int) / 2) % 4294967296 = ((s % 2 * 2147483648 + l / 2 : Nat) : Int) := by
  have e : ((s : Int) * 4294967296 % 18446744073709551616) = ((s * 4294967296 % 18446744073709551616 : Nat) : Int) := by omega
  have h2 : s * 4294967296 % 18446744073709551616 = 2 ^ 32 * (s % 4294967296) := by omega
  rw [e, or64 _ _ (by omega) (by omega), h2, ← Nat.two_pow_add_eq_or_of_lt (i := 32) hl]
  omega
theorem bit_odd (b : Nat) (hb : b < 4294967296) : (Go.bits .and .u32 b 1 = 1) ↔ b % 2 = 1 := by rw [and32_one _ hb]; omega
/-- What a step adds. -/
def sm (a b hi : Nat) : Nat := hi + b % 2 * a
theorem sm_lt (a b hi : Nat) (ha : a < 4294967296) (hh : hi < 4294967296) : sm a b hi < 8589934592 := by
  unfold sm
  rcases Nat.mod_two_eq_zero_or_one b with h | h <;> rw [h] <;> omega
theorem step_f (a b hi lo : Nat) (n : Int) (ha : a < 4294967296) (hb : b < 4294967296) (hh : hi < 4294967296) (hl : lo < 4294967296) (hn : ¬ n < 1) (hn2 : n ≤ 9223372036854775807) :
    mul_Step.f a b hi lo n = some ((a : Int), ((b / 2 : Nat) : Int), ((sm a b hi / 2 : Nat) : Int), ((sm a b hi % 2 * 2147483648 + lo / 2 : Nat) : Int), n - 1) := by
  have hw : wrap64 (n - 1) = n - 1 := by unfold wrap64; omega
  unfold mul_Step.f
  rw [if_neg hn, hw]
  have e1 : IntKind.u64.wrap (hi : Int) = hi := by rw [wrap_u64]; omega
  have e2 : IntKind.u64.wrap (a : Int) = a := by rw [wrap_u64]; omega
  have e3 : IntKind.u64.wrap (lo : Int) = lo := by rw [wrap_u64]; omega
  rw [e1, e2, e3]
  have eb : ((b : Int) / 2) = ((b / 2 : Nat) : Int) := by omega
  by_cases h : b % 2 = 1
  · have es : sm a b hi = hi + a := by unfold sm; rw [h]; omega
    have e4 : IntKind.u64.wrap ((hi : Int) + a) = ((sm a b hi : Nat) : Int) := by rw [wrap_u64, es]; omega
    have e5 : (((sm a b hi : Nat) : Int) / 2) % 4294967296 = ((sm a b hi / 2 : Nat) : Int) := by omega
    rw [if_pos ((bit_odd b hb).2 h), e4, wrap_u64, or_shift _ _ hl, e5, eb]
  · have es : sm a b hi = hi := by unfold sm; rw [show b % 2 = 0 by omega]; omega
    have e5 : ((hi : Int) / 2) % 4294967296 = ((hi / 2 : Nat) : Int) := by omega
    rw [if_neg (fun k => h ((bit_odd b hb).1 k)), wrap_u64, or_shift _ _ hl, e5, eb, es]
/-- What was made of a product with k of its steps done. -/
structure At (a b k : Nat) (B hi lo : Nat) : Prop where
  rest : B = b / 2 ^ k
  hiB : hi < 4294967296
  loB : lo < 4294967296
  all : hi * 4294967296 + lo = a * (b % 2 ^ k) * 2 ^ (32 - k)
theorem at_zero (a b : Nat) : At a b 0 b 0 0 := ⟨by simp, by decide, by decide, by simp [Nat.mod_one]⟩
theorem half_lo (hi lo p : Nat) (h : hi * 4294967296 + lo = 2 * p) : hi * 2147483648 + lo / 2 = p := by
  have h0 : lo = 2 * (lo / 2) := by omega
  generalize lo / 2 = m at h0 ⊢
  subst h0
  have : 2 * (hi * 2147483648 + m) = 2 * p := by rw [← h, Nat.mul_add, Nat.mul_left_comm]
  exact Nat.eq_of_mul_eq_mul_left (by decide) this
theorem half_hi (q r m : Nat) : q * 4294967296 + (r * 2147483648 + m) = (2 * q + r) * 2147483648 + m := by omega
theorem halves (hi lo p s : Nat) (h : hi * 4294967296 + lo = 2 * p) : (hi + s) / 2 * 4294967296 + ((hi + s) % 2 * 2147483648 + lo / 2) = p + s * 2147483648 := by
  have h2 := half_lo hi lo p h
  rw [half_hi, Nat.div_add_mod, Nat.add_mul, Nat.add_right_comm, h2]
theorem at_succ {a b k B hi lo : Nat} (ha : a < 4294967296) (hk : k < 32) (h : At a b k B hi lo) : At a b (k + 1) (B / 2) (sm a B hi / 2) (sm a B hi % 2 * 2147483648 + lo / 2) := by
  obtain ⟨rfl, hh, hl, hall⟩ := h
  have hs := sm_lt a (b / 2 ^ k) hi ha hh
  refine ⟨by rw [Nat.div_div_eq_div_mul, Nat.pow_succ], by omega, by omega, ?_⟩
  obtain ⟨j, hj⟩ : ∃ j, 32 - k = j + 1 := ⟨31 - k, by omega⟩
  have hj2 : 32 - (k + 1) = j := by omega
  have hp : 2 ^ k * 2 ^ (j + 1) = 4294967296 := by rw [← Nat.pow_add, show k + (j + 1) = 32 by omega]
  rw [hj, Nat.pow_succ] at hall
  rw [hj2, Nat.mod_pow_succ]
  rw [Nat.pow_succ] at hp
  generalize hq : 2 ^ k = q at hall hp ⊢
  generalize 2 ^ j = r at hall hp ⊢
  generalize b % q = c at hall ⊢
  have e3 : q * r = 2147483648 := by rw [← Nat.mul_assoc] at hp; omega
  have e2 : a * c * (r * 2) = 2 * (a * c * r) := by rw [← Nat.mul_assoc, Nat.mul_comm]
  rw [e2] at hall
  have e : a * (c + q * (b / q % 2)) * r = a * c * r + b / q % 2 * a * 2147483648 := by
    rw [← e3, Nat.mul_add, Nat.add_mul]
    congr 1
    ac_rfl
  rw [e]
  exact halves hi lo _ _ hall
theorem at_part {a b k B hi lo : Nat} (h : At a b k B hi lo) : (hi * 4294967296 + lo) / 2 ^ (32 - k) = a * (b % 2 ^ k) := by
  rw [h.all, Nat.mul_div_cancel _ (Nat.two_pow_pos _)]
theorem run_ends (a b : Nat) (ha : a < 4294967296) (hb : b < 4294967296) (d : Nat) : ∀ (i B hi lo : Nat), i + d = 32 → At a b i B hi lo →
    ∃ h l : Nat, At a b 32 (b / 2 ^ 32) h l ∧ Ev (fun k => mul_Run.l0 k 32 i a B hi lo ((32 - i : Nat) : Int)) ((h : Int), (l : Int)) := by
  induction d with
  | zero =>
    intro i B hi lo hi' hA
    obtain rfl : i = 32 := by omega
    refine ⟨hi, lo, ⟨rfl, hA.hiB, hA.loB, hA.all⟩, Ev.step (f := fun k => some ((hi : Int), (lo : Int))) (fun k => ?_) (Ev.now _)⟩
    simp only [mul_Run.l0]; rw [if_neg (by omega)]
  | succ d ih =>
    intro i B hi lo hi' hA
    have hB : B < 4294967296 := by rw [hA.rest]; exact Nat.lt_of_le_of_lt (Nat.div_le_self _ _) hb
    obtain ⟨h, l, hA', hev⟩ := ih (i + 1) _ _ _ (by omega) (at_succ ha (by omega) hA)
    refine ⟨h, l, hA', Ev.step (f := fun k => mul_Run.l0 k 32 ((i + 1 : Nat) : Int) a ((B / 2 : Nat) : Int) ((sm a B hi / 2 : Nat) : Int) ((sm a B hi % 2 * 2147483648 + lo / 2 : Nat) : Int) ((32 - (i + 1) : Nat) : Int)) (fun k => ?_) hev⟩
    have e1 : wrap64 ((i : Int) + 1) = ((i + 1 : Nat) : Int) := by unfold wrap64; omega
    have e2 : ((32 - i : Nat) : Int) - 1 = ((32 - (i + 1) : Nat) : Int) := by omega
    simp only [mul_Run.l0]
    rw [if_pos (by omega), step_f a B hi lo _ ha hB hA.hiB hA.loB (by omega) (by omega), e1, e2]
    simp only [Option.bind_some]
/-- A run from the beginning comes to the whole product's halves. -/
theorem run_new (a b : Nat) (ha : a < 4294967296) (hb : b < 4294967296) : Ev (fun k => mul_Run.f k a b 0 0 32) (((a * b / 4294967296 : Nat) : Int), ((a * b % 4294967296 : Nat) : Int)) := by
  obtain ⟨h, l, hA, hev⟩ := run_ends a b ha hb 32 0 b 0 0 rfl (at_zero a b)
  have hall := hA.all
  rw [Nat.mod_eq_of_lt (show b < 2 ^ 32 from hb), Nat.sub_self, Nat.pow_zero, Nat.mul_one] at hall
  have hl := hA.loB
  have e1 : h = a * b / 4294967296 := by omega
  have e2 : l = a * b % 4294967296 := by omega
  rw [e1, e2] at hev
  unfold mul_Run.f
  exact hev
theorem awake_f : Ev (fun k => cotterellaw04_awake.f k) true := Ev.of cotterellaw04_awake.mono (k := 40) (by kernel_rfl)
/-- What a signed factor takes off. -/
def ls (a b : Nat) : Nat := if 2147483648 ≤ a then b else 0
theorem less_f (a b : Nat) (ha : a < 4294967296) : mul_less.f a b = some (ls a b : Int) := by
  unfold mul_less.f ls
  by_cases h : 2147483648 ≤ a
  · rw [if_pos (by omega), if_pos h]
  · rw [if_neg (by omega), if_neg h]; rfl
/-- What each half is. -/
def half (op : Int) (a b : Nat) : Int × Bool :=
  if op = 11 then (((a * b % 4294967296 : Nat) : Int), true) else if op = 13 then (((a * b / 4294967296 : Nat) : Int), true)
  else if op = 12 then ((((((a * b / 4294967296 : Nat) : Int) - ls a b) % 4294967296) - ls b a) % 4294967296, true) else (0, false)
theorem do_f (op : Int) (a b : Nat) (ha : a < 4294967296) (hb : b < 4294967296) : Ev (fun k => mul_Do.f k op a b) (half op a b) := by
  unfold mul_Do.f mul_New.f
  simp only [Option.bind_some]
  refine Ev.bind (run_new a b ha hb) ?_
  unfold half
  by_cases h1 : op = 11
  · simp only [if_pos h1]; exact Ev.now _
  · simp only [if_neg h1]
    by_cases h2 : op = 13
    · simp only [if_pos h2]; exact Ev.now _
    · simp only [if_neg h2]
      by_cases h3 : op = 12
      · simp only [if_pos h3]
        rw [less_f a b ha, less_f b a hb]
        exact Ev.now _
      · simp only [if_neg h3]; exact Ev.now _
theorem half_comm (op : Int) (a b : Nat) : half op b a = half op a b := by
  unfold half
  rw [Nat.mul_comm b a]
  have e : (((((a * b / 4294967296 : Nat) : Int) - ls b a) % 4294967296) - ls a b) % 4294967296 = (((((a * b / 4294967296 : Nat) : Int) - ls a b) % 4294967296) - ls b a) % 4294967296 := by omega
  rw [e]
theorem low_of (p q : Int) : ((p - 4294967296 * q) % 18446744073709551616) / 4294967296 = (p / 4294967296 - q) % 4294967296 := by
  have e : (p - 4294967296 * q) = (p % 4294967296) + 4294967296 * (p / 4294967296 - q) := by rw [Int.mul_sub]; have := Int.emod_add_mul_ediv p 4294967296; omega
  have hr0 := Int.emod_nonneg p (b := 4294967296) (by decide)
  have hr1 := Int.emod_lt_of_pos p (b := 4294967296) (by decide)
  generalize p % 4294967296 = r at e hr0 hr1
  rw [e]
  generalize p / 4294967296 - q = s
  have e2 : (r + 4294967296 * s) % 18446744073709551616 = r + 4294967296 * (s % 4294967296) := by omega
  rw [e2, Int.add_mul_ediv_left _ _ (by decide), Int.ediv_eq_zero_of_lt hr0 hr1]; omega
theorem signed_half (a b : Nat) :
    (((if 2147483648 ≤ a then (a : Int) - 4294967296 else a) * (if 2147483648 ≤ b then (b : Int) - 4294967296 else b)) % 18446744073709551616) / 4294967296 = (((((a * b / 4294967296 : Nat) : Int) - ls a b) % 4294967296) - ls b a) % 4294967296 := by
  have key : ∃ z : Int, ((if 2147483648 ≤ a then (a : Int) - 4294967296 else a) * (if 2147483648 ≤ b then (b : Int) - 4294967296 else b)) = ((a * b : Nat) : Int) - 4294967296 * (ls a b + ls b a + 4294967296 * z) := by
    unfold ls
    by_cases h1 : 2147483648 ≤ a <;> by_cases h2 : 2147483648 ≤ b
    · refine ⟨-1, ?_⟩
      rw [if_pos h1, if_pos h2, if_pos h1, if_pos h2, Int.sub_mul, Int.mul_sub, Int.mul_sub, Int.natCast_mul]
      simp only [Int.mul_add]; omega
    · refine ⟨0, ?_⟩
      rw [if_pos h1, if_neg h2, if_pos h1, if_neg h2, Int.sub_mul, Int.natCast_mul]
      simp
    · refine ⟨0, ?_⟩
      rw [if_neg h1, if_pos h2, if_neg h1, if_pos h2, Int.mul_sub, Int.natCast_mul]
      simp; rw [Int.mul_comm]
    · refine ⟨0, ?_⟩
      rw [if_neg h1, if_neg h2, if_neg h1, if_neg h2, Int.natCast_mul]
      simp
  obtain ⟨z, hz⟩ := key
  rw [hz, low_of _ _, Int.natCast_ediv]
  generalize ((a * b : Nat) : Int) / ((4294967296 : Nat) : Int) = c
  rw [Int.emod_sub_emod]
  have : c - ((ls a b : Int) + ls b a + 4294967296 * z) = (c - ls a b - ls b a) + 4294967296 * (-z) := by rw [Int.mul_neg]; omega
  rw [this, Int.add_mul_emod_self_left]
theorem signed_f (x : Nat) (hx : x < 4294967296) : cotterelref04_signed.f x = some (if 2147483648 ≤ x then (x : Int) - 4294967296 else x) := by
  unfold cotterelref04_signed.f
  have e1 : wrap64 (x : Int) = x := by unfold wrap64; omega
  have e2 : wrap64 ((x : Int) - 4294967296) = (x : Int) - 4294967296 := by unfold wrap64; omega
  rw [e1, e2]
  by_cases h : 2147483648 ≤ x
  · rw [if_pos (by omega), if_pos h]
  · rw [if_neg (by omega), if_neg h]
theorem high_small (q : Nat) (hq : q < 4294967296) : IntKind.u64.wrap (q : Int) % 4294967296 = q := by rw [wrap_u64]; omega
theorem wrap_small (p : Nat) (hp : p < 18446744073709551616) : IntKind.u64.wrap (p : Int) = p := by rw [wrap_u64]; omega
theorem tdiv_big (p : Nat) : Int.tdiv (p : Int) 4294967296 = ((p / 4294967296 : Nat) : Int) := by rw [Int.tdiv_eq_ediv_of_nonneg (Int.natCast_nonneg _)]; rfl
theorem tmod_big (p : Nat) : Int.tmod (p : Int) 4294967296 = ((p % 4294967296 : Nat) : Int) := by rw [Int.tmod_eq_emod_of_nonneg (Int.natCast_nonneg _)]; rfl
theorem wrap_both (q : Int) : IntKind.u64.wrap (wrap64 q) = q % 18446744073709551616 := by rw [wrap_u64]; unfold wrap64; omega
theorem mod_small (q : Nat) (hq : q < 4294967296) : (q : Int) % 4294967296 = q := by omega
theorem mod_lt_big (p : Nat) : p % 4294967296 < 4294967296 := Nat.mod_lt _ (by decide)
theorem div_lt_big (p : Nat) (hp : p < 18446744073709551616) : p / 4294967296 < 4294967296 := Nat.div_lt_of_lt_mul hp
theorem high_of (q : Int) : IntKind.u64.wrap (Int.tdiv (IntKind.u64.wrap (wrap64 q)) 4294967296) % 4294967296 = (q % 18446744073709551616) / 4294967296 := by
  rw [wrap_both]
  have h0 := Int.emod_nonneg q (b := 18446744073709551616) (by decide)
  have h1 := Int.emod_lt_of_pos q (b := 18446744073709551616) (by decide)
  generalize q % 18446744073709551616 = p at h0 h1
  obtain ⟨n, rfl⟩ := nat_of h0
  have hn : n < 18446744073709551616 := by omega
  rw [tdiv_big, high_small _ (div_lt_big n hn)]; rfl
theorem rdo_f (op : Int) (a b : Nat) (ha : a < 4294967296) (hb : b < 4294967296) : cotterelref04_Do.f op a b = some (half op a b) := by
  have hp : a * b < 18446744073709551616 := Nat.mul_lt_mul'' ha hb
  unfold cotterelref04_Do.f half
  rw [wrap_small a (by omega), wrap_small b (by omega), ← Int.natCast_mul, wrap_small _ hp, tmod_big, mod_small _ (mod_lt_big _), tdiv_big, high_small _ (div_lt_big _ hp), signed_f a ha, signed_f b hb]
  simp only [Option.bind_some, high_of, signed_half]
  (repeat' split) <;> rfl

theorem MulDoes : cotterellaw04_MulDoes.Pure := by
  intro op a1 a2 _ w1 w2
  obtain ⟨h0, h1⟩ := wf_u32 w1
  obtain ⟨g0, g1⟩ := wf_u32 w2
  obtain ⟨a, rfl⟩ := nat_of h0
  obtain ⟨b, rfl⟩ := nat_of g0
  have ha : a < 4294967296 := by omega
  have hb : b < 4294967296 := by omega
  refine Ev.rounds (g := fun k => cotterellaw04_MulDoes.f k op a b) ?_
  unfold cotterellaw04_MulDoes.f
  refine Ev.bind (do_f op a b ha hb) ?_
  rw [rdo_f op a b ha hb]
  simp only [Option.bind_some]
  refine Ev.bind (do_f op b a hb ha) ?_
  rw [half_comm]
  exact yes (by simp) (yes (by simp) (yes (by simp) (yes (by simp) (Ev.bind awake_f (Ev.now _)))))

end Go.Proofs.Ytghmllhcegioiaa.Pure
