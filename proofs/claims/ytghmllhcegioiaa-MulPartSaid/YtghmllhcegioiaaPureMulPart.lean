/- Behind k steps there is the product with the lowest k bits, for any two words and any k. No condition. -/
import Derived.Test.YtghmllhcegioiaaPMulPartx1
import Derived.Test.YtghmllhcegioiaaBits
namespace Go.Proofs.Ytghmllhcegioiaa.Pure
open Go.RowKit Go.Proofs.Ytghmllhcegioiaa.PMulPart Go.Proofs.YtghmllhcegioiaaW.PrintWords Go.Proofs.YtghmllhcegioiaaW.PrintLast Go.Proofs.Ytghmllhcegioiaa.Plain

/-! ### Products: what the steps come to -/
theorem or_shift (s l : Nat) (hl : l < 4294967296) : (Go.bits .or .u64 ((s : Int) * 4294967296 % 18446744073709551616) (l : Int) / 2) % 4294967296 = ((s % 2 * 2147483648 + l / 2 : Nat) : Int) := by
  have e : ((s : Int) * 4294967296 % 18446744073709551616) = ((s * 4294967296 % 18446744073709551616 : Nat) : Int) := by omega
  have h2 : s * 4294967296 % 18446744073709551616 = 2 ^ 32 * (s % 4294967296) := by omega
  rw [e, or64 _ _ (by omega) (by omega), h2, ← Nat.two_pow_add_eq_or_of_lt (i := 32) hl]
  omega
theorem bit_odd (b : Nat) (hb : b < 4294967296) : (Go.bits .and .u32 b 1 = 1) ↔ b % 2 = 1 := by rw [and32_one _ hb]; omega
/-- What a step adds. -/
def sm (a b hi : Nat) : Nat := hi + b % 2 * a
theorem sm_lt (a b hi : Nat) (ha : a < 4294967296) (hh : hi < 4294967296) : sm a b hi < 8589934592 := by
  unfold sm
  rcases Nat.mod_two_eq_zero_or_one b with h | h <;> rw [h] <;> omega
theorem step_f (a b hi lo : Nat) (n : Int) (ha : a < 4294967296) (hb : b < 4294967296) (hh : hi < 4294967296) (hl : lo < 4294967296) (hn : ¬ n < 1) (hn2 : n ≤ 9223372036854775807) :
    mul_Step.f a b hi lo n = some ((a : Int), ((b / 2 : Nat) : Int), ((sm a b hi / 2 : Nat) : Int), ((sm a b hi % 2 * 2147483648 + lo / 2 : Nat) : Int), n - 1) := by
  have hw : wrap64 (n - 1) = n - 1 := by unfold wrap64; omega
  unfold mul_Step.f
  rw [if_neg hn, hw]
  have e1 : IntKind.u64.wrap (hi : Int) = hi := by rw [wrap_u64]; omega
  have e2 : IntKind.u64.wrap (a : Int) = a := by rw [wrap_u64]; omega
  have e3 : IntKind.u64.wrap (lo : Int) = lo := by rw [wrap_u64]; omega
  rw [e1, e2, e3]
  have eb : ((b : Int) / 2) = ((b / 2 : Nat) : Int) := by omega
  by_cases h : b % 2 = 1
  · have es : sm a b hi = hi + a := by unfold sm; rw [h]; omega
    have e4 : IntKind.u64.wrap ((hi : Int) + a) = ((sm a b hi : Nat) : Int) := by rw [wrap_u64, es]; omega
    have e5 : (((sm a b hi : Nat) : Int) / 2) % 4294967296 = ((sm a b hi / 2 : Nat) : Int) := by omega
    rw [if_pos ((bit_odd b hb).2 h), e4, wrap_u64, or_shift _ _ hl, e5, eb]
  · have es : sm a b hi = hi := by unfold sm; rw [show b % 2 = 0 by omega]; omega
    have e5 : ((hi : Int) / 2) % 4294967296 = ((hi / 2 : Nat) : Int) := by omega
    rw [if_neg (fun k => h ((bit_odd b hb).1 k)), wrap_u64, or_shift _ _ hl, e5, eb, es]
/-- What was made of a product with k of its steps done. -/
structure At (a b k : Nat) (B hi lo : Nat) : Prop where
  rest : B = b / 2 ^ k
  hiB : hi < 4294967296
  loB : lo < 4294967296
  all : hi * 4294967296 + lo = a * (b % 2 ^ k) * 2 ^ (32 - k)
theorem at_zero (a b : Nat) : At a b 0 b 0 0 := ⟨by simp, by decide, by decide, by simp [Nat.mod_one]⟩
theorem half_lo (hi lo p : Nat) (h : hi * 4294967296 + lo = 2 * p) : hi * 2147483648 + lo / 2 = p := by
  have h0 : lo = 2 * (lo / 2) := by omega
  generalize lo / 2 = m at h0 ⊢
  subst h0
  have : 2 * (hi * 2147483648 + m) = 2 * p := by rw [← h, Nat.mul_add, Nat.mul_left_comm]
  exact Nat.eq_of_mul_eq_mul_left (by decide) this
theorem half_hi (q r m : Nat) : q * 4294967296 + (r * 2147483648 + m) = (2 * q + r) * 2147483648 + m := by omega
theorem halves (hi lo p s : Nat) (h : hi * 4294967296 + lo = 2 * p) : (hi + s) / 2 * 4294967296 + ((hi + s) % 2 * 2147483648 + lo / 2) = p + s * 2147483648 := by
  have h2 := half_lo hi lo p h
  rw [half_hi, Nat.div_add_mod, Nat.add_mul, Nat.add_right_comm, h2]
theorem at_succ {a b k B hi lo : Nat} (ha : a < 4294967296) (hk : k < 32) (h : At a b k B hi lo) : At a b (k + 1) (B / 2) (sm a B hi / 2) (sm a B hi % 2 * 2147483648 + lo / 2) := by
  obtain ⟨rfl, hh, hl, hall⟩ := h
  have hs := sm_lt a (b / 2 ^ k) hi ha hh
  refine ⟨by rw [Nat.div_div_eq_div_mul, Nat.pow_succ], by omega, by omega, ?_⟩
  obtain ⟨j, hj⟩ : ∃ j, 32 - k = j + 1 := ⟨31 - k, by omega⟩
  have hj2 : 32 - (k + 1) = j := by omega
  have hp : 2 ^ k * 2 ^ (j + 1) = 4294967296 := by rw [← Nat.pow_add, show k + (j + 1) = 32 by omega]
  rw [hj, Nat.pow_succ] at hall
  rw [hj2, Nat.mod_pow_succ]
  rw [Nat.pow_succ] at hp
  generalize hq : 2 ^ k = q at hall hp ⊢
  generalize 2 ^ j = r at hall hp ⊢
  generalize b % q = c at hall ⊢
  have e3 : q * r = 2147483648 := by rw [← Nat.mul_assoc] at hp; omega
  have e2 : a * c * (r * 2) = 2 * (a * c * r) := by rw [← Nat.mul_assoc, Nat.mul_comm]
  rw [e2] at hall
  have e : a * (c + q * (b / q % 2)) * r = a * c * r + b / q % 2 * a * 2147483648 := by
    rw [← e3, Nat.mul_add, Nat.add_mul]
    congr 1
    ac_rfl
  rw [e]
  exact halves hi lo _ _ hall
theorem at_part {a b k B hi lo : Nat} (h : At a b k B hi lo) : (hi * 4294967296 + lo) / 2 ^ (32 - k) = a * (b % 2 ^ k) := by
  rw [h.all, Nat.mul_div_cancel _ (Nat.two_pow_pos _)]
theorem run_ends (a b : Nat) (ha : a < 4294967296) (hb : b < 4294967296) (d : Nat) : ∀ (i B hi lo : Nat), i + d = 32 → At a b i B hi lo →
    ∃ h l : Nat, At a b 32 (b / 2 ^ 32) h l ∧ Ev (fun k => mul_Run.l0 k 32 i a B hi lo ((32 - i : Nat) : Int)) ((h : Int), (l : Int)) := by
  induction d with
  | zero =>
    intro i B hi lo hi' hA
    obtain rfl : i = 32 := by omega
    refine ⟨hi, lo, ⟨rfl, hA.hiB, hA.loB, hA.all⟩, Ev.step (f := fun k => some ((hi : Int), (lo : Int))) (fun k => ?_) (Ev.now _)⟩
    simp only [mul_Run.l0]; rw [if_neg (by omega)]
  | succ d ih =>
    intro i B hi lo hi' hA
    have hB : B < 4294967296 := by rw [hA.rest]; exact Nat.lt_of_le_of_lt (Nat.div_le_self _ _) hb
    obtain ⟨h, l, hA', hev⟩ := ih (i + 1) _ _ _ (by omega) (at_succ ha (by omega) hA)
    refine ⟨h, l, hA', Ev.step (f := fun k => mul_Run.l0 k 32 ((i + 1 : Nat) : Int) a ((B / 2 : Nat) : Int) ((sm a B hi / 2 : Nat) : Int) ((sm a B hi % 2 * 2147483648 + lo / 2 : Nat) : Int) ((32 - (i + 1) : Nat) : Int)) (fun k => ?_) hev⟩
    have e1 : wrap64 ((i : Int) + 1) = ((i + 1 : Nat) : Int) := by unfold wrap64; omega
    have e2 : ((32 - i : Nat) : Int) - 1 = ((32 - (i + 1) : Nat) : Int) := by omega
    simp only [mul_Run.l0]
    rw [if_pos (by omega), step_f a B hi lo _ ha hB hA.hiB hA.loB (by omega) (by omega), e1, e2]
    simp only [Option.bind_some]
/-- A run from the beginning comes to the whole product's halves. -/
theorem run_new (a b : Nat) (ha : a < 4294967296) (hb : b < 4294967296) : Ev (fun k => mul_Run.f k a b 0 0 32) (((a * b / 4294967296 : Nat) : Int), ((a * b % 4294967296 : Nat) : Int)) := by
  obtain ⟨h, l, hA, hev⟩ := run_ends a b ha hb 32 0 b 0 0 rfl (at_zero a b)
  have hall := hA.all
  rw [Nat.mod_eq_of_lt (show b < 2 ^ 32 from hb), Nat.sub_self, Nat.pow_zero, Nat.mul_one] at hall
  have hl := hA.loB
  have e1 : h = a * b / 4294967296 := by omega
  have e2 : l = a * b % 4294967296 := by omega
  rw [e1, e2] at hev
  unfold mul_Run.f
  exact hev
theorem awake_f : Ev (fun k => cotterellaw04_awake.f k) true := Ev.of cotterellaw04_awake.mono (k := 40) (by kernel_rfl)
theorem shr64 (x d : Nat) (hd : d ≤ 64) : shr .u64 (x : Int) (d : Int) = ((x / 2 ^ d : Nat) : Int) := by
  unfold shr
  have : min ((d : Int).toNat) (IntKind.u64.bits) = d := by simp [IntKind.bits]; omega
  rw [this]; simp
theorem shl64_one (d : Nat) (hd : d < 64) : shl .u64 1 (d : Int) = ((2 ^ d : Nat) : Int) := by
  unfold shl
  have : min ((d : Int).toNat) (IntKind.u64.bits) = d := by simp [IntKind.bits]; omega
  have hp : 2 ^ d < 2 ^ 64 := Nat.pow_lt_pow_right (by decide) hd
  rw [this, wrap_u64]
  have h1 : (1 : Int) * 2 ^ d = ((2 ^ d : Nat) : Int) := by simp
  have h2 : ((2 ^ d : Nat) : Int) < ((2 ^ 64 : Nat) : Int) := Int.ofNat_lt.2 hp
  rw [h1]
  exact Int.emod_eq_of_lt (Int.natCast_nonneg _) h2
theorem all_ends (a b n : Nat) (ha : a < 4294967296) (hb : b < 4294967296) (hn : n ≤ 32) (d : Nat) : ∀ (i B hi lo : Nat), i + d = n → At a b i B hi lo →
    Ev (fun k => cotterellaw04_MulPart.l0 k a b n i a B hi lo ((32 - i : Nat) : Int)) true := by
  induction d with
  | zero =>
    intro i B hi lo hi' hA
    obtain rfl : i = n := by omega
    refine Ev.step (f := fun k => (cotterellaw04_awake.f k).bind fun t139 => some t139) (fun k => ?_) (Ev.bind awake_f (Ev.now _))
    have hpart := at_part hA
    have hh := hA.hiB
    have hl := hA.loB
    have ew : wrap64 (32 - (i : Int)) = ((32 - i : Nat) : Int) := by unfold wrap64; omega
    have eall : IntKind.u64.wrap ((IntKind.u64.wrap ((IntKind.u64.wrap (hi : Int)) * 4294967296)) + (IntKind.u64.wrap (lo : Int))) = ((hi * 4294967296 + lo : Nat) : Int) := by
      simp only [wrap_u64]; omega
    have hc : a * (b % 2 ^ i) < 18446744073709551616 := by
      have h1 : b % 2 ^ i ≤ b := Nat.mod_le _ _
      have := Nat.mul_lt_mul'' ha (show b % 2 ^ i < 4294967296 by omega)
      omega
    have ea : IntKind.u64.wrap (a : Int) = a := by rw [wrap_u64]; omega
    have eb : IntKind.u64.wrap (b : Int) = b := by rw [wrap_u64]; omega
    have ec : IntKind.u64.wrap ((a * (b % 2 ^ i) : Nat) : Int) = ((a * (b % 2 ^ i) : Nat) : Int) := by
      rw [wrap_u64]; generalize a * (b % 2 ^ i) = p at hc ⊢; omega
    simp only [cotterellaw04_MulPart.l0]
    rw [if_neg (by omega), ew, eall, shr64 _ _ (by omega), hpart, ea, eb]
    by_cases h32 : i < 32
    · have em : Int.tmod (b : Int) ((2 ^ i : Nat) : Int) = ((b % 2 ^ i : Nat) : Int) := by rw [Int.tmod_eq_emod_of_nonneg (by omega), Int.natCast_emod]
      have hpos := Nat.two_pow_pos i
      rw [if_pos (by omega), if_pos (by omega), shl64_one _ (by omega), if_neg (by omega), if_pos (by omega), em, ← Int.natCast_mul, ec]; simp only [if_true]
    · obtain rfl : i = 32 := by omega
      rw [Nat.mod_eq_of_lt (show b < 2 ^ 32 from hb)] at ec ⊢
      rw [if_neg (by omega), if_pos (by omega), ← Int.natCast_mul, ec]; simp only [if_true]
  | succ d ih =>
    intro i B hi lo hi' hA
    have hB : B < 4294967296 := by rw [hA.rest]; exact Nat.lt_of_le_of_lt (Nat.div_le_self _ _) hb
    have hev := ih (i + 1) _ _ _ (by omega) (at_succ ha (by omega) hA)
    refine Ev.step (fun k => ?_) hev
    have e1 : wrap64 ((i : Int) + 1) = ((i + 1 : Nat) : Int) := by unfold wrap64; omega
    have e2 : ((32 - i : Nat) : Int) - 1 = ((32 - (i + 1) : Nat) : Int) := by omega
    simp only [cotterellaw04_MulPart.l0]
    rw [if_pos (by omega), step_f a B hi lo _ ha hB hA.hiB hA.loB (by omega) (by omega), e1, e2]
    simp only [Option.bind_some]

theorem MulPart : cotterellaw04_MulPart.Pure := by
  intro a0 a1 a2 w0 w1 w2
  obtain ⟨h0, h1⟩ := wf_u32 w0
  obtain ⟨g0, g1⟩ := wf_u32 w1
  obtain ⟨k0, k1⟩ := wf_u8 w2
  obtain ⟨a, rfl⟩ := nat_of h0
  obtain ⟨b, rfl⟩ := nat_of g0
  obtain ⟨c, rfl⟩ := nat_of k0
  refine Ev.rounds (g := fun k => cotterellaw04_MulPart.f k a b c) ?_
  unfold cotterellaw04_MulPart.f mul_New.f
  simp only [Option.bind_some]
  have ec : Int.tmod (wrap64 (c : Int)) 33 = ((c % 33 : Nat) : Int) := by
    have : wrap64 (c : Int) = c := by unfold wrap64; omega
    rw [this, Int.tmod_eq_emod_of_nonneg (by omega)]; omega
  rw [ec]
  exact all_ends a b (c % 33) (by omega) (by omega) (by omega) (c % 33) 0 b 0 0 (by omega) (at_zero a b)

end Go.Proofs.Ytghmllhcegioiaa.Pure
