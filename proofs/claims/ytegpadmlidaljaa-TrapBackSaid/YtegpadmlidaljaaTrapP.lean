/- The status of a core through a trap and back, bit by bit: plain lemmas, no program. The one condition is that the numbers are words. -/
import Derived.Test.YtegpadmlidaljaaBits
namespace Go.Proofs.Ytegpadmlidaljaa.TrapP
open Go Go.Proofs Go.RowKit Go.Proofs.YtegpadmlidaljaaW.PrintWords Go.Proofs.Ytegpadmlidaljaa.Plain
def U (x : Int) : Prop := 0 ≤ x ∧ x < 4294967296
def bt (s : Int) (i : Nat) : Bool := s.toNat.testBit i
theorem U.ext {a b : Int} (ha : U a) (hb : U b) (h : ∀ j, bt a j = bt b j) : a = b := by
  have := Nat.eq_of_testBit_eq h
  have h1 := ha.1
  have h2 := hb.1
  omega
theorem p32 {i : Nat} (hi : i < 32) : 2 ^ i < 4294967296 := Nat.pow_lt_pow_of_lt (a := 2) (by decide) hi
theorem and_U {a b : Int} (ha : U a) (hb : U b) : U (Go.bits .and .u32 a b) := by
  obtain ⟨x, rfl⟩ := nat_of ha.1
  obtain ⟨y, rfl⟩ := nat_of hb.1
  have h1 := ha.2
  have h2 := hb.2
  rw [and32 x y (by omega) (by omega)]
  have := Nat.and_lt_two_pow (n := 32) x (y := y) (by omega)
  exact ⟨by omega, by omega⟩
theorem or_U {a b : Int} (ha : U a) (hb : U b) : U (Go.bits .or .u32 a b) := by
  obtain ⟨x, rfl⟩ := nat_of ha.1
  obtain ⟨y, rfl⟩ := nat_of hb.1
  have h1 := ha.2
  have h2 := hb.2
  rw [or32 x y (by omega) (by omega)]
  have := Nat.or_lt_two_pow (n := 32) (x := x) (y := y) (by omega) (by omega)
  exact ⟨by omega, by omega⟩
theorem andNot_U {a b : Int} (ha : U a) (hb : U b) : U (Go.bits .andNot .u32 a b) := by
  obtain ⟨x, rfl⟩ := nat_of ha.1
  obtain ⟨y, rfl⟩ := nat_of hb.1
  have h1 := ha.2
  have h2 := hb.2
  rw [andNot32 x y (by omega) (by omega)]
  have := Nat.and_lt_two_pow (n := 32) x (y := 4294967295 - y) (by omega)
  exact ⟨by omega, by omega⟩
theorem and_bt {a b : Int} (ha : U a) (hb : U b) (j : Nat) : bt (Go.bits .and .u32 a b) j = (bt a j && bt b j) := by
  obtain ⟨x, rfl⟩ := nat_of ha.1
  obtain ⟨y, rfl⟩ := nat_of hb.1
  have h1 := ha.2
  have h2 := hb.2
  rw [and32 x y (by omega) (by omega)]
  simp [bt, Nat.testBit_and]
theorem or_bt {a b : Int} (ha : U a) (hb : U b) (j : Nat) : bt (Go.bits .or .u32 a b) j = (bt a j || bt b j) := by
  obtain ⟨x, rfl⟩ := nat_of ha.1
  obtain ⟨y, rfl⟩ := nat_of hb.1
  have h1 := ha.2
  have h2 := hb.2
  rw [or32 x y (by omega) (by omega)]
  simp [bt, Nat.testBit_or]
theorem high {a : Int} (ha : U a) {j : Nat} (hj : 32 ≤ j) : bt a j = false := by
  refine Nat.testBit_lt_two_pow (Nat.lt_of_lt_of_le (m := 2 ^ 32) ?_ (Nat.pow_le_pow_right (by decide) hj))
  have h1 := ha.1
  have h2 := ha.2
  omega
theorem andNot_bt {a b : Int} (ha : U a) (hb : U b) (j : Nat) : bt (Go.bits .andNot .u32 a b) j = (bt a j && !bt b j) := by
  by_cases hj : 32 ≤ j
  · rw [high (andNot_U ha hb) hj, high ha hj]; rfl
  · obtain ⟨x, rfl⟩ := nat_of ha.1
    obtain ⟨y, rfl⟩ := nat_of hb.1
    have h1 := ha.2
    have h2 := hb.2
    rw [andNot32 x y (by omega) (by omega), show 4294967295 - y = 2 ^ 32 - (y + 1) by omega]
    have := Nat.testBit_two_pow_sub_succ (n := 32) (x := y) (by omega) j
    have hj' : decide (j < 32) = true := decide_eq_true (by omega)
    simp only [bt, Int.toNat_natCast, Nat.testBit_and, this, hj', Bool.true_and]
theorem lit_bt {i : Nat} {p : Int} (hp : p = ((2 ^ i : Nat) : Int)) (j : Nat) : bt p j = decide (i = j) := by
  subst hp
  simp only [bt, Int.toNat_natCast]
  rw [Nat.testBit_two_pow]
theorem lit_U {i : Nat} {p : Int} (hp : p = ((2 ^ i : Nat) : Int)) (hi : i < 32) : U p := by
  subst hp
  have := p32 hi
  generalize 2 ^ i = m at this ⊢
  exact ⟨by omega, by omega⟩
theorem test {a : Int} (ha : U a) {i : Nat} {p : Int} (hp : p = ((2 ^ i : Nat) : Int)) (hi : i < 32) : (Go.bits .and .u32 a p != 0) = bt a i := by
  have hq := lit_U hp hi
  have h := fun j => (and_bt ha hq j).trans (by rw [lit_bt hp])
  cases e : bt a i with
  | true =>
    have := h i
    rw [e] at this
    simp only [bne_iff_ne, ne_eq]
    intro z
    rw [z] at this
    simp [bt] at this
  | false =>
    have z : Go.bits .and .u32 a p = 0 := U.ext (and_U ha hq) ⟨by decide, by decide⟩ (fun j => by
      rw [h j]
      by_cases q : i = j
      · subst q; rw [e]; simp [bt]
      · rw [decide_eq_false q]; simp [bt])
    rw [z]; rfl
def mv (s f t : Int) : Int := if (Go.bits .and .u32 s f != 0) = true then Go.bits .or .u32 s t else Go.bits .andNot .u32 s t
def pt (s b : Int) (on : Bool) : Int := if on = true then Go.bits .or .u32 s b else Go.bits .andNot .u32 s b
section
variable {s : Int} (hs : U s)
include hs
theorem pt_U {b : Int} (hb : U b) (on : Bool) : U (pt s b on) := by
  unfold pt
  split
  · exact or_U hs hb
  · exact andNot_U hs hb
omit hs in
theorem mv_pt {f t : Int} : mv s f t = pt s t (Go.bits .and .u32 s f != 0) := rfl
theorem pt_bt {i : Nat} {b : Int} (hb : b = ((2 ^ i : Nat) : Int)) (hi : i < 32) (on : Bool) (j : Nat) : bt (pt s b on) j = if i = j then on else bt s j := by
  unfold pt
  cases on with
  | true =>
    rw [if_pos rfl, or_bt hs (lit_U hb hi), lit_bt hb]
    by_cases q : i = j
    · rw [if_pos q, decide_eq_true q]; simp
    · rw [if_neg q, decide_eq_false q]; simp
  | false =>
    rw [if_neg (by decide), andNot_bt hs (lit_U hb hi), lit_bt hb]
    by_cases q : i = j
    · rw [if_pos q, decide_eq_true q]; simp
    · rw [if_neg q, decide_eq_false q]; simp
end
theorem l0 : (1 : Int) = ((2 ^ 0 : Nat) : Int) := rfl
theorem l1 : (2 : Int) = ((2 ^ 1 : Nat) : Int) := rfl
theorem l2 : (4 : Int) = ((2 ^ 2 : Nat) : Int) := rfl
theorem l3 : (8 : Int) = ((2 ^ 3 : Nat) : Int) := rfl
theorem l5 : (32 : Int) = ((2 ^ 5 : Nat) : Int) := rfl
/-- The status behind a trap, and behind a return. -/
def stT (s : Int) : Int := Go.bits .andNot .u32 (Go.bits .or .u32 (mv (mv s 1 4) 2 8) 1) 2
def stR (s : Int) : Int := mv (mv s 4 1) 8 2
def rT (s : Int) : Int := pt (pt (pt (pt s 4 (Go.bits .and .u32 s 1 != 0)) 8 (Go.bits .and .u32 s 2 != 0)) 1 true) 2 false
def rR (s : Int) : Int := pt (pt s 1 (Go.bits .and .u32 s 4 != 0)) 2 (Go.bits .and .u32 s 8 != 0)
section
variable {s : Int} (hs : U s)
include hs
theorem u1 : U (pt s 4 (Go.bits .and .u32 s 1 != 0)) := pt_U hs (lit_U l2 (by decide)) _
theorem stT_rT : stT s = rT s := by
  have e : (Go.bits .and .u32 (pt s 4 (Go.bits .and .u32 s 1 != 0)) 2 != 0) = (Go.bits .and .u32 s 2 != 0) := by
    rw [test (u1 hs) l1 (by decide), test hs l1 (by decide), pt_bt hs l2 (by decide), if_neg (by decide)]
  show pt (pt (pt (pt s 4 _) 8 (Go.bits .and .u32 (pt s 4 _) 2 != 0)) 1 true) 2 false = _
  rw [e]
  rfl
theorem stR_rR : stR s = rR s := by
  have e : (Go.bits .and .u32 (pt s 1 (Go.bits .and .u32 s 4 != 0)) 8 != 0) = (Go.bits .and .u32 s 8 != 0) := by
    rw [test (pt_U hs (lit_U l0 (by decide)) _) l3 (by decide), test hs l3 (by decide), pt_bt hs l0 (by decide), if_neg (by decide)]
  show pt (pt s 1 _) 2 (Go.bits .and .u32 (pt s 1 _) 8 != 0) = _
  rw [e]
  rfl
theorem rT_U : U (rT s) := pt_U (pt_U (pt_U (u1 hs) (lit_U l3 (by decide)) _) (lit_U l0 (by decide)) _) (lit_U l1 (by decide)) _
theorem rR_U : U (rR s) := pt_U (pt_U hs (lit_U l0 (by decide)) _) (lit_U l1 (by decide)) _
theorem rT_bt (j : Nat) : bt (rT s) j = if 1 = j then false else if 0 = j then true else if 3 = j then bt s 1 else if 2 = j then bt s 0 else bt s j := by
  unfold rT
  rw [pt_bt (pt_U (pt_U (u1 hs) (lit_U l3 (by decide)) _) (lit_U l0 (by decide)) _) l1 (by decide), pt_bt (pt_U (u1 hs) (lit_U l3 (by decide)) _) l0 (by decide),
    pt_bt (u1 hs) l3 (by decide), pt_bt hs l2 (by decide), test hs l0 (by decide), test hs l1 (by decide)]
theorem rR_bt (j : Nat) : bt (rR s) j = if 1 = j then bt s 3 else if 0 = j then bt s 2 else bt s j := by
  unfold rR
  rw [pt_bt (pt_U hs (lit_U l0 (by decide)) _) l1 (by decide), pt_bt hs l0 (by decide), test hs l2 (by decide), test hs l3 (by decide)]
/-- There and back: but for the two bits that hold what was, all is as it was. -/
theorem back_bt (j : Nat) (h2 : j ≠ 2) (h3 : j ≠ 3) : bt (rR (rT s)) j = bt s j := by
  rw [rR_bt (rT_U hs)]
  by_cases q : 1 = j
  · subst q; rw [if_pos rfl, rT_bt hs]; rfl
  · rw [if_neg q]
    by_cases r : 0 = j
    · subst r; rw [if_pos rfl, rT_bt hs]; rfl
    · rw [if_neg r, rT_bt hs, if_neg q, if_neg r, if_neg (fun e => h3 e.symm), if_neg (fun e => h2 e.symm)]
theorem back_and {m : Int} (hm : U m) (h2 : bt m 2 = false) (h3 : bt m 3 = false) : Go.bits .and .u32 (rR (rT s)) m = Go.bits .and .u32 s m := by
  have hb := rR_U (rT_U hs)
  refine U.ext (and_U hb hm) (and_U hs hm) fun j => ?_
  rw [and_bt hb hm, and_bt hs hm]
  by_cases q : j = 2
  · rw [q, h2]; simp
  · by_cases r : j = 3
    · rw [r, h3]; simp
    · rw [back_bt hs j q r]
end
theorem or_one {p : Int} (hp : U p) (h : p % 2 = 0) : Go.bits .or .u32 p 1 = p + 1 := by
  obtain ⟨n, rfl⟩ := nat_of hp.1
  have h1 := hp.2
  have := or32 n 1 (by omega) (by decide)
  rw [show ((1 : Nat) : Int) = 1 from rfl] at this
  rw [this]
  have e := Nat.two_pow_add_eq_or_of_lt (i := 1) (b := 1) (by decide) (n / 2)
  rw [show 2 ^ 1 * (n / 2) = n by omega] at e
  omega
theorem and_one {p : Int} (hp : U p) : Go.bits .and .u32 p 1 = p % 2 := by
  obtain ⟨n, rfl⟩ := nat_of hp.1
  have h1 := hp.2
  rw [and32_one n (by omega)]
  omega
theorem stop_same {st p : Int} (hs : U st) (hp : U p) : ((Go.bits .and .u32 st 1 == 1) && (st == Go.bits .or .u32 p 1) && (Go.bits .and .u32 p 1 == 0)) = ((st % 2 == 1) && (((st - 1) % 4294967296) == p)) := by
  rw [and_one hs, and_one hp]
  have h1 := hs.1
  have h2 := hs.2
  have h3 := hp.1
  have h4 := hp.2
  by_cases e : st % 2 = 1
  · by_cases f : p % 2 = 0
    · rw [or_one hp f, e, f]
      by_cases g : st = p + 1
      · have g' : (st - 1) % 4294967296 = p := by omega
        rw [g', beq_iff_eq.2 g]; simp
      · have g' : ¬ (st - 1) % 4294967296 = p := by omega
        rw [beq_eq_false_iff_ne.2 g, beq_eq_false_iff_ne.2 g']; rfl
    · have g' : ¬ (st - 1) % 4294967296 = p := by omega
      rw [beq_eq_false_iff_ne.2 f, beq_eq_false_iff_ne.2 g']; simp
  · rw [beq_eq_false_iff_ne.2 e]; rfl
end Go.Proofs.Ytegpadmlidaljaa.TrapP
