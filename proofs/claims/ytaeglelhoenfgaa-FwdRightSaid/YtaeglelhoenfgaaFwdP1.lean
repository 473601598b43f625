/- What the small functions of fwd's document come to: bytes of a store, shared bytes. Plain lemmas, no program. The conditions are those that each names. -/
import Derived.Test.YtaeglelhoenfgaaPFwdx2
import Derived.Test.YtaeglelhoenfgaaPFwdx5
import Derived.Test.YtaeglelhoenfgaaBits
namespace Go.Proofs.Ytaeglelhoenfgaa.PFwd
set_option linter.unusedVariables false
set_option linter.unusedSimpArgs false
open Go Go.Proofs Go.RowKit Go.Proofs.YtaeglelhoenfgaaW.PrintWords Go.Proofs.Ytaeglelhoenfgaa.Plain
def U (x : Int) : Prop := 0 ≤ x ∧ x < 4294967296
/-- A size brought from 0 to 4. -/
def fr (n : Int) : Int := mn (mx n 0) 4
theorem fr_cases (n : Int) : fr n = 0 ∨ fr n = 1 ∨ fr n = 2 ∨ fr n = 3 ∨ fr n = 4 := by
  unfold fr mn mx
  split <;> split <;> omega
theorem within_is (n : Int) : cotterelref34_within.f n = some (fr n) := by
  unfold cotterelref34_within.f fr mn mx
  (repeat' split) <;> first | rfl | (exfalso; omega) | (congr 1; omega)
theorem power_is (n : Int) (h : n = 0 ∨ n = 1 ∨ n = 2 ∨ n = 3 ∨ n = 4) (k : Nat) (hk : 6 ≤ k) : cotterelref34_power.f k n = some (256 ^ n.toNat) := by
  obtain ⟨m, rfl⟩ : ∃ m, k = m + 6 := ⟨k - 6, by omega⟩
  rcases h with rfl | rfl | rfl | rfl | rfl <;> simp [cotterelref34_power.f, cotterelref34_power.l0, wrap_u64, wrap64]
theorem cut_same (k : Nat) (hk : 6 ≤ k) {d : Int} (hd : U d) (b a n : Int) : cotterelref34_Cut.f k d b a n = some (cutW d b a n) := by
  unfold cotterelref34_Cut.f cutW
  obtain ⟨y, hy⟩ : ∃ y, (a - b) % 4294967296 = y := ⟨_, rfl⟩
  have hy0 : 0 ≤ y := by omega
  rw [hy]
  by_cases c : y > 3
  · rw [if_pos c, if_pos c]
  · rw [if_neg c, if_neg c]
    have hy4 : y = 0 ∨ y = 1 ∨ y = 2 ∨ y = 3 ∨ y = 4 := by omega
    rw [power_is y hy4 k hk, within_is]
    simp only [Option.bind_some]
    rw [power_is (fr n) (fr_cases n) k hk]
    simp only [Option.bind_some]
    show _ = some (cutV d y (fr n))
    unfold cutV
    obtain ⟨x, rfl⟩ := nat_of hd.1
    have hx := hd.2
    have hc : (x : Int) < 4294967296 := hx
    clear hy hd
    have hm : ∀ (z t : Nat), z < 4294967296 → t ≤ 32 → Go.bits .and .u64 (IntKind.u64.wrap (z : Int)) (2 ^ t - 1) % 4294967296 = ((z % 2 ^ t : Nat) : Int) := by
      intro z t hz ht
      have hp : 2 ^ t ≤ 2 ^ 32 := Nat.pow_le_pow_right (by decide) ht
      have hq := Nat.two_pow_pos t
      rw [wrap_u64, show ((2 : Int) ^ t - 1) = ((2 ^ t - 1 : Nat) : Int) by rw [Int.ofNat_sub (by omega)]; simp, show ((z : Int) % 18446744073709551616) = ((z : Nat) : Int) by omega, and64 _ _ (by omega) (by omega), Nat.and_two_pow_sub_one_eq_mod]
      have := Nat.mod_le z (2 ^ t)
      omega
    have key : ∀ (p t : Nat), 0 < p → t ≤ 32 → (if (p : Int) = 0 then none else if ((2 : Int) ^ t) = 0 then none else some ((Int.tmod (IntKind.u64.wrap (Int.tdiv (IntKind.u64.wrap (x : Int)) (p : Int))) (2 ^ t)) % 4294967296)) = some (Go.bits .and .u64 (IntKind.u64.wrap ((x : Int) / (p : Int))) (2 ^ t - 1) % 4294967296) := by
      intro p t hp ht
      have hq := Nat.two_pow_pos t
      have hxp : x / p ≤ x := Nat.div_le_self x p
      have e2 : ((2 : Int) ^ t) = ((2 ^ t : Nat) : Int) := by simp
      rw [if_neg (by omega), if_neg (by rw [e2]; omega), show ((x : Int) / (p : Int)) = ((x / p : Nat) : Int) by simp, hm (x / p) t (by omega) ht]
      simp only [wrap_u64]
      have hz : ((x / p : Nat) : Int) ≤ (x : Int) := by exact_mod_cast hxp
      have hz0 : (0 : Int) ≤ ((x / p : Nat) : Int) := Int.natCast_nonneg _
      rw [show (x : Int) % 18446744073709551616 = (x : Int) by omega, Int.tdiv_eq_ediv_of_nonneg (by omega), show ((x : Int) / (p : Int)) = ((x / p : Nat) : Int) by simp]
      generalize x / p = z at hz hz0 hxp ⊢
      rw [show ((z : Nat) : Int) % 18446744073709551616 = ((z : Nat) : Int) by omega, Int.tmod_eq_emod_of_nonneg (by omega), e2]
      congr 1
      have := Nat.mod_le z (2 ^ t)
      rw [show ((z : Nat) : Int) % ((2 ^ t : Nat) : Int) = ((z % 2 ^ t : Nat) : Int) by simp]
      omega
    rcases (show y = 0 ∨ y = 1 ∨ y = 2 ∨ y = 3 by omega) with rfl | rfl | rfl | rfl <;> rcases fr_cases n with e | e | e | e | e <;> rw [e]
    · exact key 1 0 (by decide) (by decide)
    · exact key 1 8 (by decide) (by decide)
    · exact key 1 16 (by decide) (by decide)
    · exact key 1 24 (by decide) (by decide)
    · exact key 1 32 (by decide) (by decide)
    · exact key 256 0 (by decide) (by decide)
    · exact key 256 8 (by decide) (by decide)
    · exact key 256 16 (by decide) (by decide)
    · exact key 256 24 (by decide) (by decide)
    · exact key 256 32 (by decide) (by decide)
    · exact key 65536 0 (by decide) (by decide)
    · exact key 65536 8 (by decide) (by decide)
    · exact key 65536 16 (by decide) (by decide)
    · exact key 65536 24 (by decide) (by decide)
    · exact key 65536 32 (by decide) (by decide)
    · exact key 16777216 0 (by decide) (by decide)
    · exact key 16777216 8 (by decide) (by decide)
    · exact key 16777216 16 (by decide) (by decide)
    · exact key 16777216 24 (by decide) (by decide)
    · exact key 16777216 32 (by decide) (by decide)
theorem ov_nat {a b : Int} (ha : U a) (hb : U b) (n m : Int) : ovB a n b m = decide (mx a b < mn (a + fr n) (b + fr m)) := by
  have h1 := fr_cases n
  have h2 := fr_cases m
  unfold ovB
  show decide (mx _ _ < mn (IntKind.u64.wrap (_ + fr n)) (IntKind.u64.wrap (_ + fr m))) = _
  obtain ⟨h3, h4⟩ := ha
  obtain ⟨h5, h6⟩ := hb
  simp only [wrap_u64]
  rw [show a % 18446744073709551616 = a by omega, show b % 18446744073709551616 = b by omega, show (a + fr n) % 18446744073709551616 = a + fr n by omega, show (b + fr m) % 18446744073709551616 = b + fr m by omega]
/-- Bytes shared, one by one. -/
theorem ov_iff {a b : Int} (ha : U a) (hb : U b) (n m : Int) : ovB a n b m = true ↔ ∃ i j : Int, 0 ≤ i ∧ i < fr n ∧ 0 ≤ j ∧ j < fr m ∧ a + i = b + j := by
  rw [ov_nat ha hb, decide_eq_true_eq]
  have h1 := fr_cases n
  have h2 := fr_cases m
  constructor
  · intro h
    have : mx a b < a + fr n ∧ mx a b < b + fr m ∧ a ≤ mx a b ∧ b ≤ mx a b := by
      unfold mx mn at *
      (repeat' split at h) <;> (repeat' split) <;> omega
    exact ⟨mx a b - a, mx a b - b, by omega, by omega, by omega, by omega, by omega⟩
  · rintro ⟨i, j, h3, h4, h5, h6, h7⟩
    unfold mx mn
    (repeat' split) <;> omega
theorem wrap64_small {x : Int} (h0 : -9223372036854775808 ≤ x) (h1 : x ≤ 9223372036854775807) : wrap64 x = x := by unfold wrap64; omega
theorem fr_lt {n i : Int} (h0 : 0 ≤ i) : (i < n ∧ i < 4) ↔ i < fr n := by
  unfold fr mn mx
  (repeat' split) <;> omega
/-- The inner loop of the document's Overlap, from j on: some shared byte there, or on with the next i. -/
theorem ov_in (a n b m : Int) (ha : U a) (hb : U b) (i : Int) (hi : 0 ≤ i ∧ i < 4) (r : Bool) (hnext : (¬ ∃ j : Int, 0 ≤ j ∧ j < fr m ∧ a + i = b + j) → Ev (fun k => cotterelref33_Overlap.l0 k a n b m (i + 1)) r) (hyes : (∃ j : Int, 0 ≤ j ∧ j < fr m ∧ a + i = b + j) → r = true) :
    ∀ (d : Nat) (j : Int), 0 ≤ j → j ≤ 4 → (4 - j).toNat = d → (∀ j' : Int, 0 ≤ j' → j' < j → a + i ≠ b + j') → Ev (fun k => cotterelref33_Overlap.l1 k a n b m i j) r := by
  obtain ⟨ha0, ha1⟩ := ha
  obtain ⟨hb0, hb1⟩ := hb
  intro d
  induction d with
  | zero =>
    intro j h0 h1 hd hno
    obtain rfl : j = 4 := by omega
    refine Ev.step (f := fun k => if (4 : Int) < m then cotterelref33_Overlap.j3 k a n b m i 4 (decide ((4 : Int) < 4)) else cotterelref33_Overlap.j3 k a n b m i 4 false) (fun k => by simp only [cotterelref33_Overlap.l1]) ?_
    have fin : Ev (fun k => cotterelref33_Overlap.j3 k a n b m i 4 false) r := Ev.step (f := fun k => cotterelref33_Overlap.l0 k a n b m (i + 1)) (fun k => by simp only [cotterelref33_Overlap.j3]; rw [if_neg (by decide), wrap64_small (by omega) (by omega)]) (hnext fun ⟨j', q0, q1, q2⟩ => hno j' q0 (by have := fr_cases m; omega) q2)
    by_cases c : (4 : Int) < m
    · exact yes c fin
    · exact no c fin
  | succ d ih =>
    intro j h0 h1 hd hno
    refine Ev.step (f := fun k => if j < m then cotterelref33_Overlap.j3 k a n b m i j (decide (j < 4)) else cotterelref33_Overlap.j3 k a n b m i j false) (fun k => by simp only [cotterelref33_Overlap.l1]) ?_
    have fin : ¬ j < m → Ev (fun k => cotterelref33_Overlap.j3 k a n b m i j false) r := fun c => Ev.step (f := fun k => cotterelref33_Overlap.l0 k a n b m (i + 1)) (fun k => by simp only [cotterelref33_Overlap.j3]; rw [if_neg (by decide), wrap64_small (by omega) (by omega)]) (hnext fun ⟨j', q0, q1, q2⟩ => hno j' q0 (by have := (fr_lt (n := m) q0).2 q1; omega) q2)
    by_cases c : j < m
    · refine yes c ?_
      rw [decide_eq_true (show j < 4 by omega)]
      refine Ev.step (f := fun k => if a + i = b + j then some true else cotterelref33_Overlap.l1 k a n b m i (j + 1)) (fun k => by simp only [cotterelref33_Overlap.j3, if_true, wrap64_small (show -9223372036854775808 ≤ a by omega) (show a ≤ 9223372036854775807 by omega), wrap64_small (show -9223372036854775808 ≤ b by omega) (show b ≤ 9223372036854775807 by omega), wrap64_small (show -9223372036854775808 ≤ a + i by omega) (show a + i ≤ 9223372036854775807 by omega), wrap64_small (show -9223372036854775808 ≤ b + j by omega) (show b + j ≤ 9223372036854775807 by omega), wrap64_small (show -9223372036854775808 ≤ j + 1 by omega) (show j + 1 ≤ 9223372036854775807 by omega)]) ?_
      by_cases e : a + i = b + j
      · rw [hyes ⟨j, h0, (fr_lt h0).1 ⟨c, by omega⟩, e⟩]
        exact yes e (Ev.now true)
      · refine no e (ih (j + 1) (by omega) (by omega) (by omega) fun j' h0' h1' => ?_)
        by_cases q : j' = j
        · rw [q]; exact e
        · exact hno j' h0' (by omega)
    · exact no c (fin c)
theorem ov_out (a n b m : Int) (ha : U a) (hb : U b) : ∀ (d : Nat) (i : Int), 0 ≤ i → i ≤ 4 → (4 - i).toNat = d → (∀ i' j : Int, 0 ≤ i' → i' < i → 0 ≤ j → j < fr m → a + i' ≠ b + j) → Ev (fun k => cotterelref33_Overlap.l0 k a n b m i) (ovB a n b m) := by
  intro d
  induction d with
  | zero =>
    intro i h0 h1 hd hno
    obtain rfl : i = 4 := by omega
    have hf : ovB a n b m = false := by
      rw [← Bool.not_eq_true, ov_iff ha hb]
      rintro ⟨i, j, q0, q1, q2, q3, q4⟩
      exact hno i j q0 (by have := fr_cases n; omega) q2 q3 q4
    rw [hf]
    refine Ev.step (f := fun k => if (4 : Int) < n then cotterelref33_Overlap.j1 k a n b m 4 (decide ((4 : Int) < 4)) else cotterelref33_Overlap.j1 k a n b m 4 false) (fun k => by simp only [cotterelref33_Overlap.l0]) ?_
    have fin : Ev (fun k => cotterelref33_Overlap.j1 k a n b m 4 false) false := Ev.step (f := fun _ => some false) (fun k => by simp only [cotterelref33_Overlap.j1]; rw [if_neg (by decide)]) (Ev.now _)
    by_cases c : (4 : Int) < n
    · exact yes c fin
    · exact no c fin
  | succ d ih =>
    intro i h0 h1 hd hno
    refine Ev.step (f := fun k => if i < n then cotterelref33_Overlap.j1 k a n b m i (decide (i < 4)) else cotterelref33_Overlap.j1 k a n b m i false) (fun k => by simp only [cotterelref33_Overlap.l0]) ?_
    by_cases c : i < n
    · refine yes c ?_
      rw [decide_eq_true (show i < 4 by omega)]
      refine Ev.step (f := fun k => cotterelref33_Overlap.l1 k a n b m i 0) (fun k => by simp only [cotterelref33_Overlap.j1, if_true]) ?_
      refine ov_in a n b m ha hb i ⟨h0, by omega⟩ _ (fun hx => ih (i + 1) (by omega) (by omega) (by omega) fun i' j q0 q1 q2 q3 => ?_) (fun hx => ?_) 4 0 (by omega) (by omega) (by omega) (fun j' q0 q1 => by omega)
      · by_cases q : i' = i
        · rw [q]; exact fun e => hx ⟨j, q2, q3, e⟩
        · exact hno i' j q0 (by omega) q2 q3
      · obtain ⟨j, q0, q1, q2⟩ := hx
        exact (ov_iff ha hb n m).2 ⟨i, j, h0, (fr_lt h0).1 ⟨c, by omega⟩, q0, q1, q2⟩
    · refine no c (Ev.step (f := fun _ => some (ovB a n b m)) (fun k => ?_) (Ev.now _))
      have hf : ovB a n b m = false := by
        rw [← Bool.not_eq_true, ov_iff ha hb]
        rintro ⟨i', j, q0, q1, q2, q3, q4⟩
        exact hno i' j q0 (by have := (fr_lt (n := n) q0).2 q1; omega) q2 q3 q4
      simp only [cotterelref33_Overlap.j1]
      rw [if_neg (by decide), hf]
theorem ov_same {a b : Int} (ha : U a) (hb : U b) (n m : Int) : Ev (fun k => cotterelref33_Overlap.f k a n b m) (ovB a n b m) :=
  ov_out a n b m ha hb 4 0 (by omega) (by omega) (by omega) (fun i' j q0 q1 => by omega)
end Go.Proofs.Ytaeglelhoenfgaa.PFwd
