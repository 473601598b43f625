/- The walk of HistForgets: what the function computes, over whatever histories (a, b) the pushes give. -/
import Derived.Test.YtghmllhcegioiaaPHistForgetsx1
namespace Go.Proofs.Ytghmllhcegioiaa.PHistForgets
open Go.RowKit Go.Proofs.YtghmllhcegioiaaW.PrintWords Go.Proofs.YtghmllhcegioiaaW.PrintLast Go.Proofs.YtghmllhcegioiaaW.PrintMore
attribute [local go_sem] max2_int min2_int max_two min_two max_three min_three max_four min_four
set_option linter.unusedVariables false
theorem awake_any (w : World) : Calls Try.prog 20 #[] w fun e w' => e = .returned (.bool true) ∧ Below w.heap.size w w' :=
  cotterellaw17_awake.calls 20 true w (by kernel_rfl)
set_option maxHeartbeats 400000 in
theorem early (x y n : Int) (A : Option Addr) (l : List Bool) (c : Nat) (w : World) (h : 60 < l.length) :
    Calls Try.prog 5 #[.agg #[.int .u32 x, .int .u32 y], .int .i64 n, .slice A l.length c] w fun e w' => e = .returned (.bool true) ∧ Below w.heap.size w w' := by
  go_enter Try.func5, Try.ntmps5
  go_wp2_with ((with_reducible refine (awake_any _).mono ?_); rintro e w1 ⟨rfl, hb⟩)
  go_ret
  exact ⟨rfl, below_step ((Below.refl _ _).alloc (Nat.le_refl _) _) hb⟩
set_option maxHeartbeats 400000 in
theorem early2 (x y n : Int) (A : Option Addr) (l : List Bool) (c : Nat) (w : World) (h : l.length ≤ 60) (h2 : (l.length : Int) < n) :
    Calls Try.prog 5 #[.agg #[.int .u32 x, .int .u32 y], .int .i64 n, .slice A l.length c] w fun e w' => e = .returned (.bool true) ∧ Below w.heap.size w w' := by
  go_enter Try.func5, Try.ntmps5
  go_wp2_with ((with_reducible refine (awake_any _).mono ?_); rintro e w1 ⟨rfl, hb⟩)
  go_ret
  exact ⟨rfl, below_step ((Below.refl _ _).alloc (Nat.le_refl _) _) hb⟩
set_option maxHeartbeats 800000 in
theorem main (x y n : Int) (A : Option Addr) (l : List Bool) (c : Nat) (w : World) (hc : l.length ≤ c) (hr : Kd.C Kd.bool w A l.length l) (h : l.length ≤ 60) (h2 : n ≤ (l.length : Int))
    (a b : Nat → Nat) (ha0 : x = (a 0 : Int)) (hb0 : y = (b 0 : Int)) (ha : ∀ k, k < l.length → hist_Push.f (a k) n (rdOf false l k) = some ((a (k + 1) : Nat) : Int)) (hb : ∀ k, k < l.length → hist_Push.f (b k) n (rdOf false l k) = some ((b (k + 1) : Nat) : Int))
    (m : Int) (hm : hist_Mask.f n = some m) (hend : l.length = 0 ∨ (a l.length = b l.length ∧ (a l.length : Int) ≤ m)) :
    Calls Try.prog 5 #[.agg #[.int .u32 x, .int .u32 y], .int .i64 n, .slice A l.length c] w fun e w' => e = .returned (.bool true) ∧ Below w.heap.size w w' := by
  have HR := Aside0.mk hr
  have HA := Aside0.mk ha
  have HB1 := Aside0.mk hb
  have HM := Aside0.mk hm
  have HE := Aside0.mk hend
  subst ha0 hb0
  clear hr ha hb hm hend
  have HB := Aside0.mk (Below.refl w.heap.size w)
  rcases (show 8 ≤ l.length ∨ (¬ 8 ≤ l.length ∧ n ≤ 8) by omega) with h3 | ⟨h3, h4⟩
  all_goals
    go_enter Try.func5, Try.ntmps5
    go_wp2
    go_quiet (fail)
    go_wp2
    go_loopw [7, 8, 9] (fun u v i wr => ∃ k : Nat, k ≤ l.length ∧ i = .int .i64 k ∧ u = .int .u32 (a k) ∧ v = .int .u32 (b k) ∧ Aside0 (Below w.heap.size w wr)) (fun _ _ i _ => l.length - (intOf i).toNat)
    case atStart => exact ⟨0, Nat.zero_le _, rfl, rfl, rfl, ⟨by repeat (first | (with_reducible first | exact HB.out | apply below_alloc | apply pw_below_drewN | apply below_drew1) | exact HB.out)⟩⟩
    case round =>
      obtain ⟨k, hk, rfl, rfl, rfl, HB⟩ := hrel
      by_cases hlt : k < l.length
      · have p1 : 0 ≤ (k : Int) := by omega
        have q1 : (k : Int) < (l.length : Int) := by omega
        obtain ⟨ad, e1, hx⟩ := Kd.at_bool HR.out k p1 q1
        cases e1
        have hlt0 := World.block_lt_of_cell? w _ hx
        have hcell : ∀ W, Below w.heap.size w W → W.cell? (ad.add k) = some (.bool (rdOf false l k)) := fun W hW => (hW.cell hlt0).trans hx
        have hc0 := hcell wr HB.out
        have HC := Aside0.mk hcell
        clear hcell hx
        go_wp2_with (first | ((with_reducible refine (hist_Push.calls (a k) n _ _ _ (HA.out k hlt)).mono ?_); rintro e w1 ⟨rfl, hb⟩; have n0_ := Aside0.mk (below_step HB.out hb); clear HB hb; have HB := n0_; clear n0_; have hc1 := HC.out w1 HB.out) | ((with_reducible refine (hist_Push.calls (b k) n _ _ _ (HB1.out k hlt)).mono ?_); rintro e w2 ⟨rfl, hb⟩; have n0_ := Aside0.mk (below_step HB.out hb); clear HB hb; have HB := n0_; clear n0_))
        go_roundw
        case rel => exact ⟨k + 1, by omega, by go_num, rfl, rfl, HB⟩
        case measure => simp [intOf]; omega
      · obtain rfl : k = l.length := by omega
        by_cases hz : l.length = 0
        · have hz2 : ((l.length : Int) == 0) = true := by rw [beq_iff_eq]; omega
          clear hz
          go_wp2_with (first | ((with_reducible refine (awake_any _).mono ?_); rintro e w1 ⟨rfl, hb⟩; have n0_ := Aside0.mk (below_step HB.out hb); clear HB hb; have HB := n0_; clear n0_))
          all_goals (go_ret; exact ⟨rfl, HB.out⟩)
        · obtain ⟨he, hm⟩ := HE.out.resolve_left hz
          have hz2 : ((l.length : Int) == 0) = false := by rw [beq_eq_false_iff_ne]; omega
          have he2 : (((a l.length : Nat) : Int) == ((b l.length : Nat) : Int)) = true := by rw [he]; simp
          have hm2 : decide (((a l.length : Nat) : Int) ≤ m) = true := decide_eq_true hm
          clear he hm hz
          go_wp2_with (first | ((with_reducible refine (awake_any _).mono ?_); rintro e w1 ⟨rfl, hb⟩; have n0_ := Aside0.mk (below_step HB.out hb); clear HB hb; have HB := n0_; clear n0_) | ((with_reducible refine (hist_Mask.calls n m _ HM.out).mono ?_); rintro e w2 ⟨rfl, hb⟩; have n0_ := Aside0.mk (below_step HB.out hb); clear HB hb; have HB := n0_; clear n0_))
          all_goals (go_ret; exact ⟨rfl, HB.out⟩)

end Go.Proofs.Ytghmllhcegioiaa.PHistForgets
