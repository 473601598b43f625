/- What the code's functions come to: texts printed by a program over a donor (a text of the program with other bodies in places) and turned to this seat's numbers; what the donor differs in is proved by hand. No condition but those that each statement names. -/
import Derived.Test.YtaeglelhoenfgaaPFwdx0
import Derived.Test.YtaeglelhoenfgaaPFwdx2
import Derived.Test.YtaeglelhoenfgaaPFwdx3
import Derived.Test.YtaeglelhoenfgaaPFwdx6
import Derived.Test.YtaeglelhoenfgaaPFwdx8
import Derived.Test.YtaeglelhoenfgaaPFwdx10
import Derived.Test.YtaeglelhoenfgaaPFwdx12
namespace Go.Proofs.Ytaeglelhoenfgaa.PFwd
open Go.RowKit Go.Proofs.YtaeglelhoenfgaaW.PrintWords Go.Proofs.YtaeglelhoenfgaaW.PrintLast Go.Proofs.YtaeglelhoenfgaaW.PrintMore
attribute [local go_sem] max2_int min2_int max_two min_two max_three min_three max_four min_four   -- for this text's walks alone
set_option linter.unusedVariables false
set_option linter.unusedSimpArgs false

theorem wrapU8 (x : Int) : IntKind.u8.wrap x = x % 256 := by simp [IntKind.wrap, IntKind.signed, IntKind.bits]
attribute [local go_sem] wrapU8 wrapU32
/-! ### cotterellaw34_FwdRight: function 7 -/
mutual
def cotterellaw34_FwdRight.j0 : Nat → List (S37) → List (S48) → Bool → Int → Int → Int → Option (Bool)
  | 0, _, _, _, _, _, _ => none
  | k + 1, x0, x1, x37, x257000, x257001, x257002 => if x37 = true then ((cotterellaw34_awake.f k).bind fun t259 => (some t259)) else ((cotterellaw34_memory.f k x257000 x257001 x257002).bind fun t260 => ((fwd_Find.f k x0 x1 x257000 x257001 x257002).bind fun bt263 => ((fwd_Bytes.f k x0 x1 t260 x257000 x257001 x257002).bind fun t266 => (if (t266.length : Int) = x257002 then (cotterellaw34_FwdRight.l0 k t260 bt263.1 bt263.2.1 t266 0 x257000 x257001 x257002) else (some false)))))
def cotterellaw34_FwdRight.l0 : Nat → List Int → Int → Int → List Int → Int → Int → Int → Int → Option (Bool)
  | 0, _, _, _, _, _, _, _, _ => none
  | k + 1, x7, x8, x9, x11, x12, x257000, x257001, x257002 => if x12 < x257002 then (if x8 = 1 then (if 0 ≤ (wrap64 (8 * x12)) then (if 0 ≤ x12 then (if x12 < (x11.length : Int) then (if ((shr .u32 x9 (wrap64 (8 * x12))) % 256) = (rd x11 x12) then (if x8 = 0 then (if 0 ≤ (wrap64 ((wrap64 (x257001)) + x12)) then (if (wrap64 ((wrap64 (x257001)) + x12)) < (x7.length : Int) then (if (rd x7 (wrap64 ((wrap64 (x257001)) + x12))) = (rd x11 x12) then (if x9 = 0 then (cotterellaw34_FwdRight.l0 k x7 x8 x9 x11 (wrap64 (x12 + 1)) x257000 x257001 x257002) else (some false)) else (some false)) else (none)) else (none)) else (cotterellaw34_FwdRight.l0 k x7 x8 x9 x11 (wrap64 (x12 + 1)) x257000 x257001 x257002)) else (some false)) else (none)) else (none)) else (none)) else (if x8 = 0 then (if 0 ≤ (wrap64 ((wrap64 (x257001)) + x12)) then (if (wrap64 ((wrap64 (x257001)) + x12)) < (x7.length : Int) then (if 0 ≤ x12 then (if x12 < (x11.length : Int) then (if (rd x7 (wrap64 ((wrap64 (x257001)) + x12))) = (rd x11 x12) then (if x9 = 0 then (cotterellaw34_FwdRight.l0 k x7 x8 x9 x11 (wrap64 (x12 + 1)) x257000 x257001 x257002) else (some false)) else (some false)) else (none)) else (none)) else (none)) else (none)) else (cotterellaw34_FwdRight.l0 k x7 x8 x9 x11 (wrap64 (x12 + 1)) x257000 x257001 x257002))) else (if x8 = 1 then (if x257002 = 4 then ((cotterellaw34_awake.f k).bind fun t274 => (some t274)) else (if 0 ≤ (wrap64 (8 * x257002)) then (if (shr .u32 x9 (wrap64 (8 * x257002))) = 0 then ((cotterellaw34_awake.f k).bind fun t275 => (some t275)) else (some false)) else (none))) else ((cotterellaw34_awake.f k).bind fun t276 => (some t276)))
end
def cotterellaw34_FwdRight.f (k : Nat) (l0 : List (S37)) (l1 : List (S48)) (a2_0 : Int) (a2_1 : Int) (a2_2 : Int) : Option (Bool) := if (l0.length : Int) > 40 then (cotterellaw34_FwdRight.j0 k l0 l1 true a2_0 a2_1 a2_2) else (if (l1.length : Int) > 40 then (cotterellaw34_FwdRight.j0 k l0 l1 true a2_0 a2_1 a2_2) else ((cotterelref34_Size.f a2_2).bind fun t257 => (if t257 = true then (if a2_1 > 124 then (cotterellaw34_FwdRight.j0 k l0 l1 true a2_0 a2_1 a2_2) else ((cotterelref34_Plain.f k l0 l1).bind fun t258 => (cotterellaw34_FwdRight.j0 k l0 l1 (!t258) a2_0 a2_1 a2_2))) else (cotterellaw34_FwdRight.j0 k l0 l1 true a2_0 a2_1 a2_2))))
theorem cotterellaw34_FwdRight.mono_l : ∀ k, (∀ y0 y1 y2 y3 y4 y5, LeO (cotterellaw34_FwdRight.j0 k y0 y1 y2 y3 y4 y5) (cotterellaw34_FwdRight.j0 (k + 1) y0 y1 y2 y3 y4 y5)) ∧ (∀ y0 y1 y2 y3 y4 y5 y6 y7, LeO (cotterellaw34_FwdRight.l0 k y0 y1 y2 y3 y4 y5 y6 y7) (cotterellaw34_FwdRight.l0 (k + 1) y0 y1 y2 y3 y4 y5 y6 y7))
  | 0 => ⟨fun _ _ _ _ _ _ r h => by simp [cotterellaw34_FwdRight.j0] at h, fun _ _ _ _ _ _ _ _ r h => by simp [cotterellaw34_FwdRight.l0] at h⟩
  | k + 1 => by
    obtain ⟨ih0, ih1⟩ := cotterellaw34_FwdRight.mono_l k
    refine ⟨?_, ?_⟩
    · intro y0 y1 y2 y3 y4 y5
      unfold cotterellaw34_FwdRight.j0
      repeat' first
      | (with_reducible exact ih0 _ _ _ _ _ _)
      | (with_reducible exact ih1 _ _ _ _ _ _ _ _)
      | (with_reducible exact cotterellaw34_awake.mono _)
      | (with_reducible exact cotterellaw34_memory.mono _ _ _ _)
      | (with_reducible exact cotterelref34_Plain.mono _ _ _)
      | (with_reducible exact fwd_Bytes.mono _ _ _ _ _ _ _)
      | (with_reducible exact fwd_Find.mono _ _ _ _ _ _)
      | (with_reducible exact LeO.refl _)
      | (with_reducible exact LeO.none _)
      | (with_reducible refine LeO.ite ?_ ?_)
      | (with_reducible refine LeO.bind ?_ (fun _ => ?_))
      | exact ih0 _ _ _ _ _ _
      | exact ih1 _ _ _ _ _ _ _ _
      | exact cotterellaw34_awake.mono _
      | exact cotterellaw34_memory.mono _ _ _ _
      | exact cotterelref34_Plain.mono _ _ _
      | exact fwd_Bytes.mono _ _ _ _ _ _ _
      | exact fwd_Find.mono _ _ _ _ _ _
      | exact LeO.none _
      | refine LeO.ite ?_ ?_
      | refine LeO.bind ?_ (fun _ => ?_)
    · intro y0 y1 y2 y3 y4 y5 y6 y7
      unfold cotterellaw34_FwdRight.l0
      repeat' first
      | (with_reducible exact ih0 _ _ _ _ _ _)
      | (with_reducible exact ih1 _ _ _ _ _ _ _ _)
      | (with_reducible exact cotterellaw34_awake.mono _)
      | (with_reducible exact cotterellaw34_memory.mono _ _ _ _)
      | (with_reducible exact cotterelref34_Plain.mono _ _ _)
      | (with_reducible exact fwd_Bytes.mono _ _ _ _ _ _ _)
      | (with_reducible exact fwd_Find.mono _ _ _ _ _ _)
      | (with_reducible exact LeO.refl _)
      | (with_reducible exact LeO.none _)
      | (with_reducible refine LeO.ite ?_ ?_)
      | (with_reducible refine LeO.bind ?_ (fun _ => ?_))
      | exact ih0 _ _ _ _ _ _
      | exact ih1 _ _ _ _ _ _ _ _
      | exact cotterellaw34_awake.mono _
      | exact cotterellaw34_memory.mono _ _ _ _
      | exact cotterelref34_Plain.mono _ _ _
      | exact fwd_Bytes.mono _ _ _ _ _ _ _
      | exact fwd_Find.mono _ _ _ _ _ _
      | exact LeO.none _
      | refine LeO.ite ?_ ?_
      | refine LeO.bind ?_ (fun _ => ?_)
theorem cotterellaw34_FwdRight.mono : ∀ a0 a1 a2 a3 a4 k, LeO (cotterellaw34_FwdRight.f k a0 a1 a2 a3 a4) (cotterellaw34_FwdRight.f (k + 1) a0 a1 a2 a3 a4) := by
  intro a0 a1 a2 a3 a4 k
  obtain ⟨ih0, ih1⟩ := cotterellaw34_FwdRight.mono_l k
  unfold cotterellaw34_FwdRight.f
  repeat' first
      | (with_reducible exact ih0 _ _ _ _ _ _)
      | (with_reducible exact ih1 _ _ _ _ _ _ _ _)
      | (with_reducible exact cotterellaw34_awake.mono _)
      | (with_reducible exact cotterellaw34_memory.mono _ _ _ _)
      | (with_reducible exact cotterelref34_Plain.mono _ _ _)
      | (with_reducible exact fwd_Bytes.mono _ _ _ _ _ _ _)
      | (with_reducible exact fwd_Find.mono _ _ _ _ _ _)
      | (with_reducible exact LeO.refl _)
      | (with_reducible exact LeO.none _)
      | (with_reducible refine LeO.ite ?_ ?_)
      | (with_reducible refine LeO.bind ?_ (fun _ => ?_))
      | exact ih0 _ _ _ _ _ _
      | exact ih1 _ _ _ _ _ _ _ _
      | exact cotterellaw34_awake.mono _
      | exact cotterellaw34_memory.mono _ _ _ _
      | exact cotterelref34_Plain.mono _ _ _
      | exact fwd_Bytes.mono _ _ _ _ _ _ _
      | exact fwd_Find.mono _ _ _ _ _ _
      | exact LeO.none _
      | refine LeO.ite ?_ ?_
      | refine LeO.bind ?_ (fun _ => ?_)
set_option maxHeartbeats 8000000 in
set_option maxRecDepth 100000 in
theorem cotterellaw34_FwdRight.calls (k : Nat) (A0 : Option Addr) (c0 : Nat) (l0 : List (S37)) (A1 : Option Addr) (c1 : Nat) (l1 : List (S48)) (a2_0 : Int) (a2_1 : Int) (a2_2 : Int) (r : Bool) (w : World) (hr0 : Kd.C k37 w A0 l0.length l0) (hc0 : l0.length ≤ c0) (hr1 : Kd.C k48 w A1 l1.length l1) (hc1 : l1.length ≤ c1) (h : cotterellaw34_FwdRight.f k l0 l1 a2_0 a2_1 a2_2 = some r) :
    Calls Try.prog 7 #[.slice A0 l0.length c0, .slice A1 l1.length c1, .agg #[.int .u64 a2_0, .int .u32 a2_1, .int .i64 a2_2]] w fun e w' => e = .returned (.bool r) ∧ Below w.heap.size w w' := by
  have hu25 := Try.underlying25
  have HR0 := Aside0.mk hr0
  have HC0 := Aside0.mk hc0
  clear hr0 hc0
  have HR1 := Aside0.mk hr1
  have HC1 := Aside0.mk hc1
  clear hr1 hc1
  have HB := Aside0.mk (Below.refl w.heap.size w)
  have H : (if (l0.length : Int) > 40 then (cotterellaw34_FwdRight.j0 k l0 l1 true a2_0 a2_1 a2_2) else (if (l1.length : Int) > 40 then (cotterellaw34_FwdRight.j0 k l0 l1 true a2_0 a2_1 a2_2) else ((cotterelref34_Size.f a2_2).bind fun t257 => (if t257 = true then (if a2_1 > 124 then (cotterellaw34_FwdRight.j0 k l0 l1 true a2_0 a2_1 a2_2) else ((cotterelref34_Plain.f k l0 l1).bind fun t258 => (cotterellaw34_FwdRight.j0 k l0 l1 (!t258) a2_0 a2_1 a2_2))) else (cotterellaw34_FwdRight.j0 k l0 l1 true a2_0 a2_1 a2_2))))) = some r := h
  clear h
  have HC4 := Aside0.mk H
  clear H
  go_enter Try.func7, Try.ntmps7
  go_upto_region 1 with (first | ((with_reducible refine gate_dst (N := 5) rfl ?_); (try (refine gate_guard (by rfl) ?_; dsimp only)); refine box_event ?hg (N := 5) ?hd (cs := #[.int .u64 a2_0, .int .u32 a2_1, .int .i64 a2_2]) (t := 25) ?hr ?_; (case hd => rfl); (case hg => rfl); (case hr => first | (go_simp; done) | (go_simp; rfl)); intro gb256 hg w5 hbox hb; have n0_ := Aside0.mk (below_step (by repeat (first | (with_reducible first | exact HB.out | apply below_alloc | apply pw_below_drewN | apply below_drew1) | exact HB.out)) hb); have n1_ := Aside0.mk (hbox); have n2_ := Aside0.mk ((by rw [hg]; exact (below_size (by repeat (first | (with_reducible first | exact HB.out | apply below_alloc | apply pw_below_drewN | apply below_drew1) | exact HB.out))) : w.heap.size ≤ gb256)); have n3_ := Aside0.mk ((by rw [hg]; exact (below_size (by repeat (first | (with_reducible first | exact HB.out | apply below_alloc | apply pw_below_drewN | apply below_drew1) | exact HB.out))) : w.heap.size ≤ gb256)); clear HB; have HB := n0_; have BK256 := n1_; have GW256 := n2_; have GE256 := n3_; clear n0_ n1_ n2_ n3_; clear hb hbox hg))
  repeat (go_quiet (first | ((with_reducible refine gate_dst (N := 5) rfl ?_); (try (refine gate_guard (by rfl) ?_; dsimp only)); refine box_event ?hg (N := 5) ?hd (cs := #[.int .u64 a2_0, .int .u32 a2_1, .int .i64 a2_2]) (t := 25) ?hr ?_; (case hd => rfl); (case hg => rfl); (case hr => first | (go_simp; done) | (go_simp; rfl)); intro gb256 hg w5 hbox hb; have n0_ := Aside0.mk (below_step (by repeat (first | (with_reducible first | exact HB.out | apply below_alloc | apply pw_below_drewN | apply below_drew1) | exact HB.out)) hb); have n1_ := Aside0.mk (hbox); have n2_ := Aside0.mk ((by rw [hg]; exact (below_size (by repeat (first | (with_reducible first | exact HB.out | apply below_alloc | apply pw_below_drewN | apply below_drew1) | exact HB.out))) : w.heap.size ≤ gb256)); have n3_ := Aside0.mk ((by rw [hg]; exact (below_size (by repeat (first | (with_reducible first | exact HB.out | apply below_alloc | apply pw_below_drewN | apply below_drew1) | exact HB.out))) : w.heap.size ≤ gb256)); clear HB; have HB := n0_; have BK256 := n1_; have GW256 := n2_; have GE256 := n3_; clear n0_ n1_ n2_ n3_; clear hb hbox hg)); go_upto_region 1 with (first | ((with_reducible refine gate_dst (N := 5) rfl ?_); (try (refine gate_guard (by rfl) ?_; dsimp only)); refine box_event ?hg (N := 5) ?hd (cs := #[.int .u64 a2_0, .int .u32 a2_1, .int .i64 a2_2]) (t := 25) ?hr ?_; (case hd => rfl); (case hg => rfl); (case hr => first | (go_simp; done) | (go_simp; rfl)); intro gb256 hg w5 hbox hb; have n0_ := Aside0.mk (below_step (by repeat (first | (with_reducible first | exact HB.out | apply below_alloc | apply pw_below_drewN | apply below_drew1) | exact HB.out)) hb); have n1_ := Aside0.mk (hbox); have n2_ := Aside0.mk ((by rw [hg]; exact (below_size (by repeat (first | (with_reducible first | exact HB.out | apply below_alloc | apply pw_below_drewN | apply below_drew1) | exact HB.out))) : w.heap.size ≤ gb256)); have n3_ := Aside0.mk ((by rw [hg]; exact (below_size (by repeat (first | (with_reducible first | exact HB.out | apply below_alloc | apply pw_below_drewN | apply below_drew1) | exact HB.out))) : w.heap.size ≤ gb256)); clear HB; have HB := n0_; have BK256 := n1_; have GW256 := n2_; have GE256 := n3_; clear n0_ n1_ n2_ n3_; clear hb hbox hg)))
  (try simp only [Act.put, List.setIfInBounds_toArray, List.set_cons_zero, List.set_cons_succ])
  go_cut [37] (fun v37 wc => ∃ (kq : Nat) (x37_3 : Bool), v37 = .bool x37_3 ∧ Aside0 (cotterellaw34_FwdRight.j0 kq l0 l1 x37_3 a2_0 a2_1 a2_2 = some r) ∧ Aside0 (kq ≤ k) ∧ Aside0 (wc.heap[gb256]? = some (.cells #[.int .u64 a2_0, .int .u32 a2_1, .int .i64 a2_2] 25 (0, 0))) ∧ Aside0 (Below w.heap.size w wc))
  case first =>
    have H := HC4.out
    clear HC4
    by_cases c6 : (l0.length : Int) > 40
    · rw [if_pos c6] at H
      have c6b0 : decide (40 < (l0.length : Int)) = true := decide_eq_true c6
      have c6b1 : decide (40 < l0.length) = true := decide_eq_true (by omega)
      clear c6
      (first | rw [c6b0] | (simp only [i64_w, i32_w]; rw [c6b0]) | skip)
      have H' := Aside0.mk H
      clear H
      go_wp2
      repeat (go_quiet (fail); try go_wp2)
      go_meet
      case rel => exact ⟨_, (true), (by first | rfl | (simp; done) | (simp [*]; done)), H', ⟨by first | omega | exact Nat.le_refl _⟩, ⟨by (with_reducible repeat (first | refine blk_drewN ?_ _ | refine blk_drew ?_ | refine blk_alloc ?_ _)); exact BK256.out⟩, ⟨by repeat (first | (with_reducible first | exact HB.out | apply below_alloc | apply pw_below_drewN | apply below_drew1 | refine below_set ?_ GE256.out) | exact HB.out)⟩⟩
    · rw [if_neg c6] at H
      have c6b0 : decide (40 < (l0.length : Int)) = false := decide_eq_false c6
      have c6b1 : decide (40 < l0.length) = false := decide_eq_false (by omega)
      clear c6
      (first | rw [c6b0] | (simp only [i64_w, i32_w]; rw [c6b0]) | skip)
      by_cases c7 : (l1.length : Int) > 40
      · rw [if_pos c7] at H
        have c7b0 : decide (40 < (l1.length : Int)) = true := decide_eq_true c7
        have c7b1 : decide (40 < l1.length) = true := decide_eq_true (by omega)
        clear c7
        have H' := Aside0.mk H
        clear H
        go_wp2
        repeat (go_quiet (fail); try go_wp2)
        go_meet
        case rel => exact ⟨_, (true), (by first | rfl | (simp; done) | (simp [*]; done)), H', ⟨by first | omega | exact Nat.le_refl _⟩, ⟨by (with_reducible repeat (first | refine blk_drewN ?_ _ | refine blk_drew ?_ | refine blk_alloc ?_ _)); exact BK256.out⟩, ⟨by repeat (first | (with_reducible first | exact HB.out | apply below_alloc | apply pw_below_drewN | apply below_drew1 | refine below_set ?_ GE256.out) | exact HB.out)⟩⟩
      · rw [if_neg c7] at H
        have c7b0 : decide (40 < (l1.length : Int)) = false := decide_eq_false c7
        have c7b1 : decide (40 < l1.length) = false := decide_eq_false (by omega)
        clear c7
        replace H := Option.bind_eq_some_iff.mp H
        obtain ⟨t257, A80, H⟩ := H
        replace H : (if t257 = true then (if a2_1 > 124 then (cotterellaw34_FwdRight.j0 k l0 l1 true a2_0 a2_1 a2_2) else ((cotterelref34_Plain.f k l0 l1).bind fun t258 => (cotterellaw34_FwdRight.j0 k l0 l1 (!t258) a2_0 a2_1 a2_2))) else (cotterellaw34_FwdRight.j0 k l0 l1 true a2_0 a2_1 a2_2)) = some r := H
        have A8 := Aside0.mk A80
        clear A80
        by_cases c9 : t257 = true
        · subst c9
          have H1 : (if a2_1 > 124 then (cotterellaw34_FwdRight.j0 k l0 l1 true a2_0 a2_1 a2_2) else ((cotterelref34_Plain.f k l0 l1).bind fun t258 => (cotterellaw34_FwdRight.j0 k l0 l1 (!t258) a2_0 a2_1 a2_2))) = some r := by rw [if_pos rfl] at H; exact H
          clear H
          have H := H1
          clear H1
          by_cases c10 : a2_1 > 124
          · rw [if_pos c10] at H
            have c10b0 : decide (124 < a2_1) = true := decide_eq_true c10
            clear c10
            have H' := Aside0.mk H
            clear H
            have hcz11_0 : w5.cell? ⟨gb256, 0, none⟩ = some (.int .u64 a2_0) := (blk_cell BK256.out 0).trans rfl
            have hcz11_1 : w5.cell? ⟨gb256, 1, none⟩ = some (.int .u32 a2_1) := (blk_cell BK256.out 1).trans rfl
            have hcz11_2 : w5.cell? ⟨gb256, 2, none⟩ = some (.int .i64 a2_2) := (blk_cell BK256.out 2).trans rfl
            have hfz11_0 := blk_frozen BK256.out 0
            have hfz11_1 := blk_frozen BK256.out 1
            have hfz11_2 := blk_frozen BK256.out 2
            go_wp2_with (first | (go_at_call 15; (with_reducible refine (cotterelref34_Size.calls a2_2 true _ A8.out).mono ?_); rintro e w' ⟨rfl, ⟨nd, rfl⟩⟩; (try first | exact ⟨rfl, _, World.drewN_drewN _ _ _⟩ | exact ⟨rfl, _, Eq.trans (World.drewN_drewN _ _ _) (congrArg (World.drewN _) (Nat.add_assoc _ _ _))⟩)))
            repeat (go_quiet (first | (go_at_call 15; (with_reducible refine (cotterelref34_Size.calls a2_2 true _ A8.out).mono ?_); rintro e w' ⟨rfl, ⟨nd, rfl⟩⟩; (try first | exact ⟨rfl, _, World.drewN_drewN _ _ _⟩ | exact ⟨rfl, _, Eq.trans (World.drewN_drewN _ _ _) (congrArg (World.drewN _) (Nat.add_assoc _ _ _))⟩))); try go_wp2_with (first | (go_at_call 15; (with_reducible refine (cotterelref34_Size.calls a2_2 true _ A8.out).mono ?_); rintro e w' ⟨rfl, ⟨nd, rfl⟩⟩; (try first | exact ⟨rfl, _, World.drewN_drewN _ _ _⟩ | exact ⟨rfl, _, Eq.trans (World.drewN_drewN _ _ _) (congrArg (World.drewN _) (Nat.add_assoc _ _ _))⟩))))
            go_meet
            case rel => exact ⟨_, (true), (by first | rfl | (simp; done) | (simp [*]; done)), H', ⟨by first | omega | exact Nat.le_refl _⟩, ⟨by (with_reducible repeat (first | refine blk_drewN ?_ _ | refine blk_drew ?_ | refine blk_alloc ?_ _)); exact BK256.out⟩, ⟨by repeat (first | (with_reducible first | exact HB.out | apply below_alloc | apply pw_below_drewN | apply below_drew1 | refine below_set ?_ GE256.out) | exact HB.out)⟩⟩
          · rw [if_neg c10] at H
            have c10b0 : decide (124 < a2_1) = false := decide_eq_false c10
            clear c10
            replace H := Option.bind_eq_some_iff.mp H
            obtain ⟨t258, A120, H⟩ := H
            replace H : (cotterellaw34_FwdRight.j0 k l0 l1 (!t258) a2_0 a2_1 a2_2) = some r := H
            have A12 := Aside0.mk A120
            clear A120
            have H' := Aside0.mk H
            clear H
            have hcz13_0 : w5.cell? ⟨gb256, 0, none⟩ = some (.int .u64 a2_0) := (blk_cell BK256.out 0).trans rfl
            have hcz13_1 : w5.cell? ⟨gb256, 1, none⟩ = some (.int .u32 a2_1) := (blk_cell BK256.out 1).trans rfl
            have hcz13_2 : w5.cell? ⟨gb256, 2, none⟩ = some (.int .i64 a2_2) := (blk_cell BK256.out 2).trans rfl
            have hfz13_0 := blk_frozen BK256.out 0
            have hfz13_1 := blk_frozen BK256.out 1
            have hfz13_2 := blk_frozen BK256.out 2
            go_wp2_with (first | (go_at_call 15; (with_reducible refine (cotterelref34_Size.calls a2_2 true _ A8.out).mono ?_); rintro e w' ⟨rfl, ⟨nd, rfl⟩⟩; (try first | exact ⟨rfl, _, World.drewN_drewN _ _ _⟩ | exact ⟨rfl, _, Eq.trans (World.drewN_drewN _ _ _) (congrArg (World.drewN _) (Nat.add_assoc _ _ _))⟩)) | (go_at_call 21; (with_reducible refine (cotterelref34_Plain.calls k _ _ l0 _ _ l1 t258 _ ?side1 ?side2 ?side3 ?side4 A12.out).mono ?_); (case side1 => repeat (first | exact (Kd.C_below HR0.out (by repeat (first | (with_reducible first | exact HB.out | apply below_alloc | apply pw_below_drewN | apply below_drew1 | refine below_set ?_ GE256.out) | exact HB.out))) | (with_reducible refine Kd.C_alloc ?_ _) | (with_reducible refine Kd.C_drewN ?_ _) | (with_reducible refine Kd.C_drew ?_))); (case side2 => exact HC0.out); (case side3 => repeat (first | exact (Kd.C_below HR1.out (by repeat (first | (with_reducible first | exact HB.out | apply below_alloc | apply pw_below_drewN | apply below_drew1 | refine below_set ?_ GE256.out) | exact HB.out))) | (with_reducible refine Kd.C_alloc ?_ _) | (with_reducible refine Kd.C_drewN ?_ _) | (with_reducible refine Kd.C_drew ?_))); (case side4 => exact HC1.out); rintro e w' ⟨rfl, ⟨nd, rfl⟩⟩; (try first | exact ⟨rfl, _, World.drewN_drewN _ _ _⟩ | exact ⟨rfl, _, Eq.trans (World.drewN_drewN _ _ _) (congrArg (World.drewN _) (Nat.add_assoc _ _ _))⟩)))
            repeat (go_quiet (first | (go_at_call 15; (with_reducible refine (cotterelref34_Size.calls a2_2 true _ A8.out).mono ?_); rintro e w' ⟨rfl, ⟨nd, rfl⟩⟩; (try first | exact ⟨rfl, _, World.drewN_drewN _ _ _⟩ | exact ⟨rfl, _, Eq.trans (World.drewN_drewN _ _ _) (congrArg (World.drewN _) (Nat.add_assoc _ _ _))⟩)) | (go_at_call 21; (with_reducible refine (cotterelref34_Plain.calls k _ _ l0 _ _ l1 t258 _ ?side1 ?side2 ?side3 ?side4 A12.out).mono ?_); (case side1 => repeat (first | exact (Kd.C_below HR0.out (by repeat (first | (with_reducible first | exact HB.out | apply below_alloc | apply pw_below_drewN | apply below_drew1 | refine below_set ?_ GE256.out) | exact HB.out))) | (with_reducible refine Kd.C_alloc ?_ _) | (with_reducible refine Kd.C_drewN ?_ _) | (with_reducible refine Kd.C_drew ?_))); (case side2 => exact HC0.out); (case side3 => repeat (first | exact (Kd.C_below HR1.out (by repeat (first | (with_reducible first | exact HB.out | apply below_alloc | apply pw_below_drewN | apply below_drew1 | refine below_set ?_ GE256.out) | exact HB.out))) | (with_reducible refine Kd.C_alloc ?_ _) | (with_reducible refine Kd.C_drewN ?_ _) | (with_reducible refine Kd.C_drew ?_))); (case side4 => exact HC1.out); rintro e w' ⟨rfl, ⟨nd, rfl⟩⟩; (try first | exact ⟨rfl, _, World.drewN_drewN _ _ _⟩ | exact ⟨rfl, _, Eq.trans (World.drewN_drewN _ _ _) (congrArg (World.drewN _) (Nat.add_assoc _ _ _))⟩))); try go_wp2_with (first | (go_at_call 15; (with_reducible refine (cotterelref34_Size.calls a2_2 true _ A8.out).mono ?_); rintro e w' ⟨rfl, ⟨nd, rfl⟩⟩; (try first | exact ⟨rfl, _, World.drewN_drewN _ _ _⟩ | exact ⟨rfl, _, Eq.trans (World.drewN_drewN _ _ _) (congrArg (World.drewN _) (Nat.add_assoc _ _ _))⟩)) | (go_at_call 21; (with_reducible refine (cotterelref34_Plain.calls k _ _ l0 _ _ l1 t258 _ ?side1 ?side2 ?side3 ?side4 A12.out).mono ?_); (case side1 => repeat (first | exact (Kd.C_below HR0.out (by repeat (first | (with_reducible first | exact HB.out | apply below_alloc | apply pw_below_drewN | apply below_drew1 | refine below_set ?_ GE256.out) | exact HB.out))) | (with_reducible refine Kd.C_alloc ?_ _) | (with_reducible refine Kd.C_drewN ?_ _) | (with_reducible refine Kd.C_drew ?_))); (case side2 => exact HC0.out); (case side3 => repeat (first | exact (Kd.C_below HR1.out (by repeat (first | (with_reducible first | exact HB.out | apply below_alloc | apply pw_below_drewN | apply below_drew1 | refine below_set ?_ GE256.out) | exact HB.out))) | (with_reducible refine Kd.C_alloc ?_ _) | (with_reducible refine Kd.C_drewN ?_ _) | (with_reducible refine Kd.C_drew ?_))); (case side4 => exact HC1.out); rintro e w' ⟨rfl, ⟨nd, rfl⟩⟩; (try first | exact ⟨rfl, _, World.drewN_drewN _ _ _⟩ | exact ⟨rfl, _, Eq.trans (World.drewN_drewN _ _ _) (congrArg (World.drewN _) (Nat.add_assoc _ _ _))⟩))))
            go_meet
            case rel => exact ⟨_, (!t258), (by first | rfl | (simp; done) | (simp [*]; done)), H', ⟨by first | omega | exact Nat.le_refl _⟩, ⟨by (with_reducible repeat (first | refine blk_drewN ?_ _ | refine blk_drew ?_ | refine blk_alloc ?_ _)); exact BK256.out⟩, ⟨by repeat (first | (with_reducible first | exact HB.out | apply below_alloc | apply pw_below_drewN | apply below_drew1 | refine below_set ?_ GE256.out) | exact HB.out)⟩⟩
        · replace c9 := Bool.eq_false_iff.mpr c9
          subst c9
          have H1 : (cotterellaw34_FwdRight.j0 k l0 l1 true a2_0 a2_1 a2_2) = some r := by rw [if_neg (show ¬ (false = true) by decide)] at H; exact H
          clear H
          have H := H1
          clear H1
          have H' := Aside0.mk H
          clear H
          have hcz14_0 : w5.cell? ⟨gb256, 0, none⟩ = some (.int .u64 a2_0) := (blk_cell BK256.out 0).trans rfl
          have hcz14_1 : w5.cell? ⟨gb256, 1, none⟩ = some (.int .u32 a2_1) := (blk_cell BK256.out 1).trans rfl
          have hcz14_2 : w5.cell? ⟨gb256, 2, none⟩ = some (.int .i64 a2_2) := (blk_cell BK256.out 2).trans rfl
          have hfz14_0 := blk_frozen BK256.out 0
          have hfz14_1 := blk_frozen BK256.out 1
          have hfz14_2 := blk_frozen BK256.out 2
          go_wp2_with (first | (go_at_call 15; (with_reducible refine (cotterelref34_Size.calls a2_2 false _ A8.out).mono ?_); rintro e w' ⟨rfl, ⟨nd, rfl⟩⟩; (try first | exact ⟨rfl, _, World.drewN_drewN _ _ _⟩ | exact ⟨rfl, _, Eq.trans (World.drewN_drewN _ _ _) (congrArg (World.drewN _) (Nat.add_assoc _ _ _))⟩)))
          repeat (go_quiet (first | (go_at_call 15; (with_reducible refine (cotterelref34_Size.calls a2_2 false _ A8.out).mono ?_); rintro e w' ⟨rfl, ⟨nd, rfl⟩⟩; (try first | exact ⟨rfl, _, World.drewN_drewN _ _ _⟩ | exact ⟨rfl, _, Eq.trans (World.drewN_drewN _ _ _) (congrArg (World.drewN _) (Nat.add_assoc _ _ _))⟩))); try go_wp2_with (first | (go_at_call 15; (with_reducible refine (cotterelref34_Size.calls a2_2 false _ A8.out).mono ?_); rintro e w' ⟨rfl, ⟨nd, rfl⟩⟩; (try first | exact ⟨rfl, _, World.drewN_drewN _ _ _⟩ | exact ⟨rfl, _, Eq.trans (World.drewN_drewN _ _ _) (congrArg (World.drewN _) (Nat.add_assoc _ _ _))⟩))))
          go_meet
          case rel => exact ⟨_, (true), (by first | rfl | (simp; done) | (simp [*]; done)), H', ⟨by first | omega | exact Nat.le_refl _⟩, ⟨by (with_reducible repeat (first | refine blk_drewN ?_ _ | refine blk_drew ?_ | refine blk_alloc ?_ _)); exact BK256.out⟩, ⟨by repeat (first | (with_reducible first | exact HB.out | apply below_alloc | apply pw_below_drewN | apply below_drew1 | refine below_set ?_ GE256.out) | exact HB.out)⟩⟩
  case rest =>
    clear HC4
    try clear c1
    try clear p2
    try clear c6
    try clear c6b0
    try clear c6b1
    try clear c7
    try clear c7b0
    try clear c7b1
    try clear c9
    try clear c10
    try clear c10b0
    try clear hcz11_0
    try clear hcz11_1
    try clear hcz11_2
    try clear hcz13_0
    try clear hcz13_1
    try clear hcz13_2
    try clear hcz14_0
    try clear hcz14_1
    try clear hcz14_2
    try clear hfz11_0
    try clear hfz11_1
    try clear hfz11_2
    try clear hfz13_0
    try clear hfz13_1
    try clear hfz13_2
    try clear hfz14_0
    try clear hfz14_1
    try clear hfz14_2
    obtain ⟨kq, x37_3, rfl, HA, HJ3, BK256, HB⟩ := hcut
    cases kq with
    | zero => exact absurd HA.out (by simp [cotterellaw34_FwdRight.j0])
    | succ kj3 =>
      have H := HA.out
      clear HA
      simp only [cotterellaw34_FwdRight.j0] at H
      by_cases c15 : x37_3 = true
      · subst c15
        have H1 : ((cotterellaw34_awake.f kj3).bind fun t259 => (some t259)) = some r := by rw [if_pos rfl] at H; exact H
        clear H
        have H := H1
        clear H1
        replace H := Option.bind_eq_some_iff.mp H
        obtain ⟨t259, A160, H⟩ := H
        replace H : (some t259) = some r := H
        have A16 := Aside0.mk A160
        clear A160
        obtain rfl := Option.some.inj H
        go_wp2_with (first | (go_at_call 12; (with_reducible refine (cotterellaw34_awake.calls kj3  t259 _ A16.out).mono ?_); rintro e w17 ⟨rfl, hb⟩; have n0_ := Aside0.mk (blk_below (g := gb256) (o := .cells #[.int .u64 a2_0, .int .u32 a2_1, .int .i64 a2_2] 25 (0, 0)) (by (with_reducible repeat (first | refine blk_drewN ?_ _ | refine blk_drew ?_ | refine blk_alloc ?_ _)); exact BK256.out) hb); have n1_ := Aside0.mk (below_step (by repeat (first | (with_reducible first | exact HB.out | apply below_alloc | apply pw_below_drewN | apply below_drew1 | refine below_set ?_ GE256.out) | exact HB.out)) hb); clear BK256; clear HB; have BK256 := n0_; have HB := n1_; clear n0_ n1_; (try clear hb); (try clear hb2); (try clear hk); (try clear hi)))
        repeat (go_quiet (first | (go_at_call 12; (with_reducible refine (cotterellaw34_awake.calls kj3  t259 _ A16.out).mono ?_); rintro e w17 ⟨rfl, hb⟩; have n0_ := Aside0.mk (blk_below (g := gb256) (o := .cells #[.int .u64 a2_0, .int .u32 a2_1, .int .i64 a2_2] 25 (0, 0)) (by (with_reducible repeat (first | refine blk_drewN ?_ _ | refine blk_drew ?_ | refine blk_alloc ?_ _)); exact BK256.out) hb); have n1_ := Aside0.mk (below_step (by repeat (first | (with_reducible first | exact HB.out | apply below_alloc | apply pw_below_drewN | apply below_drew1 | refine below_set ?_ GE256.out) | exact HB.out)) hb); clear BK256; clear HB; have BK256 := n0_; have HB := n1_; clear n0_ n1_; (try clear hb); (try clear hb2); (try clear hk); (try clear hi))); try go_wp2_with (first | (go_at_call 12; (with_reducible refine (cotterellaw34_awake.calls kj3  t259 _ A16.out).mono ?_); rintro e w17 ⟨rfl, hb⟩; have n0_ := Aside0.mk (blk_below (g := gb256) (o := .cells #[.int .u64 a2_0, .int .u32 a2_1, .int .i64 a2_2] 25 (0, 0)) (by (with_reducible repeat (first | refine blk_drewN ?_ _ | refine blk_drew ?_ | refine blk_alloc ?_ _)); exact BK256.out) hb); have n1_ := Aside0.mk (below_step (by repeat (first | (with_reducible first | exact HB.out | apply below_alloc | apply pw_below_drewN | apply below_drew1 | refine below_set ?_ GE256.out) | exact HB.out)) hb); clear BK256; clear HB; have BK256 := n0_; have HB := n1_; clear n0_ n1_; (try clear hb); (try clear hb2); (try clear hk); (try clear hi))))
        go_ret
        exact ⟨by first | rfl | (simp [errW_none, errW_some] <;> rfl) | (simp [*, errW_none, errW_some] <;> rfl), by repeat (first | (with_reducible first | exact HB.out | apply below_alloc | apply pw_below_drewN | apply below_drew1 | refine below_set ?_ GE256.out) | exact HB.out)⟩
      · replace c15 := Bool.eq_false_iff.mpr c15
        subst c15
        have H1 : ((cotterellaw34_memory.f kj3 a2_0 a2_1 a2_2).bind fun t260 => ((fwd_Find.f kj3 l0 l1 a2_0 a2_1 a2_2).bind fun bt263 => ((fwd_Bytes.f kj3 l0 l1 t260 a2_0 a2_1 a2_2).bind fun t266 => (if (t266.length : Int) = a2_2 then (cotterellaw34_FwdRight.l0 kj3 t260 bt263.1 bt263.2.1 t266 0 a2_0 a2_1 a2_2) else (some false))))) = some r := by rw [if_neg (show ¬ (false = true) by decide)] at H; exact H
        clear H
        have H := H1
        clear H1
        replace H := Option.bind_eq_some_iff.mp H
        obtain ⟨t260, A180, H⟩ := H
        replace H : ((fwd_Find.f kj3 l0 l1 a2_0 a2_1 a2_2).bind fun bt263 => ((fwd_Bytes.f kj3 l0 l1 t260 a2_0 a2_1 a2_2).bind fun t266 => (if (t266.length : Int) = a2_2 then (cotterellaw34_FwdRight.l0 kj3 t260 bt263.1 bt263.2.1 t266 0 a2_0 a2_1 a2_2) else (some false)))) = some r := H
        have A18 := Aside0.mk A180
        clear A180
        replace H := Option.bind_eq_some_iff.mp H
        obtain ⟨⟨t263, t264, t265⟩, A190, H⟩ := H
        replace H : ((fwd_Bytes.f kj3 l0 l1 t260 a2_0 a2_1 a2_2).bind fun t266 => (if (t266.length : Int) = a2_2 then (cotterellaw34_FwdRight.l0 kj3 t260 t263 t264 t266 0 a2_0 a2_1 a2_2) else (some false))) = some r := H
        have A19 := Aside0.mk A190
        clear A190
        replace H := Option.bind_eq_some_iff.mp H
        obtain ⟨t266, A200, H⟩ := H
        replace H : (if (t266.length : Int) = a2_2 then (cotterellaw34_FwdRight.l0 kj3 t260 t263 t264 t266 0 a2_0 a2_1 a2_2) else (some false)) = some r := H
        have A20 := Aside0.mk A200
        clear A200
        by_cases c21 : (t266.length : Int) = a2_2
        · rw [if_pos c21] at H
          have c21b0 : ((t266.length : Int) == a2_2) = true := beq_iff_eq.mpr c21
          have c21b1 : ((t266.length : Int) != a2_2) = false := bne_eq_false_iff_eq.mpr c21
          clear c21
          have H' := Aside0.mk H
          clear H
          have hcz22_0 : wc.cell? ⟨gb256, 0, none⟩ = some (.int .u64 a2_0) := (blk_cell BK256.out 0).trans rfl
          have hcz22_1 : wc.cell? ⟨gb256, 1, none⟩ = some (.int .u32 a2_1) := (blk_cell BK256.out 1).trans rfl
          have hcz22_2 : wc.cell? ⟨gb256, 2, none⟩ = some (.int .i64 a2_2) := (blk_cell BK256.out 2).trans rfl
          have hfz22_0 := blk_frozen BK256.out 0
          have hfz22_1 := blk_frozen BK256.out 1
          have hfz22_2 := blk_frozen BK256.out 2
          go_wp2_with (first | (go_at_call 17; (with_reducible refine (cotterellaw34_memory.calls kj3 a2_0 a2_1 a2_2 t260 _ A18.out).mono ?_); rintro e w23 ⟨v261, rfl, ho0, hb⟩; have n0_ := Aside0.mk (Kd.R_lower ho0 (below_size (by repeat (first | (with_reducible first | exact HB.out | apply below_alloc | apply pw_below_drewN | apply below_drew1 | refine below_set ?_ GE256.out) | exact HB.out)))); have n1_ := Aside0.mk (blk_below (g := gb256) (o := .cells #[.int .u64 a2_0, .int .u32 a2_1, .int .i64 a2_2] 25 (0, 0)) (by (with_reducible repeat (first | refine blk_drewN ?_ _ | refine blk_drew ?_ | refine blk_alloc ?_ _)); exact BK256.out) hb); have n2_ := Aside0.mk (below_step (by repeat (first | (with_reducible first | exact HB.out | apply below_alloc | apply pw_below_drewN | apply below_drew1 | refine below_set ?_ GE256.out) | exact HB.out)) hb); clear BK256; clear HB; have HO262 := n0_; have BK256 := n1_; have HB := n2_; clear n0_ n1_ n2_; (try clear hb); (try clear hb2); (try clear hk); (try clear hi); (try clear ho0); have hcz24_0 : w23.cell? ⟨gb256, 0, none⟩ = some (.int .u64 a2_0) := (blk_cell BK256.out 0).trans rfl; have hcz24_1 : w23.cell? ⟨gb256, 1, none⟩ = some (.int .u32 a2_1) := (blk_cell BK256.out 1).trans rfl; have hcz24_2 : w23.cell? ⟨gb256, 2, none⟩ = some (.int .i64 a2_2) := (blk_cell BK256.out 2).trans rfl; have hfz24_0 := blk_frozen BK256.out 0; have hfz24_1 := blk_frozen BK256.out 1; have hfz24_2 := blk_frozen BK256.out 2) | (go_at_call 13; (with_reducible refine (fwd_Find.calls kj3 _ _ l0 _ _ l1 a2_0 a2_1 a2_2 t263 t264 t265 _ ?side1 ?side2 ?side3 ?side4 A19.out).mono ?_); (case side1 => repeat (first | exact (Kd.C_below HR0.out HB.out) | (with_reducible refine Kd.C_alloc ?_ _) | (with_reducible refine Kd.C_drewN ?_ _) | (with_reducible refine Kd.C_drew ?_))); (case side2 => exact HC0.out); (case side3 => repeat (first | exact (Kd.C_below HR1.out HB.out) | (with_reducible refine Kd.C_alloc ?_ _) | (with_reducible refine Kd.C_drewN ?_ _) | (with_reducible refine Kd.C_drew ?_))); (case side4 => exact HC1.out); rintro e w25 ⟨rfl, hb⟩; have n0_ := Aside0.mk (Kd.R_below (by (with_reducible repeat (first | apply Kd.R_alloc | apply Kd.R_drewN | apply Kd.R_drew)); exact HO262.out) hb); have n1_ := Aside0.mk (blk_below (g := gb256) (o := .cells #[.int .u64 a2_0, .int .u32 a2_1, .int .i64 a2_2] 25 (0, 0)) (by (with_reducible repeat (first | refine blk_drewN ?_ _ | refine blk_drew ?_ | refine blk_alloc ?_ _)); exact BK256.out) hb); have n2_ := Aside0.mk (below_step (by repeat (first | (with_reducible first | exact HB.out | apply below_alloc | apply pw_below_drewN | apply below_drew1 | refine below_set ?_ GE256.out) | exact HB.out)) hb); clear HO262; clear BK256; clear HB; have HO262 := n0_; have BK256 := n1_; have HB := n2_; clear n0_ n1_ n2_; (try clear hb); (try clear hb2); (try clear hk); (try clear hi); have hcz26_0 : w25.cell? ⟨gb256, 0, none⟩ = some (.int .u64 a2_0) := (blk_cell BK256.out 0).trans rfl; have hcz26_1 : w25.cell? ⟨gb256, 1, none⟩ = some (.int .u32 a2_1) := (blk_cell BK256.out 1).trans rfl; have hcz26_2 : w25.cell? ⟨gb256, 2, none⟩ = some (.int .i64 a2_2) := (blk_cell BK256.out 2).trans rfl; have hfz26_0 := blk_frozen BK256.out 0; have hfz26_1 := blk_frozen BK256.out 1; have hfz26_2 := blk_frozen BK256.out 2; obtain ⟨Ao27, co27, eo27⟩ := Kd.R_slice HO262.out; subst eo27) | (go_at_call 19; (with_reducible refine (fwd_Bytes.calls kj3 _ _ l0 _ _ l1 _ _ t260 a2_0 a2_1 a2_2 t266 _ ?side1 ?side2 ?side3 ?side4 ?side5 ?side6 A20.out).mono ?_); (case side1 => repeat (first | exact (Kd.C_below HR0.out HB.out) | (with_reducible refine Kd.C_alloc ?_ _) | (with_reducible refine Kd.C_drewN ?_ _) | (with_reducible refine Kd.C_drew ?_))); (case side2 => exact HC0.out); (case side3 => repeat (first | exact (Kd.C_below HR1.out HB.out) | (with_reducible refine Kd.C_alloc ?_ _) | (with_reducible refine Kd.C_drewN ?_ _) | (with_reducible refine Kd.C_drew ?_))); (case side4 => exact HC1.out); (case side5 => repeat (first | exact (Kd.R_reads' HO262.out).2.2 | (with_reducible refine Kd.C_alloc ?_ _) | (with_reducible refine Kd.C_drewN ?_ _) | (with_reducible refine Kd.C_drew ?_))); (case side6 => exact (Kd.R_reads' HO262.out).2.1); rintro e w28 ⟨v267, rfl, ho0, hb⟩; have n0_ := Aside0.mk (Kd.R_elder' (by (with_reducible repeat (first | apply Kd.R_alloc | apply Kd.R_drewN | apply Kd.R_drew)); exact HO262.out) (Kd.R_base ho0) hb); have n1_ := Aside0.mk (Kd.R_lower (Kd.R_new' ho0 (Kd.R_lt (by (with_reducible repeat (first | apply Kd.R_alloc | apply Kd.R_drewN | apply Kd.R_drew)); exact HO262.out))) (below_size (by repeat (first | (with_reducible first | exact HB.out | apply below_alloc | apply pw_below_drewN | apply below_drew1 | refine below_set ?_ GE256.out) | exact HB.out)))); have n2_ := Aside0.mk (blk_below (g := gb256) (o := .cells #[.int .u64 a2_0, .int .u32 a2_1, .int .i64 a2_2] 25 (0, 0)) (by (with_reducible repeat (first | refine blk_drewN ?_ _ | refine blk_drew ?_ | refine blk_alloc ?_ _)); exact BK256.out) hb); have n3_ := Aside0.mk (below_step (by repeat (first | (with_reducible first | exact HB.out | apply below_alloc | apply pw_below_drewN | apply below_drew1 | refine below_set ?_ GE256.out) | exact HB.out)) hb); clear HO262; clear BK256; clear HB; have HO262 := n0_; have HO268 := n1_; have BK256 := n2_; have HB := n3_; clear n0_ n1_ n2_ n3_; (try clear hb); (try clear hb2); (try clear hk); (try clear hi); (try clear ho0); obtain ⟨Ao29, co29, eo29⟩ := Kd.R_slice HO268.out; subst eo29; have hcz30_0 : w28.cell? ⟨gb256, 0, none⟩ = some (.int .u64 a2_0) := (blk_cell BK256.out 0).trans rfl; have hcz30_1 : w28.cell? ⟨gb256, 1, none⟩ = some (.int .u32 a2_1) := (blk_cell BK256.out 1).trans rfl; have hcz30_2 : w28.cell? ⟨gb256, 2, none⟩ = some (.int .i64 a2_2) := (blk_cell BK256.out 2).trans rfl; have hfz30_0 := blk_frozen BK256.out 0; have hfz30_1 := blk_frozen BK256.out 1; have hfz30_2 := blk_frozen BK256.out 2))
          repeat (go_quiet (first | (go_at_call 17; (with_reducible refine (cotterellaw34_memory.calls kj3 a2_0 a2_1 a2_2 t260 _ A18.out).mono ?_); rintro e w23 ⟨v261, rfl, ho0, hb⟩; have n0_ := Aside0.mk (Kd.R_lower ho0 (below_size (by repeat (first | (with_reducible first | exact HB.out | apply below_alloc | apply pw_below_drewN | apply below_drew1 | refine below_set ?_ GE256.out) | exact HB.out)))); have n1_ := Aside0.mk (blk_below (g := gb256) (o := .cells #[.int .u64 a2_0, .int .u32 a2_1, .int .i64 a2_2] 25 (0, 0)) (by (with_reducible repeat (first | refine blk_drewN ?_ _ | refine blk_drew ?_ | refine blk_alloc ?_ _)); exact BK256.out) hb); have n2_ := Aside0.mk (below_step (by repeat (first | (with_reducible first | exact HB.out | apply below_alloc | apply pw_below_drewN | apply below_drew1 | refine below_set ?_ GE256.out) | exact HB.out)) hb); clear BK256; clear HB; have HO262 := n0_; have BK256 := n1_; have HB := n2_; clear n0_ n1_ n2_; (try clear hb); (try clear hb2); (try clear hk); (try clear hi); (try clear ho0); have hcz24_0 : w23.cell? ⟨gb256, 0, none⟩ = some (.int .u64 a2_0) := (blk_cell BK256.out 0).trans rfl; have hcz24_1 : w23.cell? ⟨gb256, 1, none⟩ = some (.int .u32 a2_1) := (blk_cell BK256.out 1).trans rfl; have hcz24_2 : w23.cell? ⟨gb256, 2, none⟩ = some (.int .i64 a2_2) := (blk_cell BK256.out 2).trans rfl; have hfz24_0 := blk_frozen BK256.out 0; have hfz24_1 := blk_frozen BK256.out 1; have hfz24_2 := blk_frozen BK256.out 2) | (go_at_call 13; (with_reducible refine (fwd_Find.calls kj3 _ _ l0 _ _ l1 a2_0 a2_1 a2_2 t263 t264 t265 _ ?side1 ?side2 ?side3 ?side4 A19.out).mono ?_); (case side1 => repeat (first | exact (Kd.C_below HR0.out HB.out) | (with_reducible refine Kd.C_alloc ?_ _) | (with_reducible refine Kd.C_drewN ?_ _) | (with_reducible refine Kd.C_drew ?_))); (case side2 => exact HC0.out); (case side3 => repeat (first | exact (Kd.C_below HR1.out HB.out) | (with_reducible refine Kd.C_alloc ?_ _) | (with_reducible refine Kd.C_drewN ?_ _) | (with_reducible refine Kd.C_drew ?_))); (case side4 => exact HC1.out); rintro e w25 ⟨rfl, hb⟩; have n0_ := Aside0.mk (Kd.R_below (by (with_reducible repeat (first | apply Kd.R_alloc | apply Kd.R_drewN | apply Kd.R_drew)); exact HO262.out) hb); have n1_ := Aside0.mk (blk_below (g := gb256) (o := .cells #[.int .u64 a2_0, .int .u32 a2_1, .int .i64 a2_2] 25 (0, 0)) (by (with_reducible repeat (first | refine blk_drewN ?_ _ | refine blk_drew ?_ | refine blk_alloc ?_ _)); exact BK256.out) hb); have n2_ := Aside0.mk (below_step (by repeat (first | (with_reducible first | exact HB.out | apply below_alloc | apply pw_below_drewN | apply below_drew1 | refine below_set ?_ GE256.out) | exact HB.out)) hb); clear HO262; clear BK256; clear HB; have HO262 := n0_; have BK256 := n1_; have HB := n2_; clear n0_ n1_ n2_; (try clear hb); (try clear hb2); (try clear hk); (try clear hi); have hcz26_0 : w25.cell? ⟨gb256, 0, none⟩ = some (.int .u64 a2_0) := (blk_cell BK256.out 0).trans rfl; have hcz26_1 : w25.cell? ⟨gb256, 1, none⟩ = some (.int .u32 a2_1) := (blk_cell BK256.out 1).trans rfl; have hcz26_2 : w25.cell? ⟨gb256, 2, none⟩ = some (.int .i64 a2_2) := (blk_cell BK256.out 2).trans rfl; have hfz26_0 := blk_frozen BK256.out 0; have hfz26_1 := blk_frozen BK256.out 1; have hfz26_2 := blk_frozen BK256.out 2; obtain ⟨Ao27, co27, eo27⟩ := Kd.R_slice HO262.out; subst eo27) | (go_at_call 19; (with_reducible refine (fwd_Bytes.calls kj3 _ _ l0 _ _ l1 _ _ t260 a2_0 a2_1 a2_2 t266 _ ?side1 ?side2 ?side3 ?side4 ?side5 ?side6 A20.out).mono ?_); (case side1 => repeat (first | exact (Kd.C_below HR0.out HB.out) | (with_reducible refine Kd.C_alloc ?_ _) | (with_reducible refine Kd.C_drewN ?_ _) | (with_reducible refine Kd.C_drew ?_))); (case side2 => exact HC0.out); (case side3 => repeat (first | exact (Kd.C_below HR1.out HB.out) | (with_reducible refine Kd.C_alloc ?_ _) | (with_reducible refine Kd.C_drewN ?_ _) | (with_reducible refine Kd.C_drew ?_))); (case side4 => exact HC1.out); (case side5 => repeat (first | exact (Kd.R_reads' HO262.out).2.2 | (with_reducible refine Kd.C_alloc ?_ _) | (with_reducible refine Kd.C_drewN ?_ _) | (with_reducible refine Kd.C_drew ?_))); (case side6 => exact (Kd.R_reads' HO262.out).2.1); rintro e w28 ⟨v267, rfl, ho0, hb⟩; have n0_ := Aside0.mk (Kd.R_elder' (by (with_reducible repeat (first | apply Kd.R_alloc | apply Kd.R_drewN | apply Kd.R_drew)); exact HO262.out) (Kd.R_base ho0) hb); have n1_ := Aside0.mk (Kd.R_lower (Kd.R_new' ho0 (Kd.R_lt (by (with_reducible repeat (first | apply Kd.R_alloc | apply Kd.R_drewN | apply Kd.R_drew)); exact HO262.out))) (below_size (by repeat (first | (with_reducible first | exact HB.out | apply below_alloc | apply pw_below_drewN | apply below_drew1 | refine below_set ?_ GE256.out) | exact HB.out)))); have n2_ := Aside0.mk (blk_below (g := gb256) (o := .cells #[.int .u64 a2_0, .int .u32 a2_1, .int .i64 a2_2] 25 (0, 0)) (by (with_reducible repeat (first | refine blk_drewN ?_ _ | refine blk_drew ?_ | refine blk_alloc ?_ _)); exact BK256.out) hb); have n3_ := Aside0.mk (below_step (by repeat (first | (with_reducible first | exact HB.out | apply below_alloc | apply pw_below_drewN | apply below_drew1 | refine below_set ?_ GE256.out) | exact HB.out)) hb); clear HO262; clear BK256; clear HB; have HO262 := n0_; have HO268 := n1_; have BK256 := n2_; have HB := n3_; clear n0_ n1_ n2_ n3_; (try clear hb); (try clear hb2); (try clear hk); (try clear hi); (try clear ho0); obtain ⟨Ao29, co29, eo29⟩ := Kd.R_slice HO268.out; subst eo29; have hcz30_0 : w28.cell? ⟨gb256, 0, none⟩ = some (.int .u64 a2_0) := (blk_cell BK256.out 0).trans rfl; have hcz30_1 : w28.cell? ⟨gb256, 1, none⟩ = some (.int .u32 a2_1) := (blk_cell BK256.out 1).trans rfl; have hcz30_2 : w28.cell? ⟨gb256, 2, none⟩ = some (.int .i64 a2_2) := (blk_cell BK256.out 2).trans rfl; have hfz30_0 := blk_frozen BK256.out 0; have hfz30_1 := blk_frozen BK256.out 1; have hfz30_2 := blk_frozen BK256.out 2)); try go_wp2_with (first | (go_at_call 17; (with_reducible refine (cotterellaw34_memory.calls kj3 a2_0 a2_1 a2_2 t260 _ A18.out).mono ?_); rintro e w23 ⟨v261, rfl, ho0, hb⟩; have n0_ := Aside0.mk (Kd.R_lower ho0 (below_size (by repeat (first | (with_reducible first | exact HB.out | apply below_alloc | apply pw_below_drewN | apply below_drew1 | refine below_set ?_ GE256.out) | exact HB.out)))); have n1_ := Aside0.mk (blk_below (g := gb256) (o := .cells #[.int .u64 a2_0, .int .u32 a2_1, .int .i64 a2_2] 25 (0, 0)) (by (with_reducible repeat (first | refine blk_drewN ?_ _ | refine blk_drew ?_ | refine blk_alloc ?_ _)); exact BK256.out) hb); have n2_ := Aside0.mk (below_step (by repeat (first | (with_reducible first | exact HB.out | apply below_alloc | apply pw_below_drewN | apply below_drew1 | refine below_set ?_ GE256.out) | exact HB.out)) hb); clear BK256; clear HB; have HO262 := n0_; have BK256 := n1_; have HB := n2_; clear n0_ n1_ n2_; (try clear hb); (try clear hb2); (try clear hk); (try clear hi); (try clear ho0); have hcz24_0 : w23.cell? ⟨gb256, 0, none⟩ = some (.int .u64 a2_0) := (blk_cell BK256.out 0).trans rfl; have hcz24_1 : w23.cell? ⟨gb256, 1, none⟩ = some (.int .u32 a2_1) := (blk_cell BK256.out 1).trans rfl; have hcz24_2 : w23.cell? ⟨gb256, 2, none⟩ = some (.int .i64 a2_2) := (blk_cell BK256.out 2).trans rfl; have hfz24_0 := blk_frozen BK256.out 0; have hfz24_1 := blk_frozen BK256.out 1; have hfz24_2 := blk_frozen BK256.out 2) | (go_at_call 13; (with_reducible refine (fwd_Find.calls kj3 _ _ l0 _ _ l1 a2_0 a2_1 a2_2 t263 t264 t265 _ ?side1 ?side2 ?side3 ?side4 A19.out).mono ?_); (case side1 => repeat (first | exact (Kd.C_below HR0.out HB.out) | (with_reducible refine Kd.C_alloc ?_ _) | (with_reducible refine Kd.C_drewN ?_ _) | (with_reducible refine Kd.C_drew ?_))); (case side2 => exact HC0.out); (case side3 => repeat (first | exact (Kd.C_below HR1.out HB.out) | (with_reducible refine Kd.C_alloc ?_ _) | (with_reducible refine Kd.C_drewN ?_ _) | (with_reducible refine Kd.C_drew ?_))); (case side4 => exact HC1.out); rintro e w25 ⟨rfl, hb⟩; have n0_ := Aside0.mk (Kd.R_below (by (with_reducible repeat (first | apply Kd.R_alloc | apply Kd.R_drewN | apply Kd.R_drew)); exact HO262.out) hb); have n1_ := Aside0.mk (blk_below (g := gb256) (o := .cells #[.int .u64 a2_0, .int .u32 a2_1, .int .i64 a2_2] 25 (0, 0)) (by (with_reducible repeat (first | refine blk_drewN ?_ _ | refine blk_drew ?_ | refine blk_alloc ?_ _)); exact BK256.out) hb); have n2_ := Aside0.mk (below_step (by repeat (first | (with_reducible first | exact HB.out | apply below_alloc | apply pw_below_drewN | apply below_drew1 | refine below_set ?_ GE256.out) | exact HB.out)) hb); clear HO262; clear BK256; clear HB; have HO262 := n0_; have BK256 := n1_; have HB := n2_; clear n0_ n1_ n2_; (try clear hb); (try clear hb2); (try clear hk); (try clear hi); have hcz26_0 : w25.cell? ⟨gb256, 0, none⟩ = some (.int .u64 a2_0) := (blk_cell BK256.out 0).trans rfl; have hcz26_1 : w25.cell? ⟨gb256, 1, none⟩ = some (.int .u32 a2_1) := (blk_cell BK256.out 1).trans rfl; have hcz26_2 : w25.cell? ⟨gb256, 2, none⟩ = some (.int .i64 a2_2) := (blk_cell BK256.out 2).trans rfl; have hfz26_0 := blk_frozen BK256.out 0; have hfz26_1 := blk_frozen BK256.out 1; have hfz26_2 := blk_frozen BK256.out 2; obtain ⟨Ao27, co27, eo27⟩ := Kd.R_slice HO262.out; subst eo27) | (go_at_call 19; (with_reducible refine (fwd_Bytes.calls kj3 _ _ l0 _ _ l1 _ _ t260 a2_0 a2_1 a2_2 t266 _ ?side1 ?side2 ?side3 ?side4 ?side5 ?side6 A20.out).mono ?_); (case side1 => repeat (first | exact (Kd.C_below HR0.out HB.out) | (with_reducible refine Kd.C_alloc ?_ _) | (with_reducible refine Kd.C_drewN ?_ _) | (with_reducible refine Kd.C_drew ?_))); (case side2 => exact HC0.out); (case side3 => repeat (first | exact (Kd.C_below HR1.out HB.out) | (with_reducible refine Kd.C_alloc ?_ _) | (with_reducible refine Kd.C_drewN ?_ _) | (with_reducible refine Kd.C_drew ?_))); (case side4 => exact HC1.out); (case side5 => repeat (first | exact (Kd.R_reads' HO262.out).2.2 | (with_reducible refine Kd.C_alloc ?_ _) | (with_reducible refine Kd.C_drewN ?_ _) | (with_reducible refine Kd.C_drew ?_))); (case side6 => exact (Kd.R_reads' HO262.out).2.1); rintro e w28 ⟨v267, rfl, ho0, hb⟩; have n0_ := Aside0.mk (Kd.R_elder' (by (with_reducible repeat (first | apply Kd.R_alloc | apply Kd.R_drewN | apply Kd.R_drew)); exact HO262.out) (Kd.R_base ho0) hb); have n1_ := Aside0.mk (Kd.R_lower (Kd.R_new' ho0 (Kd.R_lt (by (with_reducible repeat (first | apply Kd.R_alloc | apply Kd.R_drewN | apply Kd.R_drew)); exact HO262.out))) (below_size (by repeat (first | (with_reducible first | exact HB.out | apply below_alloc | apply pw_below_drewN | apply below_drew1 | refine below_set ?_ GE256.out) | exact HB.out)))); have n2_ := Aside0.mk (blk_below (g := gb256) (o := .cells #[.int .u64 a2_0, .int .u32 a2_1, .int .i64 a2_2] 25 (0, 0)) (by (with_reducible repeat (first | refine blk_drewN ?_ _ | refine blk_drew ?_ | refine blk_alloc ?_ _)); exact BK256.out) hb); have n3_ := Aside0.mk (below_step (by repeat (first | (with_reducible first | exact HB.out | apply below_alloc | apply pw_below_drewN | apply below_drew1 | refine below_set ?_ GE256.out) | exact HB.out)) hb); clear HO262; clear BK256; clear HB; have HO262 := n0_; have HO268 := n1_; have BK256 := n2_; have HB := n3_; clear n0_ n1_ n2_ n3_; (try clear hb); (try clear hb2); (try clear hk); (try clear hi); (try clear ho0); obtain ⟨Ao29, co29, eo29⟩ := Kd.R_slice HO268.out; subst eo29; have hcz30_0 : w28.cell? ⟨gb256, 0, none⟩ = some (.int .u64 a2_0) := (blk_cell BK256.out 0).trans rfl; have hcz30_1 : w28.cell? ⟨gb256, 1, none⟩ = some (.int .u32 a2_1) := (blk_cell BK256.out 1).trans rfl; have hcz30_2 : w28.cell? ⟨gb256, 2, none⟩ = some (.int .i64 a2_2) := (blk_cell BK256.out 2).trans rfl; have hfz30_0 := blk_frozen BK256.out 0; have hfz30_1 := blk_frozen BK256.out 1; have hfz30_2 := blk_frozen BK256.out 2)))
          go_loopg [12] kj3 (fun kq v12 w' => ∃ (x12_2 : Int), v12 = .int .i64 x12_2 ∧ Aside0 (cotterellaw34_FwdRight.l0 kq t260 t263 t264 t266 x12_2 a2_0 a2_1 a2_2 = some r) ∧ Aside0 (kq ≤ kj3) ∧ Aside0 (Kd.R (Kd.int .u8) 5 w' w.heap.size (fun k_ => some k_ ≠ ((.slice Ao29 t266.length co29) : Value).ownBlock) (.slice Ao27 t260.length co27) t260) ∧ Aside0 (Kd.R (Kd.int .u8) 5 w' w.heap.size (fun k_ => some k_ ≠ ((.slice Ao27 t260.length co27) : Value).ownBlock) (.slice Ao29 t266.length co29) t266) ∧ Aside0 (w'.heap[gb256]? = some (.cells #[.int .u64 a2_0, .int .u32 a2_1, .int .i64 a2_2] 25 (0, 0))) ∧ Aside0 (Below w.heap.size w w'))
          case atStart => exact ⟨(0), (by first | rfl | (simp; done) | (simp [*]; done)), H', ⟨Nat.le_refl _⟩, ⟨by (with_reducible repeat (first | apply Kd.R_alloc | apply Kd.R_drewN | apply Kd.R_drew)); exact Kd.R_mono HO262.out (fun _ hk => hk.2)⟩, ⟨by (with_reducible repeat (first | apply Kd.R_alloc | apply Kd.R_drewN | apply Kd.R_drew)); exact Kd.R_mono HO268.out (fun _ hk => hk.2)⟩, ⟨by (with_reducible repeat (first | refine blk_drewN ?_ _ | refine blk_drew ?_ | refine blk_alloc ?_ _)); exact BK256.out⟩, ⟨by repeat (first | (with_reducible first | exact HB.out | apply below_alloc | apply pw_below_drewN | apply below_drew1 | refine below_set ?_ GE256.out) | exact HB.out)⟩⟩
          case round =>
            clear H'
            try clear c1
            try clear c2
            try clear p2
            try clear c6
            try clear c6b0
            try clear c6b1
            try clear c7
            try clear c7b0
            try clear c7b1
            try clear c9
            try clear c10
            try clear c10b0
            try clear c15
            try clear c21
            try clear c21b0
            try clear c21b1
            try clear hcz11_0
            try clear hcz11_1
            try clear hcz11_2
            try clear hcz13_0
            try clear hcz13_1
            try clear hcz13_2
            try clear hcz14_0
            try clear hcz14_1
            try clear hcz14_2
            try clear hcz22_0
            try clear hcz22_1
            try clear hcz22_2
            try clear hcz24_0
            try clear hcz24_1
            try clear hcz24_2
            try clear hcz26_0
            try clear hcz26_1
            try clear hcz26_2
            try clear hcz30_0
            try clear hcz30_1
            try clear hcz30_2
            try clear hfz11_0
            try clear hfz11_1
            try clear hfz11_2
            try clear hfz13_0
            try clear hfz13_1
            try clear hfz13_2
            try clear hfz14_0
            try clear hfz14_1
            try clear hfz14_2
            try clear hfz22_0
            try clear hfz22_1
            try clear hfz22_2
            try clear hfz24_0
            try clear hfz24_1
            try clear hfz24_2
            try clear hfz26_0
            try clear hfz26_1
            try clear hfz26_2
            try clear hfz30_0
            try clear hfz30_1
            try clear hfz30_2
            try clear p2
            obtain ⟨x12_2, rfl, HA, HK2, HO_7, HO_11, BK256, HB⟩ := hrel
            cases gk with
            | zero => exact absurd HA.out (by simp [cotterellaw34_FwdRight.l0])
            | succ k2 =>
              have H := HA.out
              clear HA
              simp only [cotterellaw34_FwdRight.l0] at H
              by_cases c31 : x12_2 < a2_2
              · rw [if_pos c31] at H
                have c31b0 : decide (x12_2 < a2_2) = true := decide_eq_true c31
                clear c31
                by_cases c32 : t263 = 1
                · rw [if_pos c32] at H
                  have c32b0 : (t263 == 1) = true := beq_iff_eq.mpr c32
                  have c32b1 : (t263 != 1) = false := bne_eq_false_iff_eq.mpr c32
                  clear c32
                  obtain ⟨ji33, hji33⟩ : ∃ j_ : Int, (wrap64 (8 * x12_2)) = j_ := ⟨_, rfl⟩
                  replace H : (if 0 ≤ (ji33) then (if 0 ≤ x12_2 then (if x12_2 < (t266.length : Int) then (if ((shr .u32 t264 (ji33)) % 256) = (rd t266 x12_2) then (if t263 = 0 then (if 0 ≤ (wrap64 ((wrap64 (a2_1)) + x12_2)) then (if (wrap64 ((wrap64 (a2_1)) + x12_2)) < (t260.length : Int) then (if (rd t260 (wrap64 ((wrap64 (a2_1)) + x12_2))) = (rd t266 x12_2) then (if t264 = 0 then (cotterellaw34_FwdRight.l0 k2 t260 t263 t264 t266 (wrap64 (x12_2 + 1)) a2_0 a2_1 a2_2) else (some false)) else (some false)) else (none)) else (none)) else (cotterellaw34_FwdRight.l0 k2 t260 t263 t264 t266 (wrap64 (x12_2 + 1)) a2_0 a2_1 a2_2)) else (some false)) else (none)) else (none)) else (none)) = some r := by first | (rw [hji33] at H; exact H) | (simp only [hji33] at H ⊢; exact H)
                  have hji33w : (IntKind.i64.wrap (8 * x12_2)) = ji33 := (i64_w _).trans hji33
                  by_cases c34 : 0 ≤ (ji33)
                  · rw [if_pos c34] at H
                    have c34b0 := eq_true c34
                    have c34b1 : decide (0 ≤ (ji33)) = true := decide_eq_true c34
                    clear c34
                    obtain ⟨ji35, hji35⟩ : ∃ j_ : Int, (shr .u32 t264 (ji33)) = j_ := ⟨_, rfl⟩
                    replace H : (if 0 ≤ x12_2 then (if x12_2 < (t266.length : Int) then (if ((ji35) % 256) = (rd t266 x12_2) then (if t263 = 0 then (if 0 ≤ (wrap64 ((wrap64 (a2_1)) + x12_2)) then (if (wrap64 ((wrap64 (a2_1)) + x12_2)) < (t260.length : Int) then (if (rd t260 (wrap64 ((wrap64 (a2_1)) + x12_2))) = (rd t266 x12_2) then (if t264 = 0 then (cotterellaw34_FwdRight.l0 k2 t260 t263 t264 t266 (wrap64 (x12_2 + 1)) a2_0 a2_1 a2_2) else (some false)) else (some false)) else (none)) else (none)) else (cotterellaw34_FwdRight.l0 k2 t260 t263 t264 t266 (wrap64 (x12_2 + 1)) a2_0 a2_1 a2_2)) else (some false)) else (none)) else (none)) = some r := by first | (rw [hji35] at H; exact H) | (simp only [hji35] at H ⊢; exact H)
                    have hji35_ : (t264 / 2 ^ min (ji33).toNat 32) = ji35 := hji35
                    have hji35z : (ji33) ≤ 32 → (t264 / 2 ^ (ji33).toNat) = ji35 := shr_small hji35
                    by_cases c36 : 0 ≤ x12_2
                    · rw [if_pos c36] at H
                      have c36b0 : decide (0 ≤ x12_2) = true := decide_eq_true c36
                      clear c36
                      by_cases c37 : x12_2 < (t266.length : Int)
                      · rw [if_pos c37] at H
                        have c37b0 : decide (x12_2 < (t266.length : Int)) = true := decide_eq_true c37
                        clear c37
                        by_cases c38 : ((ji35) % 256) = (rd t266 x12_2)
                        · rw [if_pos c38] at H
                          have c38b0 : (((ji35) % 256) == (rd t266 x12_2)) = true := beq_iff_eq.mpr c38
                          have c38b1 : (((ji35) % 256) != (rd t266 x12_2)) = false := bne_eq_false_iff_eq.mpr c38
                          clear c38
                          by_cases c39 : t263 = 0
                          · exact absurd ((beq_iff_eq.mp c32b0).symm.trans c39) (by decide)
                          · rw [if_neg c39] at H
                            have c39b0 : (t263 == 0) = false := beq_eq_false_iff_ne.mpr c39
                            have c39b1 : (t263 != 0) = true := bne_iff_ne.mpr c39
                            have H' := Aside0.mk H
                            clear H
                            have hcz48_0 : wr.cell? ⟨gb256, 0, none⟩ = some (.int .u64 a2_0) := (blk_cell BK256.out 0).trans rfl
                            have hcz48_1 : wr.cell? ⟨gb256, 1, none⟩ = some (.int .u32 a2_1) := (blk_cell BK256.out 1).trans rfl
                            have hcz48_2 : wr.cell? ⟨gb256, 2, none⟩ = some (.int .i64 a2_2) := (blk_cell BK256.out 2).trans rfl
                            have hfz48_0 := blk_frozen BK256.out 0
                            have hfz48_1 := blk_frozen BK256.out 1
                            have hfz48_2 := blk_frozen BK256.out 2
                            have p269 : 0 ≤ (x12_2 : Int) := of_decide_eq_true (by first | (with_reducible assumption) | assumption)
                            have q269 : x12_2 < (t266.length : Int) := of_decide_eq_true (by first | (with_reducible assumption) | assumption)
                            obtain ⟨ad269, e269, hx269_0⟩ := Kd.at_int (Kd.R_reads' HO_11.out).2.2 x12_2 p269 q269
                            cases e269
                            replace p269 := eq_true p269
                            replace q269 := eq_true q269
                            go_wp2
                            repeat (go_quiet (fail); try go_wp2)
                            go_roundg k2
                            case measure => have := HJ3.out; have := HK2.out; omega
                            case rel => exact ⟨(wrap64 (x12_2 + 1)), (by first | rfl | (simp; done) | (simp [*]; done)), H', ⟨by have := HJ3.out; have := HK2.out; omega⟩, ⟨by (with_reducible repeat (first | apply Kd.R_alloc | apply Kd.R_drewN | apply Kd.R_drew)); exact HO_7.out⟩, ⟨by (with_reducible repeat (first | apply Kd.R_alloc | apply Kd.R_drewN | apply Kd.R_drew)); exact HO_11.out⟩, ⟨by (with_reducible repeat (first | refine blk_drewN ?_ _ | refine blk_drew ?_ | refine blk_alloc ?_ _)); exact BK256.out⟩, ⟨by repeat (first | (with_reducible first | exact HB.out | apply below_alloc | apply pw_below_drewN | apply below_drew1 | refine below_set ?_ GE256.out) | exact HB.out)⟩⟩
                        · rw [if_neg c38] at H
                          have c38b0 : (((ji35) % 256) == (rd t266 x12_2)) = false := beq_eq_false_iff_ne.mpr c38
                          have c38b1 : (((ji35) % 256) != (rd t266 x12_2)) = true := bne_iff_ne.mpr c38
                          obtain rfl := Option.some.inj H
                          have hcz49_0 : wr.cell? ⟨gb256, 0, none⟩ = some (.int .u64 a2_0) := (blk_cell BK256.out 0).trans rfl
                          have hcz49_1 : wr.cell? ⟨gb256, 1, none⟩ = some (.int .u32 a2_1) := (blk_cell BK256.out 1).trans rfl
                          have hcz49_2 : wr.cell? ⟨gb256, 2, none⟩ = some (.int .i64 a2_2) := (blk_cell BK256.out 2).trans rfl
                          have hfz49_0 := blk_frozen BK256.out 0
                          have hfz49_1 := blk_frozen BK256.out 1
                          have hfz49_2 := blk_frozen BK256.out 2
                          have p269 : 0 ≤ (x12_2 : Int) := of_decide_eq_true (by first | (with_reducible assumption) | assumption)
                          have q269 : x12_2 < (t266.length : Int) := of_decide_eq_true (by first | (with_reducible assumption) | assumption)
                          obtain ⟨ad269, e269, hx269_0⟩ := Kd.at_int (Kd.R_reads' HO_11.out).2.2 x12_2 p269 q269
                          cases e269
                          replace p269 := eq_true p269
                          replace q269 := eq_true q269
                          go_wp2
                          repeat (go_quiet (fail); try go_wp2)
                          go_ret
                          exact ⟨by first | rfl | (simp [errW_none, errW_some] <;> rfl) | (simp only [← hji33, ← hji35]; first | rfl | (simp [errW_none, errW_some] <;> rfl)) | (simp [*, errW_none, errW_some] <;> rfl), by repeat (first | (with_reducible first | exact HB.out | apply below_alloc | apply pw_below_drewN | apply below_drew1 | refine below_set ?_ GE256.out) | exact HB.out)⟩
                      · rw [if_neg c37] at H
                        exact absurd H (by simp)
                    · rw [if_neg c36] at H
                      exact absurd H (by simp)
                  · rw [if_neg c34] at H
                    exact absurd H (by simp)
                · rw [if_neg c32] at H
                  have c32b0 : (t263 == 1) = false := beq_eq_false_iff_ne.mpr c32
                  have c32b1 : (t263 != 1) = true := bne_iff_ne.mpr c32
                  by_cases c50 : t263 = 0
                  · rw [if_pos c50] at H
                    have c50b0 : (t263 == 0) = true := beq_iff_eq.mpr c50
                    have c50b1 : (t263 != 0) = false := bne_eq_false_iff_eq.mpr c50
                    clear c50
                    obtain ⟨ji51, hji51⟩ : ∃ j_ : Int, (wrap64 ((wrap64 (a2_1)) + x12_2)) = j_ := ⟨_, rfl⟩
                    replace H : (if 0 ≤ (ji51) then (if (ji51) < (t260.length : Int) then (if 0 ≤ x12_2 then (if x12_2 < (t266.length : Int) then (if (rd t260 (ji51)) = (rd t266 x12_2) then (if t264 = 0 then (cotterellaw34_FwdRight.l0 k2 t260 t263 t264 t266 (wrap64 (x12_2 + 1)) a2_0 a2_1 a2_2) else (some false)) else (some false)) else (none)) else (none)) else (none)) else (none)) = some r := by first | (rw [hji51] at H; exact H) | (simp only [hji51] at H ⊢; exact H)
                    have hji51w : (IntKind.i64.wrap ((wrap64 (a2_1)) + x12_2)) = ji51 := (i64_w _).trans hji51
                    by_cases c52 : 0 ≤ (ji51)
                    · rw [if_pos c52] at H
                      have c52b0 : decide (0 ≤ (ji51)) = true := decide_eq_true c52
                      clear c52
                      by_cases c53 : (ji51) < (t260.length : Int)
                      · rw [if_pos c53] at H
                        have c53b0 : decide ((ji51) < (t260.length : Int)) = true := decide_eq_true c53
                        clear c53
                        by_cases c54 : 0 ≤ x12_2
                        · rw [if_pos c54] at H
                          have c54b0 : decide (0 ≤ x12_2) = true := decide_eq_true c54
                          clear c54
                          by_cases c55 : x12_2 < (t266.length : Int)
                          · rw [if_pos c55] at H
                            have c55b0 : decide (x12_2 < (t266.length : Int)) = true := decide_eq_true c55
                            clear c55
                            by_cases c56 : (rd t260 (ji51)) = (rd t266 x12_2)
                            · rw [if_pos c56] at H
                              have c56b0 : ((rd t260 (ji51)) == (rd t266 x12_2)) = true := beq_iff_eq.mpr c56
                              have c56b1 : ((rd t260 (ji51)) != (rd t266 x12_2)) = false := bne_eq_false_iff_eq.mpr c56
                              clear c56
                              by_cases c57 : t264 = 0
                              · rw [if_pos c57] at H
                                have c57b0 : (t264 == 0) = true := beq_iff_eq.mpr c57
                                have c57b1 : (t264 != 0) = false := bne_eq_false_iff_eq.mpr c57
                                clear c57
                                have H' := Aside0.mk H
                                clear H
                                have hcz58_0 : wr.cell? ⟨gb256, 0, none⟩ = some (.int .u64 a2_0) := (blk_cell BK256.out 0).trans rfl
                                have hcz58_1 : wr.cell? ⟨gb256, 1, none⟩ = some (.int .u32 a2_1) := (blk_cell BK256.out 1).trans rfl
                                have hcz58_2 : wr.cell? ⟨gb256, 2, none⟩ = some (.int .i64 a2_2) := (blk_cell BK256.out 2).trans rfl
                                have hfz58_0 := blk_frozen BK256.out 0
                                have hfz58_1 := blk_frozen BK256.out 1
                                have hfz58_2 := blk_frozen BK256.out 2
                                have p272 : 0 ≤ ((ji51) : Int) := of_decide_eq_true (by first | (with_reducible assumption) | assumption)
                                have q272 : (ji51) < (t260.length : Int) := of_decide_eq_true (by first | (with_reducible assumption) | assumption)
                                obtain ⟨ad272, e272, hx272_0⟩ := Kd.at_int (Kd.R_reads' HO_7.out).2.2 (ji51) p272 q272
                                cases e272
                                replace p272 := eq_true p272
                                replace q272 := eq_true q272
                                have p273 : 0 ≤ (x12_2 : Int) := of_decide_eq_true (by first | (with_reducible assumption) | assumption)
                                have q273 : x12_2 < (t266.length : Int) := of_decide_eq_true (by first | (with_reducible assumption) | assumption)
                                obtain ⟨ad273, e273, hx273_0⟩ := Kd.at_int (Kd.R_reads' HO_11.out).2.2 x12_2 p273 q273
                                cases e273
                                replace p273 := eq_true p273
                                replace q273 := eq_true q273
                                go_wp2
                                repeat (go_quiet (fail); try go_wp2)
                                go_roundg k2
                                case measure => have := HJ3.out; have := HK2.out; omega
                                case rel => exact ⟨(wrap64 (x12_2 + 1)), (by first | rfl | (simp; done) | (simp [*]; done)), H', ⟨by have := HJ3.out; have := HK2.out; omega⟩, ⟨by (with_reducible repeat (first | apply Kd.R_alloc | apply Kd.R_drewN | apply Kd.R_drew)); exact HO_7.out⟩, ⟨by (with_reducible repeat (first | apply Kd.R_alloc | apply Kd.R_drewN | apply Kd.R_drew)); exact HO_11.out⟩, ⟨by (with_reducible repeat (first | refine blk_drewN ?_ _ | refine blk_drew ?_ | refine blk_alloc ?_ _)); exact BK256.out⟩, ⟨by repeat (first | (with_reducible first | exact HB.out | apply below_alloc | apply pw_below_drewN | apply below_drew1 | refine below_set ?_ GE256.out) | exact HB.out)⟩⟩
                              · rw [if_neg c57] at H
                                have c57b0 : (t264 == 0) = false := beq_eq_false_iff_ne.mpr c57
                                have c57b1 : (t264 != 0) = true := bne_iff_ne.mpr c57
                                obtain rfl := Option.some.inj H
                                have hcz59_0 : wr.cell? ⟨gb256, 0, none⟩ = some (.int .u64 a2_0) := (blk_cell BK256.out 0).trans rfl
                                have hcz59_1 : wr.cell? ⟨gb256, 1, none⟩ = some (.int .u32 a2_1) := (blk_cell BK256.out 1).trans rfl
                                have hcz59_2 : wr.cell? ⟨gb256, 2, none⟩ = some (.int .i64 a2_2) := (blk_cell BK256.out 2).trans rfl
                                have hfz59_0 := blk_frozen BK256.out 0
                                have hfz59_1 := blk_frozen BK256.out 1
                                have hfz59_2 := blk_frozen BK256.out 2
                                have p272 : 0 ≤ ((ji51) : Int) := of_decide_eq_true (by first | (with_reducible assumption) | assumption)
                                have q272 : (ji51) < (t260.length : Int) := of_decide_eq_true (by first | (with_reducible assumption) | assumption)
                                obtain ⟨ad272, e272, hx272_0⟩ := Kd.at_int (Kd.R_reads' HO_7.out).2.2 (ji51) p272 q272
                                cases e272
                                replace p272 := eq_true p272
                                replace q272 := eq_true q272
                                have p273 : 0 ≤ (x12_2 : Int) := of_decide_eq_true (by first | (with_reducible assumption) | assumption)
                                have q273 : x12_2 < (t266.length : Int) := of_decide_eq_true (by first | (with_reducible assumption) | assumption)
                                obtain ⟨ad273, e273, hx273_0⟩ := Kd.at_int (Kd.R_reads' HO_11.out).2.2 x12_2 p273 q273
                                cases e273
                                replace p273 := eq_true p273
                                replace q273 := eq_true q273
                                go_wp2
                                repeat (go_quiet (fail); try go_wp2)
                                go_ret
                                exact ⟨by first | rfl | (simp [errW_none, errW_some] <;> rfl) | (simp only [← hji51]; first | rfl | (simp [errW_none, errW_some] <;> rfl)) | (simp [*, errW_none, errW_some] <;> rfl), by repeat (first | (with_reducible first | exact HB.out | apply below_alloc | apply pw_below_drewN | apply below_drew1 | refine below_set ?_ GE256.out) | exact HB.out)⟩
                            · rw [if_neg c56] at H
                              have c56b0 : ((rd t260 (ji51)) == (rd t266 x12_2)) = false := beq_eq_false_iff_ne.mpr c56
                              have c56b1 : ((rd t260 (ji51)) != (rd t266 x12_2)) = true := bne_iff_ne.mpr c56
                              obtain rfl := Option.some.inj H
                              have hcz60_0 : wr.cell? ⟨gb256, 0, none⟩ = some (.int .u64 a2_0) := (blk_cell BK256.out 0).trans rfl
                              have hcz60_1 : wr.cell? ⟨gb256, 1, none⟩ = some (.int .u32 a2_1) := (blk_cell BK256.out 1).trans rfl
                              have hcz60_2 : wr.cell? ⟨gb256, 2, none⟩ = some (.int .i64 a2_2) := (blk_cell BK256.out 2).trans rfl
                              have hfz60_0 := blk_frozen BK256.out 0
                              have hfz60_1 := blk_frozen BK256.out 1
                              have hfz60_2 := blk_frozen BK256.out 2
                              have p272 : 0 ≤ ((ji51) : Int) := of_decide_eq_true (by first | (with_reducible assumption) | assumption)
                              have q272 : (ji51) < (t260.length : Int) := of_decide_eq_true (by first | (with_reducible assumption) | assumption)
                              obtain ⟨ad272, e272, hx272_0⟩ := Kd.at_int (Kd.R_reads' HO_7.out).2.2 (ji51) p272 q272
                              cases e272
                              replace p272 := eq_true p272
                              replace q272 := eq_true q272
                              have p273 : 0 ≤ (x12_2 : Int) := of_decide_eq_true (by first | (with_reducible assumption) | assumption)
                              have q273 : x12_2 < (t266.length : Int) := of_decide_eq_true (by first | (with_reducible assumption) | assumption)
                              obtain ⟨ad273, e273, hx273_0⟩ := Kd.at_int (Kd.R_reads' HO_11.out).2.2 x12_2 p273 q273
                              cases e273
                              replace p273 := eq_true p273
                              replace q273 := eq_true q273
                              go_wp2
                              repeat (go_quiet (fail); try go_wp2)
                              go_ret
                              exact ⟨by first | rfl | (simp [errW_none, errW_some] <;> rfl) | (simp only [← hji51]; first | rfl | (simp [errW_none, errW_some] <;> rfl)) | (simp [*, errW_none, errW_some] <;> rfl), by repeat (first | (with_reducible first | exact HB.out | apply below_alloc | apply pw_below_drewN | apply below_drew1 | refine below_set ?_ GE256.out) | exact HB.out)⟩
                          · rw [if_neg c55] at H
                            exact absurd H (by simp)
                        · rw [if_neg c54] at H
                          exact absurd H (by simp)
                      · rw [if_neg c53] at H
                        exact absurd H (by simp)
                    · rw [if_neg c52] at H
                      exact absurd H (by simp)
                  · rw [if_neg c50] at H
                    have c50b0 : (t263 == 0) = false := beq_eq_false_iff_ne.mpr c50
                    have c50b1 : (t263 != 0) = true := bne_iff_ne.mpr c50
                    have H' := Aside0.mk H
                    clear H
                    have hcz61_0 : wr.cell? ⟨gb256, 0, none⟩ = some (.int .u64 a2_0) := (blk_cell BK256.out 0).trans rfl
                    have hcz61_1 : wr.cell? ⟨gb256, 1, none⟩ = some (.int .u32 a2_1) := (blk_cell BK256.out 1).trans rfl
                    have hcz61_2 : wr.cell? ⟨gb256, 2, none⟩ = some (.int .i64 a2_2) := (blk_cell BK256.out 2).trans rfl
                    have hfz61_0 := blk_frozen BK256.out 0
                    have hfz61_1 := blk_frozen BK256.out 1
                    have hfz61_2 := blk_frozen BK256.out 2
                    go_wp2
                    repeat (go_quiet (fail); try go_wp2)
                    go_roundg k2
                    case measure => have := HJ3.out; have := HK2.out; omega
                    case rel => exact ⟨(wrap64 (x12_2 + 1)), (by first | rfl | (simp; done) | (simp [*]; done)), H', ⟨by have := HJ3.out; have := HK2.out; omega⟩, ⟨by (with_reducible repeat (first | apply Kd.R_alloc | apply Kd.R_drewN | apply Kd.R_drew)); exact HO_7.out⟩, ⟨by (with_reducible repeat (first | apply Kd.R_alloc | apply Kd.R_drewN | apply Kd.R_drew)); exact HO_11.out⟩, ⟨by (with_reducible repeat (first | refine blk_drewN ?_ _ | refine blk_drew ?_ | refine blk_alloc ?_ _)); exact BK256.out⟩, ⟨by repeat (first | (with_reducible first | exact HB.out | apply below_alloc | apply pw_below_drewN | apply below_drew1 | refine below_set ?_ GE256.out) | exact HB.out)⟩⟩
              · rw [if_neg c31] at H
                have c31b0 : decide (x12_2 < a2_2) = false := decide_eq_false c31
                clear c31
                by_cases c62 : t263 = 1
                · rw [if_pos c62] at H
                  have c62b0 : (t263 == 1) = true := beq_iff_eq.mpr c62
                  have c62b1 : (t263 != 1) = false := bne_eq_false_iff_eq.mpr c62
                  clear c62
                  by_cases c63 : a2_2 = 4
                  · rw [if_pos c63] at H
                    have c63b0 : (a2_2 == 4) = true := beq_iff_eq.mpr c63
                    have c63b1 : (a2_2 != 4) = false := bne_eq_false_iff_eq.mpr c63
                    clear c63
                    replace H := Option.bind_eq_some_iff.mp H
                    obtain ⟨t274, A640, H⟩ := H
                    replace H : (some t274) = some r := H
                    have A64 := Aside0.mk A640
                    clear A640
                    obtain rfl := Option.some.inj H
                    have hcz65_0 : wr.cell? ⟨gb256, 0, none⟩ = some (.int .u64 a2_0) := (blk_cell BK256.out 0).trans rfl
                    have hcz65_1 : wr.cell? ⟨gb256, 1, none⟩ = some (.int .u32 a2_1) := (blk_cell BK256.out 1).trans rfl
                    have hcz65_2 : wr.cell? ⟨gb256, 2, none⟩ = some (.int .i64 a2_2) := (blk_cell BK256.out 2).trans rfl
                    have hfz65_0 := blk_frozen BK256.out 0
                    have hfz65_1 := blk_frozen BK256.out 1
                    have hfz65_2 := blk_frozen BK256.out 2
                    go_wp2_with (first | (go_at_call 12; (with_reducible refine (cotterellaw34_awake.calls k2  t274 _ A64.out).mono ?_); rintro e w66 ⟨rfl, hb⟩; have n0_ := Aside0.mk (Kd.R_below (by (with_reducible repeat (first | apply Kd.R_alloc | apply Kd.R_drewN | apply Kd.R_drew)); exact HO_7.out) hb); have n1_ := Aside0.mk (Kd.R_below (by (with_reducible repeat (first | apply Kd.R_alloc | apply Kd.R_drewN | apply Kd.R_drew)); exact HO_11.out) hb); have n2_ := Aside0.mk (blk_below (g := gb256) (o := .cells #[.int .u64 a2_0, .int .u32 a2_1, .int .i64 a2_2] 25 (0, 0)) (by (with_reducible repeat (first | refine blk_drewN ?_ _ | refine blk_drew ?_ | refine blk_alloc ?_ _)); exact BK256.out) hb); have n3_ := Aside0.mk (below_step (by repeat (first | (with_reducible first | exact HB.out | apply below_alloc | apply pw_below_drewN | apply below_drew1 | refine below_set ?_ GE256.out) | exact HB.out)) hb); clear HO_7; clear HO_11; clear BK256; clear HB; have HO_7 := n0_; have HO_11 := n1_; have BK256 := n2_; have HB := n3_; clear n0_ n1_ n2_ n3_; (try clear hb); (try clear hb2); (try clear hk); (try clear hi)))
                    repeat (go_quiet (first | (go_at_call 12; (with_reducible refine (cotterellaw34_awake.calls k2  t274 _ A64.out).mono ?_); rintro e w66 ⟨rfl, hb⟩; have n0_ := Aside0.mk (Kd.R_below (by (with_reducible repeat (first | apply Kd.R_alloc | apply Kd.R_drewN | apply Kd.R_drew)); exact HO_7.out) hb); have n1_ := Aside0.mk (Kd.R_below (by (with_reducible repeat (first | apply Kd.R_alloc | apply Kd.R_drewN | apply Kd.R_drew)); exact HO_11.out) hb); have n2_ := Aside0.mk (blk_below (g := gb256) (o := .cells #[.int .u64 a2_0, .int .u32 a2_1, .int .i64 a2_2] 25 (0, 0)) (by (with_reducible repeat (first | refine blk_drewN ?_ _ | refine blk_drew ?_ | refine blk_alloc ?_ _)); exact BK256.out) hb); have n3_ := Aside0.mk (below_step (by repeat (first | (with_reducible first | exact HB.out | apply below_alloc | apply pw_below_drewN | apply below_drew1 | refine below_set ?_ GE256.out) | exact HB.out)) hb); clear HO_7; clear HO_11; clear BK256; clear HB; have HO_7 := n0_; have HO_11 := n1_; have BK256 := n2_; have HB := n3_; clear n0_ n1_ n2_ n3_; (try clear hb); (try clear hb2); (try clear hk); (try clear hi))); try go_wp2_with (first | (go_at_call 12; (with_reducible refine (cotterellaw34_awake.calls k2  t274 _ A64.out).mono ?_); rintro e w66 ⟨rfl, hb⟩; have n0_ := Aside0.mk (Kd.R_below (by (with_reducible repeat (first | apply Kd.R_alloc | apply Kd.R_drewN | apply Kd.R_drew)); exact HO_7.out) hb); have n1_ := Aside0.mk (Kd.R_below (by (with_reducible repeat (first | apply Kd.R_alloc | apply Kd.R_drewN | apply Kd.R_drew)); exact HO_11.out) hb); have n2_ := Aside0.mk (blk_below (g := gb256) (o := .cells #[.int .u64 a2_0, .int .u32 a2_1, .int .i64 a2_2] 25 (0, 0)) (by (with_reducible repeat (first | refine blk_drewN ?_ _ | refine blk_drew ?_ | refine blk_alloc ?_ _)); exact BK256.out) hb); have n3_ := Aside0.mk (below_step (by repeat (first | (with_reducible first | exact HB.out | apply below_alloc | apply pw_below_drewN | apply below_drew1 | refine below_set ?_ GE256.out) | exact HB.out)) hb); clear HO_7; clear HO_11; clear BK256; clear HB; have HO_7 := n0_; have HO_11 := n1_; have BK256 := n2_; have HB := n3_; clear n0_ n1_ n2_ n3_; (try clear hb); (try clear hb2); (try clear hk); (try clear hi))))
                    go_ret
                    exact ⟨by first | rfl | (simp [errW_none, errW_some] <;> rfl) | (simp [*, errW_none, errW_some] <;> rfl), by repeat (first | (with_reducible first | exact HB.out | apply below_alloc | apply pw_below_drewN | apply below_drew1 | refine below_set ?_ GE256.out) | exact HB.out)⟩
                  · rw [if_neg c63] at H
                    have c63b0 : (a2_2 == 4) = false := beq_eq_false_iff_ne.mpr c63
                    have c63b1 : (a2_2 != 4) = true := bne_iff_ne.mpr c63
                    obtain ⟨ji67, hji67⟩ : ∃ j_ : Int, (wrap64 (8 * a2_2)) = j_ := ⟨_, rfl⟩
                    replace H : (if 0 ≤ (ji67) then (if (shr .u32 t264 (ji67)) = 0 then ((cotterellaw34_awake.f k2).bind fun t275 => (some t275)) else (some false)) else (none)) = some r := by first | (rw [hji67] at H; exact H) | (simp only [hji67] at H ⊢; exact H)
                    have hji67w : (IntKind.i64.wrap (8 * a2_2)) = ji67 := (i64_w _).trans hji67
                    by_cases c68 : 0 ≤ (ji67)
                    · rw [if_pos c68] at H
                      have c68b0 := eq_true c68
                      have c68b1 : decide (0 ≤ (ji67)) = true := decide_eq_true c68
                      clear c68
                      obtain ⟨ji69, hji69⟩ : ∃ j_ : Int, (shr .u32 t264 (ji67)) = j_ := ⟨_, rfl⟩
                      replace H : (if (ji69) = 0 then ((cotterellaw34_awake.f k2).bind fun t275 => (some t275)) else (some false)) = some r := by first | (rw [hji69] at H; exact H) | (simp only [hji69] at H ⊢; exact H)
                      have hji69_ : (t264 / 2 ^ min (ji67).toNat 32) = ji69 := hji69
                      have hji69z : (ji67) ≤ 32 → (t264 / 2 ^ (ji67).toNat) = ji69 := shr_small hji69
                      by_cases c70 : (ji69) = 0
                      · rw [if_pos c70] at H
                        have c70b0 : ((ji69) == 0) = true := beq_iff_eq.mpr c70
                        have c70b1 : ((ji69) != 0) = false := bne_eq_false_iff_eq.mpr c70
                        clear c70
                        replace H := Option.bind_eq_some_iff.mp H
                        obtain ⟨t275, A710, H⟩ := H
                        replace H : (some t275) = some r := H
                        have A71 := Aside0.mk A710
                        clear A710
                        obtain rfl := Option.some.inj H
                        have hcz72_0 : wr.cell? ⟨gb256, 0, none⟩ = some (.int .u64 a2_0) := (blk_cell BK256.out 0).trans rfl
                        have hcz72_1 : wr.cell? ⟨gb256, 1, none⟩ = some (.int .u32 a2_1) := (blk_cell BK256.out 1).trans rfl
                        have hcz72_2 : wr.cell? ⟨gb256, 2, none⟩ = some (.int .i64 a2_2) := (blk_cell BK256.out 2).trans rfl
                        have hfz72_0 := blk_frozen BK256.out 0
                        have hfz72_1 := blk_frozen BK256.out 1
                        have hfz72_2 := blk_frozen BK256.out 2
                        go_wp2_with (first | (go_at_call 12; (with_reducible refine (cotterellaw34_awake.calls k2  t275 _ A71.out).mono ?_); rintro e w73 ⟨rfl, hb⟩; have n0_ := Aside0.mk (Kd.R_below (by (with_reducible repeat (first | apply Kd.R_alloc | apply Kd.R_drewN | apply Kd.R_drew)); exact HO_7.out) hb); have n1_ := Aside0.mk (Kd.R_below (by (with_reducible repeat (first | apply Kd.R_alloc | apply Kd.R_drewN | apply Kd.R_drew)); exact HO_11.out) hb); have n2_ := Aside0.mk (blk_below (g := gb256) (o := .cells #[.int .u64 a2_0, .int .u32 a2_1, .int .i64 a2_2] 25 (0, 0)) (by (with_reducible repeat (first | refine blk_drewN ?_ _ | refine blk_drew ?_ | refine blk_alloc ?_ _)); exact BK256.out) hb); have n3_ := Aside0.mk (below_step (by repeat (first | (with_reducible first | exact HB.out | apply below_alloc | apply pw_below_drewN | apply below_drew1 | refine below_set ?_ GE256.out) | exact HB.out)) hb); clear HO_7; clear HO_11; clear BK256; clear HB; have HO_7 := n0_; have HO_11 := n1_; have BK256 := n2_; have HB := n3_; clear n0_ n1_ n2_ n3_; (try clear hb); (try clear hb2); (try clear hk); (try clear hi)))
                        repeat (go_quiet (first | (go_at_call 12; (with_reducible refine (cotterellaw34_awake.calls k2  t275 _ A71.out).mono ?_); rintro e w73 ⟨rfl, hb⟩; have n0_ := Aside0.mk (Kd.R_below (by (with_reducible repeat (first | apply Kd.R_alloc | apply Kd.R_drewN | apply Kd.R_drew)); exact HO_7.out) hb); have n1_ := Aside0.mk (Kd.R_below (by (with_reducible repeat (first | apply Kd.R_alloc | apply Kd.R_drewN | apply Kd.R_drew)); exact HO_11.out) hb); have n2_ := Aside0.mk (blk_below (g := gb256) (o := .cells #[.int .u64 a2_0, .int .u32 a2_1, .int .i64 a2_2] 25 (0, 0)) (by (with_reducible repeat (first | refine blk_drewN ?_ _ | refine blk_drew ?_ | refine blk_alloc ?_ _)); exact BK256.out) hb); have n3_ := Aside0.mk (below_step (by repeat (first | (with_reducible first | exact HB.out | apply below_alloc | apply pw_below_drewN | apply below_drew1 | refine below_set ?_ GE256.out) | exact HB.out)) hb); clear HO_7; clear HO_11; clear BK256; clear HB; have HO_7 := n0_; have HO_11 := n1_; have BK256 := n2_; have HB := n3_; clear n0_ n1_ n2_ n3_; (try clear hb); (try clear hb2); (try clear hk); (try clear hi))); try go_wp2_with (first | (go_at_call 12; (with_reducible refine (cotterellaw34_awake.calls k2  t275 _ A71.out).mono ?_); rintro e w73 ⟨rfl, hb⟩; have n0_ := Aside0.mk (Kd.R_below (by (with_reducible repeat (first | apply Kd.R_alloc | apply Kd.R_drewN | apply Kd.R_drew)); exact HO_7.out) hb); have n1_ := Aside0.mk (Kd.R_below (by (with_reducible repeat (first | apply Kd.R_alloc | apply Kd.R_drewN | apply Kd.R_drew)); exact HO_11.out) hb); have n2_ := Aside0.mk (blk_below (g := gb256) (o := .cells #[.int .u64 a2_0, .int .u32 a2_1, .int .i64 a2_2] 25 (0, 0)) (by (with_reducible repeat (first | refine blk_drewN ?_ _ | refine blk_drew ?_ | refine blk_alloc ?_ _)); exact BK256.out) hb); have n3_ := Aside0.mk (below_step (by repeat (first | (with_reducible first | exact HB.out | apply below_alloc | apply pw_below_drewN | apply below_drew1 | refine below_set ?_ GE256.out) | exact HB.out)) hb); clear HO_7; clear HO_11; clear BK256; clear HB; have HO_7 := n0_; have HO_11 := n1_; have BK256 := n2_; have HB := n3_; clear n0_ n1_ n2_ n3_; (try clear hb); (try clear hb2); (try clear hk); (try clear hi))))
                        go_ret
                        exact ⟨by first | rfl | (simp [errW_none, errW_some] <;> rfl) | (simp only [← hji67, ← hji69]; first | rfl | (simp [errW_none, errW_some] <;> rfl)) | (simp [*, errW_none, errW_some] <;> rfl), by repeat (first | (with_reducible first | exact HB.out | apply below_alloc | apply pw_below_drewN | apply below_drew1 | refine below_set ?_ GE256.out) | exact HB.out)⟩
                      · rw [if_neg c70] at H
                        have c70b0 : ((ji69) == 0) = false := beq_eq_false_iff_ne.mpr c70
                        have c70b1 : ((ji69) != 0) = true := bne_iff_ne.mpr c70
                        obtain rfl := Option.some.inj H
                        have hcz74_0 : wr.cell? ⟨gb256, 0, none⟩ = some (.int .u64 a2_0) := (blk_cell BK256.out 0).trans rfl
                        have hcz74_1 : wr.cell? ⟨gb256, 1, none⟩ = some (.int .u32 a2_1) := (blk_cell BK256.out 1).trans rfl
                        have hcz74_2 : wr.cell? ⟨gb256, 2, none⟩ = some (.int .i64 a2_2) := (blk_cell BK256.out 2).trans rfl
                        have hfz74_0 := blk_frozen BK256.out 0
                        have hfz74_1 := blk_frozen BK256.out 1
                        have hfz74_2 := blk_frozen BK256.out 2
                        go_wp2
                        repeat (go_quiet (fail); try go_wp2)
                        go_ret
                        exact ⟨by first | rfl | (simp [errW_none, errW_some] <;> rfl) | (simp only [← hji67, ← hji69]; first | rfl | (simp [errW_none, errW_some] <;> rfl)) | (simp [*, errW_none, errW_some] <;> rfl), by repeat (first | (with_reducible first | exact HB.out | apply below_alloc | apply pw_below_drewN | apply below_drew1 | refine below_set ?_ GE256.out) | exact HB.out)⟩
                    · rw [if_neg c68] at H
                      exact absurd H (by simp)
                · rw [if_neg c62] at H
                  have c62b0 : (t263 == 1) = false := beq_eq_false_iff_ne.mpr c62
                  have c62b1 : (t263 != 1) = true := bne_iff_ne.mpr c62
                  replace H := Option.bind_eq_some_iff.mp H
                  obtain ⟨t276, A750, H⟩ := H
                  replace H : (some t276) = some r := H
                  have A75 := Aside0.mk A750
                  clear A750
                  obtain rfl := Option.some.inj H
                  have hcz76_0 : wr.cell? ⟨gb256, 0, none⟩ = some (.int .u64 a2_0) := (blk_cell BK256.out 0).trans rfl
                  have hcz76_1 : wr.cell? ⟨gb256, 1, none⟩ = some (.int .u32 a2_1) := (blk_cell BK256.out 1).trans rfl
                  have hcz76_2 : wr.cell? ⟨gb256, 2, none⟩ = some (.int .i64 a2_2) := (blk_cell BK256.out 2).trans rfl
                  have hfz76_0 := blk_frozen BK256.out 0
                  have hfz76_1 := blk_frozen BK256.out 1
                  have hfz76_2 := blk_frozen BK256.out 2
                  go_wp2_with (first | (go_at_call 12; (with_reducible refine (cotterellaw34_awake.calls k2  t276 _ A75.out).mono ?_); rintro e w77 ⟨rfl, hb⟩; have n0_ := Aside0.mk (Kd.R_below (by (with_reducible repeat (first | apply Kd.R_alloc | apply Kd.R_drewN | apply Kd.R_drew)); exact HO_7.out) hb); have n1_ := Aside0.mk (Kd.R_below (by (with_reducible repeat (first | apply Kd.R_alloc | apply Kd.R_drewN | apply Kd.R_drew)); exact HO_11.out) hb); have n2_ := Aside0.mk (blk_below (g := gb256) (o := .cells #[.int .u64 a2_0, .int .u32 a2_1, .int .i64 a2_2] 25 (0, 0)) (by (with_reducible repeat (first | refine blk_drewN ?_ _ | refine blk_drew ?_ | refine blk_alloc ?_ _)); exact BK256.out) hb); have n3_ := Aside0.mk (below_step (by repeat (first | (with_reducible first | exact HB.out | apply below_alloc | apply pw_below_drewN | apply below_drew1 | refine below_set ?_ GE256.out) | exact HB.out)) hb); clear HO_7; clear HO_11; clear BK256; clear HB; have HO_7 := n0_; have HO_11 := n1_; have BK256 := n2_; have HB := n3_; clear n0_ n1_ n2_ n3_; (try clear hb); (try clear hb2); (try clear hk); (try clear hi)))
                  repeat (go_quiet (first | (go_at_call 12; (with_reducible refine (cotterellaw34_awake.calls k2  t276 _ A75.out).mono ?_); rintro e w77 ⟨rfl, hb⟩; have n0_ := Aside0.mk (Kd.R_below (by (with_reducible repeat (first | apply Kd.R_alloc | apply Kd.R_drewN | apply Kd.R_drew)); exact HO_7.out) hb); have n1_ := Aside0.mk (Kd.R_below (by (with_reducible repeat (first | apply Kd.R_alloc | apply Kd.R_drewN | apply Kd.R_drew)); exact HO_11.out) hb); have n2_ := Aside0.mk (blk_below (g := gb256) (o := .cells #[.int .u64 a2_0, .int .u32 a2_1, .int .i64 a2_2] 25 (0, 0)) (by (with_reducible repeat (first | refine blk_drewN ?_ _ | refine blk_drew ?_ | refine blk_alloc ?_ _)); exact BK256.out) hb); have n3_ := Aside0.mk (below_step (by repeat (first | (with_reducible first | exact HB.out | apply below_alloc | apply pw_below_drewN | apply below_drew1 | refine below_set ?_ GE256.out) | exact HB.out)) hb); clear HO_7; clear HO_11; clear BK256; clear HB; have HO_7 := n0_; have HO_11 := n1_; have BK256 := n2_; have HB := n3_; clear n0_ n1_ n2_ n3_; (try clear hb); (try clear hb2); (try clear hk); (try clear hi))); try go_wp2_with (first | (go_at_call 12; (with_reducible refine (cotterellaw34_awake.calls k2  t276 _ A75.out).mono ?_); rintro e w77 ⟨rfl, hb⟩; have n0_ := Aside0.mk (Kd.R_below (by (with_reducible repeat (first | apply Kd.R_alloc | apply Kd.R_drewN | apply Kd.R_drew)); exact HO_7.out) hb); have n1_ := Aside0.mk (Kd.R_below (by (with_reducible repeat (first | apply Kd.R_alloc | apply Kd.R_drewN | apply Kd.R_drew)); exact HO_11.out) hb); have n2_ := Aside0.mk (blk_below (g := gb256) (o := .cells #[.int .u64 a2_0, .int .u32 a2_1, .int .i64 a2_2] 25 (0, 0)) (by (with_reducible repeat (first | refine blk_drewN ?_ _ | refine blk_drew ?_ | refine blk_alloc ?_ _)); exact BK256.out) hb); have n3_ := Aside0.mk (below_step (by repeat (first | (with_reducible first | exact HB.out | apply below_alloc | apply pw_below_drewN | apply below_drew1 | refine below_set ?_ GE256.out) | exact HB.out)) hb); clear HO_7; clear HO_11; clear BK256; clear HB; have HO_7 := n0_; have HO_11 := n1_; have BK256 := n2_; have HB := n3_; clear n0_ n1_ n2_ n3_; (try clear hb); (try clear hb2); (try clear hk); (try clear hi))))
                  go_ret
                  exact ⟨by first | rfl | (simp [errW_none, errW_some] <;> rfl) | (simp [*, errW_none, errW_some] <;> rfl), by repeat (first | (with_reducible first | exact HB.out | apply below_alloc | apply pw_below_drewN | apply below_drew1 | refine below_set ?_ GE256.out) | exact HB.out)⟩
        · rw [if_neg c21] at H
          have c21b0 : ((t266.length : Int) == a2_2) = false := beq_eq_false_iff_ne.mpr c21
          have c21b1 : ((t266.length : Int) != a2_2) = true := bne_iff_ne.mpr c21
          obtain rfl := Option.some.inj H
          have hcz78_0 : wc.cell? ⟨gb256, 0, none⟩ = some (.int .u64 a2_0) := (blk_cell BK256.out 0).trans rfl
          have hcz78_1 : wc.cell? ⟨gb256, 1, none⟩ = some (.int .u32 a2_1) := (blk_cell BK256.out 1).trans rfl
          have hcz78_2 : wc.cell? ⟨gb256, 2, none⟩ = some (.int .i64 a2_2) := (blk_cell BK256.out 2).trans rfl
          have hfz78_0 := blk_frozen BK256.out 0
          have hfz78_1 := blk_frozen BK256.out 1
          have hfz78_2 := blk_frozen BK256.out 2
          go_wp2_with (first | (go_at_call 17; (with_reducible refine (cotterellaw34_memory.calls kj3 a2_0 a2_1 a2_2 t260 _ A18.out).mono ?_); rintro e w79 ⟨v261, rfl, ho0, hb⟩; have n0_ := Aside0.mk (Kd.R_lower ho0 (below_size (by repeat (first | (with_reducible first | exact HB.out | apply below_alloc | apply pw_below_drewN | apply below_drew1 | refine below_set ?_ GE256.out) | exact HB.out)))); have n1_ := Aside0.mk (blk_below (g := gb256) (o := .cells #[.int .u64 a2_0, .int .u32 a2_1, .int .i64 a2_2] 25 (0, 0)) (by (with_reducible repeat (first | refine blk_drewN ?_ _ | refine blk_drew ?_ | refine blk_alloc ?_ _)); exact BK256.out) hb); have n2_ := Aside0.mk (below_step (by repeat (first | (with_reducible first | exact HB.out | apply below_alloc | apply pw_below_drewN | apply below_drew1 | refine below_set ?_ GE256.out) | exact HB.out)) hb); clear BK256; clear HB; have HO262 := n0_; have BK256 := n1_; have HB := n2_; clear n0_ n1_ n2_; (try clear hb); (try clear hb2); (try clear hk); (try clear hi); (try clear ho0); have hcz80_0 : w79.cell? ⟨gb256, 0, none⟩ = some (.int .u64 a2_0) := (blk_cell BK256.out 0).trans rfl; have hcz80_1 : w79.cell? ⟨gb256, 1, none⟩ = some (.int .u32 a2_1) := (blk_cell BK256.out 1).trans rfl; have hcz80_2 : w79.cell? ⟨gb256, 2, none⟩ = some (.int .i64 a2_2) := (blk_cell BK256.out 2).trans rfl; have hfz80_0 := blk_frozen BK256.out 0; have hfz80_1 := blk_frozen BK256.out 1; have hfz80_2 := blk_frozen BK256.out 2) | (go_at_call 13; (with_reducible refine (fwd_Find.calls kj3 _ _ l0 _ _ l1 a2_0 a2_1 a2_2 t263 t264 t265 _ ?side1 ?side2 ?side3 ?side4 A19.out).mono ?_); (case side1 => repeat (first | exact (Kd.C_below HR0.out HB.out) | (with_reducible refine Kd.C_alloc ?_ _) | (with_reducible refine Kd.C_drewN ?_ _) | (with_reducible refine Kd.C_drew ?_))); (case side2 => exact HC0.out); (case side3 => repeat (first | exact (Kd.C_below HR1.out HB.out) | (with_reducible refine Kd.C_alloc ?_ _) | (with_reducible refine Kd.C_drewN ?_ _) | (with_reducible refine Kd.C_drew ?_))); (case side4 => exact HC1.out); rintro e w81 ⟨rfl, hb⟩; have n0_ := Aside0.mk (Kd.R_below (by (with_reducible repeat (first | apply Kd.R_alloc | apply Kd.R_drewN | apply Kd.R_drew)); exact HO262.out) hb); have n1_ := Aside0.mk (blk_below (g := gb256) (o := .cells #[.int .u64 a2_0, .int .u32 a2_1, .int .i64 a2_2] 25 (0, 0)) (by (with_reducible repeat (first | refine blk_drewN ?_ _ | refine blk_drew ?_ | refine blk_alloc ?_ _)); exact BK256.out) hb); have n2_ := Aside0.mk (below_step (by repeat (first | (with_reducible first | exact HB.out | apply below_alloc | apply pw_below_drewN | apply below_drew1 | refine below_set ?_ GE256.out) | exact HB.out)) hb); clear HO262; clear BK256; clear HB; have HO262 := n0_; have BK256 := n1_; have HB := n2_; clear n0_ n1_ n2_; (try clear hb); (try clear hb2); (try clear hk); (try clear hi); have hcz82_0 : w81.cell? ⟨gb256, 0, none⟩ = some (.int .u64 a2_0) := (blk_cell BK256.out 0).trans rfl; have hcz82_1 : w81.cell? ⟨gb256, 1, none⟩ = some (.int .u32 a2_1) := (blk_cell BK256.out 1).trans rfl; have hcz82_2 : w81.cell? ⟨gb256, 2, none⟩ = some (.int .i64 a2_2) := (blk_cell BK256.out 2).trans rfl; have hfz82_0 := blk_frozen BK256.out 0; have hfz82_1 := blk_frozen BK256.out 1; have hfz82_2 := blk_frozen BK256.out 2; obtain ⟨Ao83, co83, eo83⟩ := Kd.R_slice HO262.out; subst eo83) | (go_at_call 19; (with_reducible refine (fwd_Bytes.calls kj3 _ _ l0 _ _ l1 _ _ t260 a2_0 a2_1 a2_2 t266 _ ?side1 ?side2 ?side3 ?side4 ?side5 ?side6 A20.out).mono ?_); (case side1 => repeat (first | exact (Kd.C_below HR0.out HB.out) | (with_reducible refine Kd.C_alloc ?_ _) | (with_reducible refine Kd.C_drewN ?_ _) | (with_reducible refine Kd.C_drew ?_))); (case side2 => exact HC0.out); (case side3 => repeat (first | exact (Kd.C_below HR1.out HB.out) | (with_reducible refine Kd.C_alloc ?_ _) | (with_reducible refine Kd.C_drewN ?_ _) | (with_reducible refine Kd.C_drew ?_))); (case side4 => exact HC1.out); (case side5 => repeat (first | exact (Kd.R_reads' HO262.out).2.2 | (with_reducible refine Kd.C_alloc ?_ _) | (with_reducible refine Kd.C_drewN ?_ _) | (with_reducible refine Kd.C_drew ?_))); (case side6 => exact (Kd.R_reads' HO262.out).2.1); rintro e w84 ⟨v267, rfl, ho0, hb⟩; have n0_ := Aside0.mk (Kd.R_elder' (by (with_reducible repeat (first | apply Kd.R_alloc | apply Kd.R_drewN | apply Kd.R_drew)); exact HO262.out) (Kd.R_base ho0) hb); have n1_ := Aside0.mk (Kd.R_lower (Kd.R_new' ho0 (Kd.R_lt (by (with_reducible repeat (first | apply Kd.R_alloc | apply Kd.R_drewN | apply Kd.R_drew)); exact HO262.out))) (below_size (by repeat (first | (with_reducible first | exact HB.out | apply below_alloc | apply pw_below_drewN | apply below_drew1 | refine below_set ?_ GE256.out) | exact HB.out)))); have n2_ := Aside0.mk (blk_below (g := gb256) (o := .cells #[.int .u64 a2_0, .int .u32 a2_1, .int .i64 a2_2] 25 (0, 0)) (by (with_reducible repeat (first | refine blk_drewN ?_ _ | refine blk_drew ?_ | refine blk_alloc ?_ _)); exact BK256.out) hb); have n3_ := Aside0.mk (below_step (by repeat (first | (with_reducible first | exact HB.out | apply below_alloc | apply pw_below_drewN | apply below_drew1 | refine below_set ?_ GE256.out) | exact HB.out)) hb); clear HO262; clear BK256; clear HB; have HO262 := n0_; have HO268 := n1_; have BK256 := n2_; have HB := n3_; clear n0_ n1_ n2_ n3_; (try clear hb); (try clear hb2); (try clear hk); (try clear hi); (try clear ho0); obtain ⟨Ao85, co85, eo85⟩ := Kd.R_slice HO268.out; subst eo85; have hcz86_0 : w84.cell? ⟨gb256, 0, none⟩ = some (.int .u64 a2_0) := (blk_cell BK256.out 0).trans rfl; have hcz86_1 : w84.cell? ⟨gb256, 1, none⟩ = some (.int .u32 a2_1) := (blk_cell BK256.out 1).trans rfl; have hcz86_2 : w84.cell? ⟨gb256, 2, none⟩ = some (.int .i64 a2_2) := (blk_cell BK256.out 2).trans rfl; have hfz86_0 := blk_frozen BK256.out 0; have hfz86_1 := blk_frozen BK256.out 1; have hfz86_2 := blk_frozen BK256.out 2))
          repeat (go_quiet (first | (go_at_call 17; (with_reducible refine (cotterellaw34_memory.calls kj3 a2_0 a2_1 a2_2 t260 _ A18.out).mono ?_); rintro e w79 ⟨v261, rfl, ho0, hb⟩; have n0_ := Aside0.mk (Kd.R_lower ho0 (below_size (by repeat (first | (with_reducible first | exact HB.out | apply below_alloc | apply pw_below_drewN | apply below_drew1 | refine below_set ?_ GE256.out) | exact HB.out)))); have n1_ := Aside0.mk (blk_below (g := gb256) (o := .cells #[.int .u64 a2_0, .int .u32 a2_1, .int .i64 a2_2] 25 (0, 0)) (by (with_reducible repeat (first | refine blk_drewN ?_ _ | refine blk_drew ?_ | refine blk_alloc ?_ _)); exact BK256.out) hb); have n2_ := Aside0.mk (below_step (by repeat (first | (with_reducible first | exact HB.out | apply below_alloc | apply pw_below_drewN | apply below_drew1 | refine below_set ?_ GE256.out) | exact HB.out)) hb); clear BK256; clear HB; have HO262 := n0_; have BK256 := n1_; have HB := n2_; clear n0_ n1_ n2_; (try clear hb); (try clear hb2); (try clear hk); (try clear hi); (try clear ho0); have hcz80_0 : w79.cell? ⟨gb256, 0, none⟩ = some (.int .u64 a2_0) := (blk_cell BK256.out 0).trans rfl; have hcz80_1 : w79.cell? ⟨gb256, 1, none⟩ = some (.int .u32 a2_1) := (blk_cell BK256.out 1).trans rfl; have hcz80_2 : w79.cell? ⟨gb256, 2, none⟩ = some (.int .i64 a2_2) := (blk_cell BK256.out 2).trans rfl; have hfz80_0 := blk_frozen BK256.out 0; have hfz80_1 := blk_frozen BK256.out 1; have hfz80_2 := blk_frozen BK256.out 2) | (go_at_call 13; (with_reducible refine (fwd_Find.calls kj3 _ _ l0 _ _ l1 a2_0 a2_1 a2_2 t263 t264 t265 _ ?side1 ?side2 ?side3 ?side4 A19.out).mono ?_); (case side1 => repeat (first | exact (Kd.C_below HR0.out HB.out) | (with_reducible refine Kd.C_alloc ?_ _) | (with_reducible refine Kd.C_drewN ?_ _) | (with_reducible refine Kd.C_drew ?_))); (case side2 => exact HC0.out); (case side3 => repeat (first | exact (Kd.C_below HR1.out HB.out) | (with_reducible refine Kd.C_alloc ?_ _) | (with_reducible refine Kd.C_drewN ?_ _) | (with_reducible refine Kd.C_drew ?_))); (case side4 => exact HC1.out); rintro e w81 ⟨rfl, hb⟩; have n0_ := Aside0.mk (Kd.R_below (by (with_reducible repeat (first | apply Kd.R_alloc | apply Kd.R_drewN | apply Kd.R_drew)); exact HO262.out) hb); have n1_ := Aside0.mk (blk_below (g := gb256) (o := .cells #[.int .u64 a2_0, .int .u32 a2_1, .int .i64 a2_2] 25 (0, 0)) (by (with_reducible repeat (first | refine blk_drewN ?_ _ | refine blk_drew ?_ | refine blk_alloc ?_ _)); exact BK256.out) hb); have n2_ := Aside0.mk (below_step (by repeat (first | (with_reducible first | exact HB.out | apply below_alloc | apply pw_below_drewN | apply below_drew1 | refine below_set ?_ GE256.out) | exact HB.out)) hb); clear HO262; clear BK256; clear HB; have HO262 := n0_; have BK256 := n1_; have HB := n2_; clear n0_ n1_ n2_; (try clear hb); (try clear hb2); (try clear hk); (try clear hi); have hcz82_0 : w81.cell? ⟨gb256, 0, none⟩ = some (.int .u64 a2_0) := (blk_cell BK256.out 0).trans rfl; have hcz82_1 : w81.cell? ⟨gb256, 1, none⟩ = some (.int .u32 a2_1) := (blk_cell BK256.out 1).trans rfl; have hcz82_2 : w81.cell? ⟨gb256, 2, none⟩ = some (.int .i64 a2_2) := (blk_cell BK256.out 2).trans rfl; have hfz82_0 := blk_frozen BK256.out 0; have hfz82_1 := blk_frozen BK256.out 1; have hfz82_2 := blk_frozen BK256.out 2; obtain ⟨Ao83, co83, eo83⟩ := Kd.R_slice HO262.out; subst eo83) | (go_at_call 19; (with_reducible refine (fwd_Bytes.calls kj3 _ _ l0 _ _ l1 _ _ t260 a2_0 a2_1 a2_2 t266 _ ?side1 ?side2 ?side3 ?side4 ?side5 ?side6 A20.out).mono ?_); (case side1 => repeat (first | exact (Kd.C_below HR0.out HB.out) | (with_reducible refine Kd.C_alloc ?_ _) | (with_reducible refine Kd.C_drewN ?_ _) | (with_reducible refine Kd.C_drew ?_))); (case side2 => exact HC0.out); (case side3 => repeat (first | exact (Kd.C_below HR1.out HB.out) | (with_reducible refine Kd.C_alloc ?_ _) | (with_reducible refine Kd.C_drewN ?_ _) | (with_reducible refine Kd.C_drew ?_))); (case side4 => exact HC1.out); (case side5 => repeat (first | exact (Kd.R_reads' HO262.out).2.2 | (with_reducible refine Kd.C_alloc ?_ _) | (with_reducible refine Kd.C_drewN ?_ _) | (with_reducible refine Kd.C_drew ?_))); (case side6 => exact (Kd.R_reads' HO262.out).2.1); rintro e w84 ⟨v267, rfl, ho0, hb⟩; have n0_ := Aside0.mk (Kd.R_elder' (by (with_reducible repeat (first | apply Kd.R_alloc | apply Kd.R_drewN | apply Kd.R_drew)); exact HO262.out) (Kd.R_base ho0) hb); have n1_ := Aside0.mk (Kd.R_lower (Kd.R_new' ho0 (Kd.R_lt (by (with_reducible repeat (first | apply Kd.R_alloc | apply Kd.R_drewN | apply Kd.R_drew)); exact HO262.out))) (below_size (by repeat (first | (with_reducible first | exact HB.out | apply below_alloc | apply pw_below_drewN | apply below_drew1 | refine below_set ?_ GE256.out) | exact HB.out)))); have n2_ := Aside0.mk (blk_below (g := gb256) (o := .cells #[.int .u64 a2_0, .int .u32 a2_1, .int .i64 a2_2] 25 (0, 0)) (by (with_reducible repeat (first | refine blk_drewN ?_ _ | refine blk_drew ?_ | refine blk_alloc ?_ _)); exact BK256.out) hb); have n3_ := Aside0.mk (below_step (by repeat (first | (with_reducible first | exact HB.out | apply below_alloc | apply pw_below_drewN | apply below_drew1 | refine below_set ?_ GE256.out) | exact HB.out)) hb); clear HO262; clear BK256; clear HB; have HO262 := n0_; have HO268 := n1_; have BK256 := n2_; have HB := n3_; clear n0_ n1_ n2_ n3_; (try clear hb); (try clear hb2); (try clear hk); (try clear hi); (try clear ho0); obtain ⟨Ao85, co85, eo85⟩ := Kd.R_slice HO268.out; subst eo85; have hcz86_0 : w84.cell? ⟨gb256, 0, none⟩ = some (.int .u64 a2_0) := (blk_cell BK256.out 0).trans rfl; have hcz86_1 : w84.cell? ⟨gb256, 1, none⟩ = some (.int .u32 a2_1) := (blk_cell BK256.out 1).trans rfl; have hcz86_2 : w84.cell? ⟨gb256, 2, none⟩ = some (.int .i64 a2_2) := (blk_cell BK256.out 2).trans rfl; have hfz86_0 := blk_frozen BK256.out 0; have hfz86_1 := blk_frozen BK256.out 1; have hfz86_2 := blk_frozen BK256.out 2)); try go_wp2_with (first | (go_at_call 17; (with_reducible refine (cotterellaw34_memory.calls kj3 a2_0 a2_1 a2_2 t260 _ A18.out).mono ?_); rintro e w79 ⟨v261, rfl, ho0, hb⟩; have n0_ := Aside0.mk (Kd.R_lower ho0 (below_size (by repeat (first | (with_reducible first | exact HB.out | apply below_alloc | apply pw_below_drewN | apply below_drew1 | refine below_set ?_ GE256.out) | exact HB.out)))); have n1_ := Aside0.mk (blk_below (g := gb256) (o := .cells #[.int .u64 a2_0, .int .u32 a2_1, .int .i64 a2_2] 25 (0, 0)) (by (with_reducible repeat (first | refine blk_drewN ?_ _ | refine blk_drew ?_ | refine blk_alloc ?_ _)); exact BK256.out) hb); have n2_ := Aside0.mk (below_step (by repeat (first | (with_reducible first | exact HB.out | apply below_alloc | apply pw_below_drewN | apply below_drew1 | refine below_set ?_ GE256.out) | exact HB.out)) hb); clear BK256; clear HB; have HO262 := n0_; have BK256 := n1_; have HB := n2_; clear n0_ n1_ n2_; (try clear hb); (try clear hb2); (try clear hk); (try clear hi); (try clear ho0); have hcz80_0 : w79.cell? ⟨gb256, 0, none⟩ = some (.int .u64 a2_0) := (blk_cell BK256.out 0).trans rfl; have hcz80_1 : w79.cell? ⟨gb256, 1, none⟩ = some (.int .u32 a2_1) := (blk_cell BK256.out 1).trans rfl; have hcz80_2 : w79.cell? ⟨gb256, 2, none⟩ = some (.int .i64 a2_2) := (blk_cell BK256.out 2).trans rfl; have hfz80_0 := blk_frozen BK256.out 0; have hfz80_1 := blk_frozen BK256.out 1; have hfz80_2 := blk_frozen BK256.out 2) | (go_at_call 13; (with_reducible refine (fwd_Find.calls kj3 _ _ l0 _ _ l1 a2_0 a2_1 a2_2 t263 t264 t265 _ ?side1 ?side2 ?side3 ?side4 A19.out).mono ?_); (case side1 => repeat (first | exact (Kd.C_below HR0.out HB.out) | (with_reducible refine Kd.C_alloc ?_ _) | (with_reducible refine Kd.C_drewN ?_ _) | (with_reducible refine Kd.C_drew ?_))); (case side2 => exact HC0.out); (case side3 => repeat (first | exact (Kd.C_below HR1.out HB.out) | (with_reducible refine Kd.C_alloc ?_ _) | (with_reducible refine Kd.C_drewN ?_ _) | (with_reducible refine Kd.C_drew ?_))); (case side4 => exact HC1.out); rintro e w81 ⟨rfl, hb⟩; have n0_ := Aside0.mk (Kd.R_below (by (with_reducible repeat (first | apply Kd.R_alloc | apply Kd.R_drewN | apply Kd.R_drew)); exact HO262.out) hb); have n1_ := Aside0.mk (blk_below (g := gb256) (o := .cells #[.int .u64 a2_0, .int .u32 a2_1, .int .i64 a2_2] 25 (0, 0)) (by (with_reducible repeat (first | refine blk_drewN ?_ _ | refine blk_drew ?_ | refine blk_alloc ?_ _)); exact BK256.out) hb); have n2_ := Aside0.mk (below_step (by repeat (first | (with_reducible first | exact HB.out | apply below_alloc | apply pw_below_drewN | apply below_drew1 | refine below_set ?_ GE256.out) | exact HB.out)) hb); clear HO262; clear BK256; clear HB; have HO262 := n0_; have BK256 := n1_; have HB := n2_; clear n0_ n1_ n2_; (try clear hb); (try clear hb2); (try clear hk); (try clear hi); have hcz82_0 : w81.cell? ⟨gb256, 0, none⟩ = some (.int .u64 a2_0) := (blk_cell BK256.out 0).trans rfl; have hcz82_1 : w81.cell? ⟨gb256, 1, none⟩ = some (.int .u32 a2_1) := (blk_cell BK256.out 1).trans rfl; have hcz82_2 : w81.cell? ⟨gb256, 2, none⟩ = some (.int .i64 a2_2) := (blk_cell BK256.out 2).trans rfl; have hfz82_0 := blk_frozen BK256.out 0; have hfz82_1 := blk_frozen BK256.out 1; have hfz82_2 := blk_frozen BK256.out 2; obtain ⟨Ao83, co83, eo83⟩ := Kd.R_slice HO262.out; subst eo83) | (go_at_call 19; (with_reducible refine (fwd_Bytes.calls kj3 _ _ l0 _ _ l1 _ _ t260 a2_0 a2_1 a2_2 t266 _ ?side1 ?side2 ?side3 ?side4 ?side5 ?side6 A20.out).mono ?_); (case side1 => repeat (first | exact (Kd.C_below HR0.out HB.out) | (with_reducible refine Kd.C_alloc ?_ _) | (with_reducible refine Kd.C_drewN ?_ _) | (with_reducible refine Kd.C_drew ?_))); (case side2 => exact HC0.out); (case side3 => repeat (first | exact (Kd.C_below HR1.out HB.out) | (with_reducible refine Kd.C_alloc ?_ _) | (with_reducible refine Kd.C_drewN ?_ _) | (with_reducible refine Kd.C_drew ?_))); (case side4 => exact HC1.out); (case side5 => repeat (first | exact (Kd.R_reads' HO262.out).2.2 | (with_reducible refine Kd.C_alloc ?_ _) | (with_reducible refine Kd.C_drewN ?_ _) | (with_reducible refine Kd.C_drew ?_))); (case side6 => exact (Kd.R_reads' HO262.out).2.1); rintro e w84 ⟨v267, rfl, ho0, hb⟩; have n0_ := Aside0.mk (Kd.R_elder' (by (with_reducible repeat (first | apply Kd.R_alloc | apply Kd.R_drewN | apply Kd.R_drew)); exact HO262.out) (Kd.R_base ho0) hb); have n1_ := Aside0.mk (Kd.R_lower (Kd.R_new' ho0 (Kd.R_lt (by (with_reducible repeat (first | apply Kd.R_alloc | apply Kd.R_drewN | apply Kd.R_drew)); exact HO262.out))) (below_size (by repeat (first | (with_reducible first | exact HB.out | apply below_alloc | apply pw_below_drewN | apply below_drew1 | refine below_set ?_ GE256.out) | exact HB.out)))); have n2_ := Aside0.mk (blk_below (g := gb256) (o := .cells #[.int .u64 a2_0, .int .u32 a2_1, .int .i64 a2_2] 25 (0, 0)) (by (with_reducible repeat (first | refine blk_drewN ?_ _ | refine blk_drew ?_ | refine blk_alloc ?_ _)); exact BK256.out) hb); have n3_ := Aside0.mk (below_step (by repeat (first | (with_reducible first | exact HB.out | apply below_alloc | apply pw_below_drewN | apply below_drew1 | refine below_set ?_ GE256.out) | exact HB.out)) hb); clear HO262; clear BK256; clear HB; have HO262 := n0_; have HO268 := n1_; have BK256 := n2_; have HB := n3_; clear n0_ n1_ n2_ n3_; (try clear hb); (try clear hb2); (try clear hk); (try clear hi); (try clear ho0); obtain ⟨Ao85, co85, eo85⟩ := Kd.R_slice HO268.out; subst eo85; have hcz86_0 : w84.cell? ⟨gb256, 0, none⟩ = some (.int .u64 a2_0) := (blk_cell BK256.out 0).trans rfl; have hcz86_1 : w84.cell? ⟨gb256, 1, none⟩ = some (.int .u32 a2_1) := (blk_cell BK256.out 1).trans rfl; have hcz86_2 : w84.cell? ⟨gb256, 2, none⟩ = some (.int .i64 a2_2) := (blk_cell BK256.out 2).trans rfl; have hfz86_0 := blk_frozen BK256.out 0; have hfz86_1 := blk_frozen BK256.out 1; have hfz86_2 := blk_frozen BK256.out 2)))
          go_ret
          exact ⟨by first | rfl | (simp [errW_none, errW_some] <;> rfl) | (simp [*, errW_none, errW_some] <;> rfl), by repeat (first | (with_reducible first | exact HB.out | apply below_alloc | apply pw_below_drewN | apply below_drew1 | refine below_set ?_ GE256.out) | exact HB.out)⟩

end Go.Proofs.Ytaeglelhoenfgaa.PFwd
