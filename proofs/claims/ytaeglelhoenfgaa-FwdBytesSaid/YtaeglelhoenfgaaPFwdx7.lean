/- What the code's functions come to: texts printed by a program over a donor (a text of the program with other bodies in places) and turned to this seat's numbers; what the donor differs in is proved by hand. No condition but those that each statement names. -/
import Derived.Test.YtaeglelhoenfgaaPFwdx0
import Derived.Test.YtaeglelhoenfgaaPFwdx1
import Derived.Test.YtaeglelhoenfgaaPFwdx2
import Derived.Test.YtaeglelhoenfgaaPFwdx3
import Derived.Test.YtaeglelhoenfgaaPFwdx6
namespace Go.Proofs.Ytaeglelhoenfgaa.PFwd
open Go.RowKit Go.Proofs.YtaeglelhoenfgaaW.PrintWords Go.Proofs.YtaeglelhoenfgaaW.PrintLast Go.Proofs.YtaeglelhoenfgaaW.PrintMore
attribute [local go_sem] max2_int min2_int max_two min_two max_three min_three max_four min_four   -- for this text's walks alone
set_option linter.unusedVariables false
set_option linter.unusedSimpArgs false

/-! ### cotterellaw34_FwdAligned: function 5 -/
mutual
def cotterellaw34_FwdAligned.j0 : Nat → Int → Bool → Int → Int → Int → Int → Int → Int → Option (Bool)
  | 0, _, _, _, _, _, _, _, _ => none
  | k + 1, x2, x37, x171000, x171001, x171002, x172000, x172001, x172002 => if x37 = true then ((cotterellaw34_awake.f k).bind fun t174 => (some t174)) else ((fwd_Find.f k (([(⟨1, x172001, x2, x172002, true⟩ : S37)] : List (S37))) ([] : List (S48)) 2 x171001 x171002).bind fun bt178 => (if x172002 ≥ x171002 then (if bt178.1 = 2 then (cotterellaw34_FwdAligned.j1 k bt178.1 true x171000 x171001 x171002 x172000 x172001 x172002) else (if bt178.1 = 1 then ((fwd_Covers.f x171001 x171002 x172001 x172002).bind fun t181 => (if t181 = true then (if bt178.2.2 = 1 then ((fwd_Cut.f x2 x172001 x171001 x171002).bind fun t182 => (cotterellaw34_FwdAligned.j1 k bt178.1 (bt178.2.1 != t182) x171000 x171001 x171002 x172000 x172001 x172002)) else (cotterellaw34_FwdAligned.j1 k bt178.1 true x171000 x171001 x171002 x172000 x172001 x172002)) else (cotterellaw34_FwdAligned.j1 k bt178.1 true x171000 x171001 x171002 x172000 x172001 x172002))) else (cotterellaw34_FwdAligned.j1 k bt178.1 false x171000 x171001 x171002 x172000 x172001 x172002))) else (if bt178.1 = 1 then ((fwd_Covers.f x171001 x171002 x172001 x172002).bind fun t183 => (if t183 = true then (if bt178.2.2 = 1 then ((fwd_Cut.f x2 x172001 x171001 x171002).bind fun t184 => (cotterellaw34_FwdAligned.j1 k bt178.1 (bt178.2.1 != t184) x171000 x171001 x171002 x172000 x172001 x172002)) else (cotterellaw34_FwdAligned.j1 k bt178.1 true x171000 x171001 x171002 x172000 x172001 x172002)) else (cotterellaw34_FwdAligned.j1 k bt178.1 true x171000 x171001 x171002 x172000 x172001 x172002))) else (cotterellaw34_FwdAligned.j1 k bt178.1 false x171000 x171001 x171002 x172000 x172001 x172002))))
def cotterellaw34_FwdAligned.j1 : Nat → Int → Bool → Int → Int → Int → Int → Int → Int → Option (Bool)
  | 0, _, _, _, _, _, _, _, _ => none
  | k + 1, x7, x95, x171000, x171001, x171002, x172000, x172001, x172002 => if x95 = true then (some false) else ((cotterellaw34_share.f x171000 x171001 x171002 x172000 x172001 x172002).bind fun t185 => (if ((x7 != 0) == t185) = true then ((cotterellaw34_awake.f k).bind fun t186 => (some t186)) else (some false)))
end
def cotterellaw34_FwdAligned.f (k : Nat) (a0_0 : Int) (a0_1 : Int) (a0_2 : Int) (a1_0 : Int) (a1_1 : Int) (a1_2 : Int) (a2 : Int) : Option (Bool) := (cotterelref34_Size.f a0_2).bind fun t172 => (if t172 = true then ((cotterelref34_Size.f a1_2).bind fun t173 => (if t173 = true then (if ((a0_2) % 4294967296) = 0 then (none) else (if (Int.tmod a0_1 ((a0_2) % 4294967296)) = 0 then (if ((a1_2) % 4294967296) = 0 then (none) else (cotterellaw34_FwdAligned.j0 k a2 ((Int.tmod a1_1 ((a1_2) % 4294967296)) != 0) a0_0 a0_1 a0_2 a1_0 a1_1 a1_2)) else (cotterellaw34_FwdAligned.j0 k a2 true a0_0 a0_1 a0_2 a1_0 a1_1 a1_2))) else (cotterellaw34_FwdAligned.j0 k a2 true a0_0 a0_1 a0_2 a1_0 a1_1 a1_2))) else (cotterellaw34_FwdAligned.j0 k a2 true a0_0 a0_1 a0_2 a1_0 a1_1 a1_2))
theorem cotterellaw34_FwdAligned.mono_l : ∀ k, (∀ y0 y1 y2 y3 y4 y5 y6 y7, LeO (cotterellaw34_FwdAligned.j0 k y0 y1 y2 y3 y4 y5 y6 y7) (cotterellaw34_FwdAligned.j0 (k + 1) y0 y1 y2 y3 y4 y5 y6 y7)) ∧ (∀ y0 y1 y2 y3 y4 y5 y6 y7, LeO (cotterellaw34_FwdAligned.j1 k y0 y1 y2 y3 y4 y5 y6 y7) (cotterellaw34_FwdAligned.j1 (k + 1) y0 y1 y2 y3 y4 y5 y6 y7))
  | 0 => ⟨fun _ _ _ _ _ _ _ _ r h => by simp [cotterellaw34_FwdAligned.j0] at h, fun _ _ _ _ _ _ _ _ r h => by simp [cotterellaw34_FwdAligned.j1] at h⟩
  | k + 1 => by
    obtain ⟨ih0, ih1⟩ := cotterellaw34_FwdAligned.mono_l k
    refine ⟨?_, ?_⟩
    · intro y0 y1 y2 y3 y4 y5 y6 y7
      unfold cotterellaw34_FwdAligned.j0
      repeat' first
      | (with_reducible exact ih0 _ _ _ _ _ _ _ _)
      | (with_reducible exact ih1 _ _ _ _ _ _ _ _)
      | (with_reducible exact cotterellaw34_awake.mono _)
      | (with_reducible exact fwd_Find.mono _ _ _ _ _ _)
      | (with_reducible exact LeO.refl _)
      | (with_reducible exact LeO.none _)
      | (with_reducible refine LeO.ite ?_ ?_)
      | (with_reducible refine LeO.bind ?_ (fun _ => ?_))
      | exact ih0 _ _ _ _ _ _ _ _
      | exact ih1 _ _ _ _ _ _ _ _
      | exact cotterellaw34_awake.mono _
      | exact fwd_Find.mono _ _ _ _ _ _
      | exact LeO.none _
      | refine LeO.ite ?_ ?_
      | refine LeO.bind ?_ (fun _ => ?_)
    · intro y0 y1 y2 y3 y4 y5 y6 y7
      unfold cotterellaw34_FwdAligned.j1
      repeat' first
      | (with_reducible exact ih0 _ _ _ _ _ _ _ _)
      | (with_reducible exact ih1 _ _ _ _ _ _ _ _)
      | (with_reducible exact cotterellaw34_awake.mono _)
      | (with_reducible exact fwd_Find.mono _ _ _ _ _ _)
      | (with_reducible exact LeO.refl _)
      | (with_reducible exact LeO.none _)
      | (with_reducible refine LeO.ite ?_ ?_)
      | (with_reducible refine LeO.bind ?_ (fun _ => ?_))
      | exact ih0 _ _ _ _ _ _ _ _
      | exact ih1 _ _ _ _ _ _ _ _
      | exact cotterellaw34_awake.mono _
      | exact fwd_Find.mono _ _ _ _ _ _
      | exact LeO.none _
      | refine LeO.ite ?_ ?_
      | refine LeO.bind ?_ (fun _ => ?_)
theorem cotterellaw34_FwdAligned.mono : ∀ a0 a1 a2 a3 a4 a5 a6 k, LeO (cotterellaw34_FwdAligned.f k a0 a1 a2 a3 a4 a5 a6) (cotterellaw34_FwdAligned.f (k + 1) a0 a1 a2 a3 a4 a5 a6) := by
  intro a0 a1 a2 a3 a4 a5 a6 k
  obtain ⟨ih0, ih1⟩ := cotterellaw34_FwdAligned.mono_l k
  unfold cotterellaw34_FwdAligned.f
  repeat' first
      | (with_reducible exact ih0 _ _ _ _ _ _ _ _)
      | (with_reducible exact ih1 _ _ _ _ _ _ _ _)
      | (with_reducible exact cotterellaw34_awake.mono _)
      | (with_reducible exact fwd_Find.mono _ _ _ _ _ _)
      | (with_reducible exact LeO.refl _)
      | (with_reducible exact LeO.none _)
      | (with_reducible refine LeO.ite ?_ ?_)
      | (with_reducible refine LeO.bind ?_ (fun _ => ?_))
      | exact ih0 _ _ _ _ _ _ _ _
      | exact ih1 _ _ _ _ _ _ _ _
      | exact cotterellaw34_awake.mono _
      | exact fwd_Find.mono _ _ _ _ _ _
      | exact LeO.none _
      | refine LeO.ite ?_ ?_
      | refine LeO.bind ?_ (fun _ => ?_)
set_option maxHeartbeats 8000000 in
set_option maxRecDepth 100000 in
theorem cotterellaw34_FwdAligned.calls (k : Nat) (a0_0 : Int) (a0_1 : Int) (a0_2 : Int) (a1_0 : Int) (a1_1 : Int) (a1_2 : Int) (a2 : Int) (r : Bool) (w : World) (h : cotterellaw34_FwdAligned.f k a0_0 a0_1 a0_2 a1_0 a1_1 a1_2 a2 = some r) :
    Calls Try.prog 5 #[.agg #[.int .u64 a0_0, .int .u32 a0_1, .int .i64 a0_2], .agg #[.int .u64 a1_0, .int .u32 a1_1, .int .i64 a1_2], .int .u32 a2] w fun e w' => e = .returned (.bool r) ∧ Below w.heap.size w w' := by
  have hu25 := Try.underlying25
  have hu37 := Try.underlying37
  have HB := Aside0.mk (Below.refl w.heap.size w)
  have H : ((cotterelref34_Size.f a0_2).bind fun t172 => (if t172 = true then ((cotterelref34_Size.f a1_2).bind fun t173 => (if t173 = true then (if ((a0_2) % 4294967296) = 0 then (none) else (if (Int.tmod a0_1 ((a0_2) % 4294967296)) = 0 then (if ((a1_2) % 4294967296) = 0 then (none) else (cotterellaw34_FwdAligned.j0 k a2 ((Int.tmod a1_1 ((a1_2) % 4294967296)) != 0) a0_0 a0_1 a0_2 a1_0 a1_1 a1_2)) else (cotterellaw34_FwdAligned.j0 k a2 true a0_0 a0_1 a0_2 a1_0 a1_1 a1_2))) else (cotterellaw34_FwdAligned.j0 k a2 true a0_0 a0_1 a0_2 a1_0 a1_1 a1_2))) else (cotterellaw34_FwdAligned.j0 k a2 true a0_0 a0_1 a0_2 a1_0 a1_1 a1_2))) = some r := h
  clear h
  have HC4 := Aside0.mk H
  clear H
  go_enter Try.func5, Try.ntmps5
  go_upto_region 1 with (first | ((with_reducible refine gate_dst (N := 3) rfl ?_); refine box_event ?hg (N := 3) ?hd (cs := #[.int .u64 a0_0, .int .u32 a0_1, .int .i64 a0_2]) (t := 25) ?hr ?_; (case hd => rfl); (case hg => rfl); (case hr => first | (go_simp; done) | (go_simp; rfl)); intro gb170 hg w5 hbox hb; have n0_ := Aside0.mk (below_step (by repeat (first | (with_reducible first | exact HB.out | apply below_alloc | apply pw_below_drewN | apply below_drew1) | exact HB.out)) hb); have n1_ := Aside0.mk (hbox); have n2_ := Aside0.mk ((by rw [hg]; exact (below_size (by repeat (first | (with_reducible first | exact HB.out | apply below_alloc | apply pw_below_drewN | apply below_drew1) | exact HB.out))) : w.heap.size ≤ gb170)); have n3_ := Aside0.mk ((by rw [hg]; exact (below_size (by repeat (first | (with_reducible first | exact HB.out | apply below_alloc | apply pw_below_drewN | apply below_drew1) | exact HB.out))) : w.heap.size ≤ gb170)); clear HB; have HB := n0_; have BK170 := n1_; have GW170 := n2_; have GE170 := n3_; clear n0_ n1_ n2_ n3_; clear hb hbox hg) | ((with_reducible refine gate_dst (N := 4) rfl ?_); refine box_event ?hg (N := 4) ?hd (cs := #[.int .u64 a1_0, .int .u32 a1_1, .int .i64 a1_2]) (t := 25) ?hr ?_; (case hd => rfl); (case hg => rfl); (case hr => first | (go_simp; done) | (go_simp; rfl)); intro gb171 hg w6 hbox hb; have n0_ := Aside0.mk (blk_below (g := gb170) (o := .cells #[.int .u64 a0_0, .int .u32 a0_1, .int .i64 a0_2] 25 (0, 0)) (by (with_reducible repeat (first | refine blk_drewN ?_ _ | refine blk_drew ?_ | refine blk_alloc ?_ _)); exact BK170.out) hb); have n1_ := Aside0.mk (below_step (by repeat (first | (with_reducible first | exact HB.out | apply below_alloc | apply pw_below_drewN | apply below_drew1 | refine below_set ?_ GE170.out) | exact HB.out)) hb); have n2_ := Aside0.mk (hbox); have n3_ := Aside0.mk ((by rw [hg]; exact (below_size (by repeat (first | (with_reducible first | exact HB.out | apply below_alloc | apply pw_below_drewN | apply below_drew1 | refine below_set ?_ GE170.out) | exact HB.out))) : w.heap.size ≤ gb171)); have n4_ := Aside0.mk ((by rw [hg]; exact (below_size (by repeat (first | (with_reducible first | exact HB.out | apply below_alloc | apply pw_below_drewN | apply below_drew1 | refine below_set ?_ GE170.out) | exact HB.out))) : w.heap.size ≤ gb171)); have n5_ := Aside0.mk ((by rw [hg]; exact Nat.ne_of_lt (blk_lt (g := gb170) (o := .cells #[.int .u64 a0_0, .int .u32 a0_1, .int .i64 a0_2] 25 (0, 0)) (by (with_reducible repeat (first | refine blk_drewN ?_ _ | refine blk_drew ?_ | refine blk_alloc ?_ _)); exact BK170.out)) : gb170 ≠ gb171)); have n6_ := Aside0.mk ((by rw [hg]; exact Nat.ne_of_gt (blk_lt (g := gb170) (o := .cells #[.int .u64 a0_0, .int .u32 a0_1, .int .i64 a0_2] 25 (0, 0)) (by (with_reducible repeat (first | refine blk_drewN ?_ _ | refine blk_drew ?_ | refine blk_alloc ?_ _)); exact BK170.out)) : gb171 ≠ gb170)); clear BK170; clear HB; have BK170 := n0_; have HB := n1_; have BK171 := n2_; have GW171 := n3_; have GE171 := n4_; have NB170_171 := n5_; have NB171_170 := n6_; clear n0_ n1_ n2_ n3_ n4_ n5_ n6_; clear hb hbox hg))
  (try simp only [Act.put, List.setIfInBounds_toArray, List.set_cons_zero, List.set_cons_succ])
  go_cut [37] (fun v37 wc => ∃ (kq : Nat) (x37_3 : Bool), v37 = .bool x37_3 ∧ Aside0 (cotterellaw34_FwdAligned.j0 kq a2 x37_3 a0_0 a0_1 a0_2 a1_0 a1_1 a1_2 = some r) ∧ Aside0 (kq ≤ k) ∧ Aside0 (wc.heap[gb170]? = some (.cells #[.int .u64 a0_0, .int .u32 a0_1, .int .i64 a0_2] 25 (0, 0))) ∧ Aside0 (wc.heap[gb171]? = some (.cells #[.int .u64 a1_0, .int .u32 a1_1, .int .i64 a1_2] 25 (0, 0))) ∧ Aside0 (Below w.heap.size w wc))
  case first =>
    have H := HC4.out
    clear HC4
    replace H := Option.bind_eq_some_iff.mp H
    obtain ⟨t172, A70, H⟩ := H
    replace H : (if t172 = true then ((cotterelref34_Size.f a1_2).bind fun t173 => (if t173 = true then (if ((a0_2) % 4294967296) = 0 then (none) else (if (Int.tmod a0_1 ((a0_2) % 4294967296)) = 0 then (if ((a1_2) % 4294967296) = 0 then (none) else (cotterellaw34_FwdAligned.j0 k a2 ((Int.tmod a1_1 ((a1_2) % 4294967296)) != 0) a0_0 a0_1 a0_2 a1_0 a1_1 a1_2)) else (cotterellaw34_FwdAligned.j0 k a2 true a0_0 a0_1 a0_2 a1_0 a1_1 a1_2))) else (cotterellaw34_FwdAligned.j0 k a2 true a0_0 a0_1 a0_2 a1_0 a1_1 a1_2))) else (cotterellaw34_FwdAligned.j0 k a2 true a0_0 a0_1 a0_2 a1_0 a1_1 a1_2)) = some r := H
    have A7 := Aside0.mk A70
    clear A70
    by_cases c8 : t172 = true
    · subst c8
      have H1 : ((cotterelref34_Size.f a1_2).bind fun t173 => (if t173 = true then (if ((a0_2) % 4294967296) = 0 then (none) else (if (Int.tmod a0_1 ((a0_2) % 4294967296)) = 0 then (if ((a1_2) % 4294967296) = 0 then (none) else (cotterellaw34_FwdAligned.j0 k a2 ((Int.tmod a1_1 ((a1_2) % 4294967296)) != 0) a0_0 a0_1 a0_2 a1_0 a1_1 a1_2)) else (cotterellaw34_FwdAligned.j0 k a2 true a0_0 a0_1 a0_2 a1_0 a1_1 a1_2))) else (cotterellaw34_FwdAligned.j0 k a2 true a0_0 a0_1 a0_2 a1_0 a1_1 a1_2))) = some r := by rw [if_pos rfl] at H; exact H
      clear H
      have H := H1
      clear H1
      replace H := Option.bind_eq_some_iff.mp H
      obtain ⟨t173, A90, H⟩ := H
      replace H : (if t173 = true then (if ((a0_2) % 4294967296) = 0 then (none) else (if (Int.tmod a0_1 ((a0_2) % 4294967296)) = 0 then (if ((a1_2) % 4294967296) = 0 then (none) else (cotterellaw34_FwdAligned.j0 k a2 ((Int.tmod a1_1 ((a1_2) % 4294967296)) != 0) a0_0 a0_1 a0_2 a1_0 a1_1 a1_2)) else (cotterellaw34_FwdAligned.j0 k a2 true a0_0 a0_1 a0_2 a1_0 a1_1 a1_2))) else (cotterellaw34_FwdAligned.j0 k a2 true a0_0 a0_1 a0_2 a1_0 a1_1 a1_2)) = some r := H
      have A9 := Aside0.mk A90
      clear A90
      by_cases c10 : t173 = true
      · subst c10
        have H1 : (if ((a0_2) % 4294967296) = 0 then (none) else (if (Int.tmod a0_1 ((a0_2) % 4294967296)) = 0 then (if ((a1_2) % 4294967296) = 0 then (none) else (cotterellaw34_FwdAligned.j0 k a2 ((Int.tmod a1_1 ((a1_2) % 4294967296)) != 0) a0_0 a0_1 a0_2 a1_0 a1_1 a1_2)) else (cotterellaw34_FwdAligned.j0 k a2 true a0_0 a0_1 a0_2 a1_0 a1_1 a1_2))) = some r := by rw [if_pos rfl] at H; exact H
        clear H
        have H := H1
        clear H1
        by_cases c11 : ((a0_2) % 4294967296) = 0
        · rw [if_pos c11] at H
          exact absurd H (by simp)
        · rw [if_neg c11] at H
          have c11b0 : (((a0_2) % 4294967296) == 0) = false := beq_eq_false_iff_ne.mpr c11
          have c11b1 : (((a0_2) % 4294967296) != 0) = true := bne_iff_ne.mpr c11
          (first | rw [c11b0] | (simp only [i64_w, i32_w]; rw [c11b0]) | skip)
          by_cases c12 : (Int.tmod a0_1 ((a0_2) % 4294967296)) = 0
          · rw [if_pos c12] at H
            have c12b0 : ((Int.tmod a0_1 ((a0_2) % 4294967296)) == 0) = true := beq_iff_eq.mpr c12
            have c12b1 : ((Int.tmod a0_1 ((a0_2) % 4294967296)) != 0) = false := bne_eq_false_iff_eq.mpr c12
            clear c12
            by_cases c13 : ((a1_2) % 4294967296) = 0
            · rw [if_pos c13] at H
              exact absurd H (by simp)
            · rw [if_neg c13] at H
              have c13b0 : (((a1_2) % 4294967296) == 0) = false := beq_eq_false_iff_ne.mpr c13
              have c13b1 : (((a1_2) % 4294967296) != 0) = true := bne_iff_ne.mpr c13
              have H' := Aside0.mk H
              clear H
              have hnb14 := NB170_171.out
              have hnc14 := NB171_170.out
              have hcz15_0 : w6.cell? ⟨gb170, 0, none⟩ = some (.int .u64 a0_0) := (blk_cell BK170.out 0).trans rfl
              have hcz15_1 : w6.cell? ⟨gb170, 1, none⟩ = some (.int .u32 a0_1) := (blk_cell BK170.out 1).trans rfl
              have hcz15_2 : w6.cell? ⟨gb170, 2, none⟩ = some (.int .i64 a0_2) := (blk_cell BK170.out 2).trans rfl
              have hfz15_0 := blk_frozen BK170.out 0
              have hfz15_1 := blk_frozen BK170.out 1
              have hfz15_2 := blk_frozen BK170.out 2
              go_wp2_with (first | ((with_reducible refine gate_callee (f := 15) rfl ?_); refine goesL_ (some 12) rfl rfl Try.func15 (by kernel_rfl) rfl #[.int .i64 a0_2] rfl (by (try simp only [List.map_toArray, List.map_cons, List.map_nil]); first | done | rfl | (simp only [List.length_drop, List.length_take]; rfl)) ?_; (with_reducible refine (cotterelref34_Size.calls a0_2 true _ A7.out).mono ?_); rintro e w' ⟨rfl, ⟨nd, rfl⟩⟩; refine ⟨_, rfl, ?_⟩; have hcz16_0 : w6.cell? ⟨gb171, 0, none⟩ = some (.int .u64 a1_0) := (blk_cell BK171.out 0).trans rfl; have hcz16_1 : w6.cell? ⟨gb171, 1, none⟩ = some (.int .u32 a1_1) := (blk_cell BK171.out 1).trans rfl; have hcz16_2 : w6.cell? ⟨gb171, 2, none⟩ = some (.int .i64 a1_2) := (blk_cell BK171.out 2).trans rfl; have hfz16_0 := blk_frozen BK171.out 0; have hfz16_1 := blk_frozen BK171.out 1; have hfz16_2 := blk_frozen BK171.out 2) | (go_at_call 15; (with_reducible refine (cotterelref34_Size.calls a1_2 true _ A9.out).mono ?_); rintro e w' ⟨rfl, ⟨nd, rfl⟩⟩))
              go_meet
              case rel => exact ⟨_, (((Int.tmod a1_1 ((a1_2) % 4294967296)) != 0)), (by first | rfl | (simp; done) | (simp [*]; done)), H', ⟨by first | omega | exact Nat.le_refl _⟩, ⟨by (with_reducible repeat (first | refine blk_drewN ?_ _ | refine blk_drew ?_ | refine blk_alloc ?_ _)); exact BK170.out⟩, ⟨by (with_reducible repeat (first | refine blk_drewN ?_ _ | refine blk_drew ?_ | refine blk_alloc ?_ _)); exact BK171.out⟩, ⟨by repeat (first | (with_reducible first | exact HB.out | apply below_alloc | apply pw_below_drewN | apply below_drew1 | refine below_set ?_ GE170.out | refine below_set ?_ GE171.out) | exact HB.out)⟩⟩
          · rw [if_neg c12] at H
            have c12b0 : ((Int.tmod a0_1 ((a0_2) % 4294967296)) == 0) = false := beq_eq_false_iff_ne.mpr c12
            have c12b1 : ((Int.tmod a0_1 ((a0_2) % 4294967296)) != 0) = true := bne_iff_ne.mpr c12
            have H' := Aside0.mk H
            clear H
            have hnb17 := NB170_171.out
            have hnc17 := NB171_170.out
            have hcz18_0 : w6.cell? ⟨gb170, 0, none⟩ = some (.int .u64 a0_0) := (blk_cell BK170.out 0).trans rfl
            have hcz18_1 : w6.cell? ⟨gb170, 1, none⟩ = some (.int .u32 a0_1) := (blk_cell BK170.out 1).trans rfl
            have hcz18_2 : w6.cell? ⟨gb170, 2, none⟩ = some (.int .i64 a0_2) := (blk_cell BK170.out 2).trans rfl
            have hfz18_0 := blk_frozen BK170.out 0
            have hfz18_1 := blk_frozen BK170.out 1
            have hfz18_2 := blk_frozen BK170.out 2
            go_wp2_with (first | ((with_reducible refine gate_callee (f := 15) rfl ?_); refine goesL_ (some 12) rfl rfl Try.func15 (by kernel_rfl) rfl #[.int .i64 a0_2] rfl (by (try simp only [List.map_toArray, List.map_cons, List.map_nil]); first | done | rfl | (simp only [List.length_drop, List.length_take]; rfl)) ?_; (with_reducible refine (cotterelref34_Size.calls a0_2 true _ A7.out).mono ?_); rintro e w' ⟨rfl, ⟨nd, rfl⟩⟩; refine ⟨_, rfl, ?_⟩; have hcz19_0 : w6.cell? ⟨gb171, 0, none⟩ = some (.int .u64 a1_0) := (blk_cell BK171.out 0).trans rfl; have hcz19_1 : w6.cell? ⟨gb171, 1, none⟩ = some (.int .u32 a1_1) := (blk_cell BK171.out 1).trans rfl; have hcz19_2 : w6.cell? ⟨gb171, 2, none⟩ = some (.int .i64 a1_2) := (blk_cell BK171.out 2).trans rfl; have hfz19_0 := blk_frozen BK171.out 0; have hfz19_1 := blk_frozen BK171.out 1; have hfz19_2 := blk_frozen BK171.out 2) | (go_at_call 15; (with_reducible refine (cotterelref34_Size.calls a1_2 true _ A9.out).mono ?_); rintro e w' ⟨rfl, ⟨nd, rfl⟩⟩))
            go_meet
            case rel => exact ⟨_, (true), (by first | rfl | (simp; done) | (simp [*]; done)), H', ⟨by first | omega | exact Nat.le_refl _⟩, ⟨by (with_reducible repeat (first | refine blk_drewN ?_ _ | refine blk_drew ?_ | refine blk_alloc ?_ _)); exact BK170.out⟩, ⟨by (with_reducible repeat (first | refine blk_drewN ?_ _ | refine blk_drew ?_ | refine blk_alloc ?_ _)); exact BK171.out⟩, ⟨by repeat (first | (with_reducible first | exact HB.out | apply below_alloc | apply pw_below_drewN | apply below_drew1 | refine below_set ?_ GE170.out | refine below_set ?_ GE171.out) | exact HB.out)⟩⟩
      · replace c10 := Bool.eq_false_iff.mpr c10
        subst c10
        have H1 : (cotterellaw34_FwdAligned.j0 k a2 true a0_0 a0_1 a0_2 a1_0 a1_1 a1_2) = some r := by rw [if_neg (show ¬ (false = true) by decide)] at H; exact H
        clear H
        have H := H1
        clear H1
        have H' := Aside0.mk H
        clear H
        have hnb20 := NB170_171.out
        have hnc20 := NB171_170.out
        have hcz21_0 : w6.cell? ⟨gb170, 0, none⟩ = some (.int .u64 a0_0) := (blk_cell BK170.out 0).trans rfl
        have hcz21_1 : w6.cell? ⟨gb170, 1, none⟩ = some (.int .u32 a0_1) := (blk_cell BK170.out 1).trans rfl
        have hcz21_2 : w6.cell? ⟨gb170, 2, none⟩ = some (.int .i64 a0_2) := (blk_cell BK170.out 2).trans rfl
        have hfz21_0 := blk_frozen BK170.out 0
        have hfz21_1 := blk_frozen BK170.out 1
        have hfz21_2 := blk_frozen BK170.out 2
        go_wp2_with (first | ((with_reducible refine gate_callee (f := 15) rfl ?_); refine goesL_ (some 12) rfl rfl Try.func15 (by kernel_rfl) rfl #[.int .i64 a0_2] rfl (by (try simp only [List.map_toArray, List.map_cons, List.map_nil]); first | done | rfl | (simp only [List.length_drop, List.length_take]; rfl)) ?_; (with_reducible refine (cotterelref34_Size.calls a0_2 true _ A7.out).mono ?_); rintro e w' ⟨rfl, ⟨nd, rfl⟩⟩; refine ⟨_, rfl, ?_⟩; have hcz22_0 : w6.cell? ⟨gb171, 0, none⟩ = some (.int .u64 a1_0) := (blk_cell BK171.out 0).trans rfl; have hcz22_1 : w6.cell? ⟨gb171, 1, none⟩ = some (.int .u32 a1_1) := (blk_cell BK171.out 1).trans rfl; have hcz22_2 : w6.cell? ⟨gb171, 2, none⟩ = some (.int .i64 a1_2) := (blk_cell BK171.out 2).trans rfl; have hfz22_0 := blk_frozen BK171.out 0; have hfz22_1 := blk_frozen BK171.out 1; have hfz22_2 := blk_frozen BK171.out 2) | (go_at_call 15; (with_reducible refine (cotterelref34_Size.calls a1_2 false _ A9.out).mono ?_); rintro e w' ⟨rfl, ⟨nd, rfl⟩⟩))
        go_meet
        case rel => exact ⟨_, (true), (by first | rfl | (simp; done) | (simp [*]; done)), H', ⟨by first | omega | exact Nat.le_refl _⟩, ⟨by (with_reducible repeat (first | refine blk_drewN ?_ _ | refine blk_drew ?_ | refine blk_alloc ?_ _)); exact BK170.out⟩, ⟨by (with_reducible repeat (first | refine blk_drewN ?_ _ | refine blk_drew ?_ | refine blk_alloc ?_ _)); exact BK171.out⟩, ⟨by repeat (first | (with_reducible first | exact HB.out | apply below_alloc | apply pw_below_drewN | apply below_drew1 | refine below_set ?_ GE170.out | refine below_set ?_ GE171.out) | exact HB.out)⟩⟩
    · replace c8 := Bool.eq_false_iff.mpr c8
      subst c8
      have H1 : (cotterellaw34_FwdAligned.j0 k a2 true a0_0 a0_1 a0_2 a1_0 a1_1 a1_2) = some r := by rw [if_neg (show ¬ (false = true) by decide)] at H; exact H
      clear H
      have H := H1
      clear H1
      have H' := Aside0.mk H
      clear H
      have hnb23 := NB170_171.out
      have hnc23 := NB171_170.out
      have hcz24_0 : w6.cell? ⟨gb170, 0, none⟩ = some (.int .u64 a0_0) := (blk_cell BK170.out 0).trans rfl
      have hcz24_1 : w6.cell? ⟨gb170, 1, none⟩ = some (.int .u32 a0_1) := (blk_cell BK170.out 1).trans rfl
      have hcz24_2 : w6.cell? ⟨gb170, 2, none⟩ = some (.int .i64 a0_2) := (blk_cell BK170.out 2).trans rfl
      have hfz24_0 := blk_frozen BK170.out 0
      have hfz24_1 := blk_frozen BK170.out 1
      have hfz24_2 := blk_frozen BK170.out 2
      go_wp2_with (first | ((with_reducible refine gate_callee (f := 15) rfl ?_); refine goesL_ (some 12) rfl rfl Try.func15 (by kernel_rfl) rfl #[.int .i64 a0_2] rfl (by (try simp only [List.map_toArray, List.map_cons, List.map_nil]); first | done | rfl | (simp only [List.length_drop, List.length_take]; rfl)) ?_; (with_reducible refine (cotterelref34_Size.calls a0_2 false _ A7.out).mono ?_); rintro e w' ⟨rfl, ⟨nd, rfl⟩⟩; refine ⟨_, rfl, ?_⟩))
      go_meet
      case rel => exact ⟨_, (true), (by first | rfl | (simp; done) | (simp [*]; done)), H', ⟨by first | omega | exact Nat.le_refl _⟩, ⟨by (with_reducible repeat (first | refine blk_drewN ?_ _ | refine blk_drew ?_ | refine blk_alloc ?_ _)); exact BK170.out⟩, ⟨by (with_reducible repeat (first | refine blk_drewN ?_ _ | refine blk_drew ?_ | refine blk_alloc ?_ _)); exact BK171.out⟩, ⟨by repeat (first | (with_reducible first | exact HB.out | apply below_alloc | apply pw_below_drewN | apply below_drew1 | refine below_set ?_ GE170.out | refine below_set ?_ GE171.out) | exact HB.out)⟩⟩
  case rest =>
    clear HC4
    try clear c1
    try clear c2
    try clear p2
    try clear c5
    try clear c8
    try clear c10
    try clear c11
    try clear c11b0
    try clear c11b1
    try clear c12
    try clear c12b0
    try clear c12b1
    try clear c13
    try clear c13b0
    try clear c13b1
    try clear c14
    try clear c15
    try clear c17
    try clear c20
    try clear c23
    try clear hcz15_0
    try clear hcz15_1
    try clear hcz15_2
    try clear hcz16_0
    try clear hcz16_1
    try clear hcz16_2
    try clear hcz18_0
    try clear hcz18_1
    try clear hcz18_2
    try clear hcz19_0
    try clear hcz19_1
    try clear hcz19_2
    try clear hcz21_0
    try clear hcz21_1
    try clear hcz21_2
    try clear hcz22_0
    try clear hcz22_1
    try clear hcz22_2
    try clear hcz24_0
    try clear hcz24_1
    try clear hcz24_2
    try clear hfz15_0
    try clear hfz15_1
    try clear hfz15_2
    try clear hfz16_0
    try clear hfz16_1
    try clear hfz16_2
    try clear hfz18_0
    try clear hfz18_1
    try clear hfz18_2
    try clear hfz19_0
    try clear hfz19_1
    try clear hfz19_2
    try clear hfz21_0
    try clear hfz21_1
    try clear hfz21_2
    try clear hfz22_0
    try clear hfz22_1
    try clear hfz22_2
    try clear hfz24_0
    try clear hfz24_1
    try clear hfz24_2
    obtain ⟨kq, x37_3, rfl, HA, HJ3, BK170, BK171, HB⟩ := hcut
    cases kq with
    | zero => exact absurd HA.out (by simp [cotterellaw34_FwdAligned.j0])
    | succ kj3 =>
      have H := HA.out
      clear HA
      simp only [cotterellaw34_FwdAligned.j0] at H
      by_cases c25 : x37_3 = true
      · subst c25
        have H1 : ((cotterellaw34_awake.f kj3).bind fun t174 => (some t174)) = some r := by rw [if_pos rfl] at H; exact H
        clear H
        have H := H1
        clear H1
        replace H := Option.bind_eq_some_iff.mp H
        obtain ⟨t174, A260, H⟩ := H
        replace H : (some t174) = some r := H
        have A26 := Aside0.mk A260
        clear A260
        obtain rfl := Option.some.inj H
        go_wp2_with (first | ((with_reducible refine gate_callee (f := 12) rfl ?_); refine goesL_ (some 38) rfl rfl Try.func12 (by kernel_rfl) rfl #[] rfl (by (try simp only [List.map_toArray, List.map_cons, List.map_nil]); first | done | rfl | (simp only [List.length_drop, List.length_take]; rfl)) ?_; (with_reducible refine (cotterellaw34_awake.calls kj3  t174 _ A26.out).mono ?_); rintro e w27 ⟨rfl, hb⟩; refine ⟨_, rfl, ?_⟩; have n0_ := Aside0.mk (blk_below (g := gb170) (o := .cells #[.int .u64 a0_0, .int .u32 a0_1, .int .i64 a0_2] 25 (0, 0)) (by (with_reducible repeat (first | refine blk_drewN ?_ _ | refine blk_drew ?_ | refine blk_alloc ?_ _)); exact BK170.out) hb); have n1_ := Aside0.mk (blk_below (g := gb171) (o := .cells #[.int .u64 a1_0, .int .u32 a1_1, .int .i64 a1_2] 25 (0, 0)) (by (with_reducible repeat (first | refine blk_drewN ?_ _ | refine blk_drew ?_ | refine blk_alloc ?_ _)); exact BK171.out) hb); have n2_ := Aside0.mk (below_step (by repeat (first | (with_reducible first | exact HB.out | apply below_alloc | apply pw_below_drewN | apply below_drew1 | refine below_set ?_ GE170.out | refine below_set ?_ GE171.out) | exact HB.out)) hb); clear BK170; clear BK171; clear HB; have BK170 := n0_; have BK171 := n1_; have HB := n2_; clear n0_ n1_ n2_; (try clear hb); (try clear hb2); (try clear hk); (try clear hi)))
        go_ret
        exact ⟨by first | rfl | (simp [errW_none, errW_some] <;> rfl) | (simp [*, errW_none, errW_some] <;> rfl), by repeat (first | (with_reducible first | exact HB.out | apply below_alloc | apply pw_below_drewN | apply below_drew1 | refine below_set ?_ GE170.out | refine below_set ?_ GE171.out) | exact HB.out)⟩
      · replace c25 := Bool.eq_false_iff.mpr c25
        subst c25
        have H1 : ((fwd_Find.f kj3 (([(⟨1, a1_1, a2, a1_2, true⟩ : S37)] : List (S37))) ([] : List (S48)) 2 a0_1 a0_2).bind fun bt178 => (if a1_2 ≥ a0_2 then (if bt178.1 = 2 then (cotterellaw34_FwdAligned.j1 kj3 bt178.1 true a0_0 a0_1 a0_2 a1_0 a1_1 a1_2) else (if bt178.1 = 1 then ((fwd_Covers.f a0_1 a0_2 a1_1 a1_2).bind fun t181 => (if t181 = true then (if bt178.2.2 = 1 then ((fwd_Cut.f a2 a1_1 a0_1 a0_2).bind fun t182 => (cotterellaw34_FwdAligned.j1 kj3 bt178.1 (bt178.2.1 != t182) a0_0 a0_1 a0_2 a1_0 a1_1 a1_2)) else (cotterellaw34_FwdAligned.j1 kj3 bt178.1 true a0_0 a0_1 a0_2 a1_0 a1_1 a1_2)) else (cotterellaw34_FwdAligned.j1 kj3 bt178.1 true a0_0 a0_1 a0_2 a1_0 a1_1 a1_2))) else (cotterellaw34_FwdAligned.j1 kj3 bt178.1 false a0_0 a0_1 a0_2 a1_0 a1_1 a1_2))) else (if bt178.1 = 1 then ((fwd_Covers.f a0_1 a0_2 a1_1 a1_2).bind fun t183 => (if t183 = true then (if bt178.2.2 = 1 then ((fwd_Cut.f a2 a1_1 a0_1 a0_2).bind fun t184 => (cotterellaw34_FwdAligned.j1 kj3 bt178.1 (bt178.2.1 != t184) a0_0 a0_1 a0_2 a1_0 a1_1 a1_2)) else (cotterellaw34_FwdAligned.j1 kj3 bt178.1 true a0_0 a0_1 a0_2 a1_0 a1_1 a1_2)) else (cotterellaw34_FwdAligned.j1 kj3 bt178.1 true a0_0 a0_1 a0_2 a1_0 a1_1 a1_2))) else (cotterellaw34_FwdAligned.j1 kj3 bt178.1 false a0_0 a0_1 a0_2 a1_0 a1_1 a1_2)))) = some r := by rw [if_neg (show ¬ (false = true) by decide)] at H; exact H
        clear H
        have H := H1
        clear H1
        obtain ⟨y175, hy175⟩ : ∃ y_ : List (S37), y_ = (([(⟨1, a1_1, a2, a1_2, true⟩ : S37)] : List (S37))) := ⟨_, rfl⟩
        replace H : ((fwd_Find.f kj3 y175 ([] : List (S48)) 2 a0_1 a0_2).bind fun bt178 => (if a1_2 ≥ a0_2 then (if bt178.1 = 2 then (cotterellaw34_FwdAligned.j1 kj3 bt178.1 true a0_0 a0_1 a0_2 a1_0 a1_1 a1_2) else (if bt178.1 = 1 then ((fwd_Covers.f a0_1 a0_2 a1_1 a1_2).bind fun t181 => (if t181 = true then (if bt178.2.2 = 1 then ((fwd_Cut.f a2 a1_1 a0_1 a0_2).bind fun t182 => (cotterellaw34_FwdAligned.j1 kj3 bt178.1 (bt178.2.1 != t182) a0_0 a0_1 a0_2 a1_0 a1_1 a1_2)) else (cotterellaw34_FwdAligned.j1 kj3 bt178.1 true a0_0 a0_1 a0_2 a1_0 a1_1 a1_2)) else (cotterellaw34_FwdAligned.j1 kj3 bt178.1 true a0_0 a0_1 a0_2 a1_0 a1_1 a1_2))) else (cotterellaw34_FwdAligned.j1 kj3 bt178.1 false a0_0 a0_1 a0_2 a1_0 a1_1 a1_2))) else (if bt178.1 = 1 then ((fwd_Covers.f a0_1 a0_2 a1_1 a1_2).bind fun t183 => (if t183 = true then (if bt178.2.2 = 1 then ((fwd_Cut.f a2 a1_1 a0_1 a0_2).bind fun t184 => (cotterellaw34_FwdAligned.j1 kj3 bt178.1 (bt178.2.1 != t184) a0_0 a0_1 a0_2 a1_0 a1_1 a1_2)) else (cotterellaw34_FwdAligned.j1 kj3 bt178.1 true a0_0 a0_1 a0_2 a1_0 a1_1 a1_2)) else (cotterellaw34_FwdAligned.j1 kj3 bt178.1 true a0_0 a0_1 a0_2 a1_0 a1_1 a1_2))) else (cotterellaw34_FwdAligned.j1 kj3 bt178.1 false a0_0 a0_1 a0_2 a1_0 a1_1 a1_2)))) = some r := by first | (rw [hy175]; with_reducible exact H) | (have H2_ := (Option.bind_some _ _).symm.trans H; rw [hy175]; with_reducible exact H2_) | (have H2_ := (Option.bind_some _ _).symm.trans H; with_reducible exact H2_) | with_reducible exact H | (rw [hy175]; exact H) | exact H
        have Ny175 := Aside0.mk hy175
        clear hy175
        replace H := Option.bind_eq_some_iff.mp H
        obtain ⟨⟨t178, t179, t180⟩, A280, H⟩ := H
        replace H : (if a1_2 ≥ a0_2 then (if t178 = 2 then (cotterellaw34_FwdAligned.j1 kj3 t178 true a0_0 a0_1 a0_2 a1_0 a1_1 a1_2) else (if t178 = 1 then ((fwd_Covers.f a0_1 a0_2 a1_1 a1_2).bind fun t181 => (if t181 = true then (if t180 = 1 then ((fwd_Cut.f a2 a1_1 a0_1 a0_2).bind fun t182 => (cotterellaw34_FwdAligned.j1 kj3 t178 (t179 != t182) a0_0 a0_1 a0_2 a1_0 a1_1 a1_2)) else (cotterellaw34_FwdAligned.j1 kj3 t178 true a0_0 a0_1 a0_2 a1_0 a1_1 a1_2)) else (cotterellaw34_FwdAligned.j1 kj3 t178 true a0_0 a0_1 a0_2 a1_0 a1_1 a1_2))) else (cotterellaw34_FwdAligned.j1 kj3 t178 false a0_0 a0_1 a0_2 a1_0 a1_1 a1_2))) else (if t178 = 1 then ((fwd_Covers.f a0_1 a0_2 a1_1 a1_2).bind fun t183 => (if t183 = true then (if t180 = 1 then ((fwd_Cut.f a2 a1_1 a0_1 a0_2).bind fun t184 => (cotterellaw34_FwdAligned.j1 kj3 t178 (t179 != t184) a0_0 a0_1 a0_2 a1_0 a1_1 a1_2)) else (cotterellaw34_FwdAligned.j1 kj3 t178 true a0_0 a0_1 a0_2 a1_0 a1_1 a1_2)) else (cotterellaw34_FwdAligned.j1 kj3 t178 true a0_0 a0_1 a0_2 a1_0 a1_1 a1_2))) else (cotterellaw34_FwdAligned.j1 kj3 t178 false a0_0 a0_1 a0_2 a1_0 a1_1 a1_2))) = some r := H
        have A28 := Aside0.mk A280
        clear A280
        have HC29 := Aside0.mk H
        clear H
        have hnb30 := NB171_170.out
        have hnc30 := NB170_171.out
        have hcz31_0 : wc.cell? ⟨gb171, 0, none⟩ = some (.int .u64 a1_0) := (blk_cell BK171.out 0).trans rfl
        have hcz31_1 : wc.cell? ⟨gb171, 1, none⟩ = some (.int .u32 a1_1) := (blk_cell BK171.out 1).trans rfl
        have hcz31_2 : wc.cell? ⟨gb171, 2, none⟩ = some (.int .i64 a1_2) := (blk_cell BK171.out 2).trans rfl
        have hfz31_0 := blk_frozen BK171.out 0
        have hfz31_1 := blk_frozen BK171.out 1
        have hfz31_2 := blk_frozen BK171.out 2
        go_upto_region 4 with (first | ((with_reducible refine gate_dst (N := 46) rfl ?_); refine Kd.R_lit k37 _ 37 ?hg (N := 46) ?hd (xs := ([(⟨1, a1_1, a2, a1_2, true⟩ : S37)] : List (S37))) (inner := [.int .u64 1, .int .u32 a1_1, .int .u32 a2, .int .i64 a1_2, .bool true]) (ok := fun _ => True) (okp := fun _ => True) ?hr ?hp (fun _ hk => hk) trivial (Below.refl _ _) (Nat.le_refl _) (by simp) ?_; (case hd => rfl); (case hg => rfl); (case hr => first | (go_simp; done) | (go_simp; rfl)); (case hp => exact (Reps.c5 (show Kd.M k37 _ _ _ (⟨1, a1_1, a2, a1_2, true⟩ : S37) [.int .u64 1, .int .u32 a1_1, .int .u32 a2, .int .i64 a1_2, .bool true] from (k37_mkM _ _ _ (⟨1, a1_1, a2, a1_2, true⟩ : S37) )) (Reps.none _ _))); intro v176 w32 ho33 hb hg_ hnew_; clear hg_ hnew_; (first | rw [← Ny175.out] at ho33 | (simp only [Int.reduceToNat] at ho33; rw [← Ny175.out] at ho33)); have n0_ := Aside0.mk (Kd.R_lower ho33 (below_size (by repeat (first | (with_reducible first | exact HB.out | apply below_alloc | apply pw_below_drewN | apply below_drew1 | refine below_set ?_ GE170.out | refine below_set ?_ GE171.out) | exact HB.out)))); have n1_ := Aside0.mk (blk_below (g := gb170) (o := .cells #[.int .u64 a0_0, .int .u32 a0_1, .int .i64 a0_2] 25 (0, 0)) (by (with_reducible repeat (first | refine blk_drewN ?_ _ | refine blk_drew ?_ | refine blk_alloc ?_ _)); exact BK170.out) hb); have n2_ := Aside0.mk (blk_below (g := gb171) (o := .cells #[.int .u64 a1_0, .int .u32 a1_1, .int .i64 a1_2] 25 (0, 0)) (by (with_reducible repeat (first | refine blk_drewN ?_ _ | refine blk_drew ?_ | refine blk_alloc ?_ _)); exact BK171.out) hb); have n3_ := Aside0.mk (below_step (by repeat (first | (with_reducible first | exact HB.out | apply below_alloc | apply pw_below_drewN | apply below_drew1 | refine below_set ?_ GE170.out | refine below_set ?_ GE171.out) | exact HB.out)) hb); clear BK170; clear BK171; clear HB; have HO177 := n0_; have BK170 := n1_; have BK171 := n2_; have HB := n3_; clear n0_ n1_ n2_ n3_; clear hb ho33; have hcz34_0 : w32.cell? ⟨gb170, 0, none⟩ = some (.int .u64 a0_0) := (blk_cell BK170.out 0).trans rfl; have hcz34_1 : w32.cell? ⟨gb170, 1, none⟩ = some (.int .u32 a0_1) := (blk_cell BK170.out 1).trans rfl; have hcz34_2 : w32.cell? ⟨gb170, 2, none⟩ = some (.int .i64 a0_2) := (blk_cell BK170.out 2).trans rfl; have hfz34_0 := blk_frozen BK170.out 0; have hfz34_1 := blk_frozen BK170.out 1; have hfz34_2 := blk_frozen BK170.out 2; obtain ⟨Ao35, co35, eo35⟩ := Kd.R_slice HO177.out; subst eo35) | ((with_reducible refine gate_callee (f := 13) rfl ?_); refine goesL_ (some 51) rfl rfl Try.func13 (by kernel_rfl) rfl #[.slice Ao35 y175.length co35, .slice none 0 0, .int .u64 2, .int .u32 a0_1, .int .i64 a0_2] rfl (by (try simp only [List.map_toArray, List.map_cons, List.map_nil]); first | done | rfl | (simp only [List.length_drop, List.length_take]; rfl)) ?_; (refine (fwd_Find.calls kj3 _ _ y175 _ _ ([] : List (S48)) 2 a0_1 a0_2 t178 t179 t180 _ ?side1 ?side2 ?side3 ?side4 A28.out).mono ?_); (case side1 => repeat (first | exact (Kd.R_reads' HO177.out).2.2 | (with_reducible refine Kd.C_alloc ?_ _) | (with_reducible refine Kd.C_drewN ?_ _) | (with_reducible refine Kd.C_drew ?_))); (case side2 => exact (Kd.R_reads' HO177.out).2.1); (case side3 => exact Kd.C_nil _ _); (case side4 => exact Nat.le_refl _); rintro e w36 ⟨rfl, hb⟩; refine ⟨_, rfl, ?_⟩; have n0_ := Aside0.mk (Kd.R_below (by (with_reducible repeat (first | apply Kd.R_alloc | apply Kd.R_drewN | apply Kd.R_drew)); exact HO177.out) hb); have n1_ := Aside0.mk (blk_below (g := gb170) (o := .cells #[.int .u64 a0_0, .int .u32 a0_1, .int .i64 a0_2] 25 (0, 0)) (by (with_reducible repeat (first | refine blk_drewN ?_ _ | refine blk_drew ?_ | refine blk_alloc ?_ _)); exact BK170.out) hb); have n2_ := Aside0.mk (blk_below (g := gb171) (o := .cells #[.int .u64 a1_0, .int .u32 a1_1, .int .i64 a1_2] 25 (0, 0)) (by (with_reducible repeat (first | refine blk_drewN ?_ _ | refine blk_drew ?_ | refine blk_alloc ?_ _)); exact BK171.out) hb); have n3_ := Aside0.mk (below_step (by repeat (first | (with_reducible first | exact HB.out | apply below_alloc | apply pw_below_drewN | apply below_drew1 | refine below_set ?_ GE170.out | refine below_set ?_ GE171.out) | exact HB.out)) hb); clear HO177; clear BK170; clear BK171; clear HB; have HO177 := n0_; have BK170 := n1_; have BK171 := n2_; have HB := n3_; clear n0_ n1_ n2_ n3_; (try clear hb); (try clear hb2); (try clear hk); (try clear hi)))
        (try simp only [Act.put, List.setIfInBounds_toArray, List.set_cons_zero, List.set_cons_succ])
        go_cut [95] (fun v95 wc => ∃ (kq : Nat) (x95_28 : Bool), v95 = .bool x95_28 ∧ Aside0 (cotterellaw34_FwdAligned.j1 kq t178 x95_28 a0_0 a0_1 a0_2 a1_0 a1_1 a1_2 = some r) ∧ Aside0 (kq ≤ kj3) ∧ Aside0 (wc.heap[gb170]? = some (.cells #[.int .u64 a0_0, .int .u32 a0_1, .int .i64 a0_2] 25 (0, 0))) ∧ Aside0 (wc.heap[gb171]? = some (.cells #[.int .u64 a1_0, .int .u32 a1_1, .int .i64 a1_2] 25 (0, 0))) ∧ Aside0 (Below w.heap.size w wc))
        case first =>
          have H := HC29.out
          clear HC29
          by_cases c37 : a1_2 ≥ a0_2
          · rw [if_pos c37] at H
            have c37b0 : decide (a0_2 ≤ a1_2) = true := decide_eq_true c37
            clear c37
            (first | rw [c37b0] | (simp only [i64_w, i32_w]; rw [c37b0]) | skip)
            by_cases c38 : t178 = 2
            · rw [if_pos c38] at H
              have c38b0 : (t178 == 2) = true := beq_iff_eq.mpr c38
              have c38b1 : (t178 != 2) = false := bne_eq_false_iff_eq.mpr c38
              clear c38
              have H' := Aside0.mk H
              clear H
              have hnb39 := NB171_170.out
              have hnc39 := NB170_171.out
              have hcz40_0 : w36.cell? ⟨gb171, 0, none⟩ = some (.int .u64 a1_0) := (blk_cell BK171.out 0).trans rfl
              have hcz40_1 : w36.cell? ⟨gb171, 1, none⟩ = some (.int .u32 a1_1) := (blk_cell BK171.out 1).trans rfl
              have hcz40_2 : w36.cell? ⟨gb171, 2, none⟩ = some (.int .i64 a1_2) := (blk_cell BK171.out 2).trans rfl
              have hfz40_0 := blk_frozen BK171.out 0
              have hfz40_1 := blk_frozen BK171.out 1
              have hfz40_2 := blk_frozen BK171.out 2
              have hcz41_0 : w36.cell? ⟨gb170, 0, none⟩ = some (.int .u64 a0_0) := (blk_cell BK170.out 0).trans rfl
              have hcz41_1 : w36.cell? ⟨gb170, 1, none⟩ = some (.int .u32 a0_1) := (blk_cell BK170.out 1).trans rfl
              have hcz41_2 : w36.cell? ⟨gb170, 2, none⟩ = some (.int .i64 a0_2) := (blk_cell BK170.out 2).trans rfl
              have hfz41_0 := blk_frozen BK170.out 0
              have hfz41_1 := blk_frozen BK170.out 1
              have hfz41_2 := blk_frozen BK170.out 2
              go_wp2
              go_meet
              case rel => exact ⟨_, (true), (by first | rfl | (simp; done) | (simp [*]; done)), H', ⟨by have := HJ3.out; first | omega | exact Nat.le_refl _⟩, ⟨by (with_reducible repeat (first | refine blk_drewN ?_ _ | refine blk_drew ?_ | refine blk_alloc ?_ _)); exact BK170.out⟩, ⟨by (with_reducible repeat (first | refine blk_drewN ?_ _ | refine blk_drew ?_ | refine blk_alloc ?_ _)); exact BK171.out⟩, ⟨by repeat (first | (with_reducible first | exact HB.out | apply below_alloc | apply pw_below_drewN | apply below_drew1 | refine below_set ?_ GE170.out | refine below_set ?_ GE171.out) | exact HB.out)⟩⟩
            · rw [if_neg c38] at H
              have c38b0 : (t178 == 2) = false := beq_eq_false_iff_ne.mpr c38
              have c38b1 : (t178 != 2) = true := bne_iff_ne.mpr c38
              by_cases c42 : t178 = 1
              · rw [if_pos c42] at H
                have c42b0 : (t178 == 1) = true := beq_iff_eq.mpr c42
                have c42b1 : (t178 != 1) = false := bne_eq_false_iff_eq.mpr c42
                clear c42
                replace H := Option.bind_eq_some_iff.mp H
                obtain ⟨t181, A430, H⟩ := H
                replace H : (if t181 = true then (if t180 = 1 then ((fwd_Cut.f a2 a1_1 a0_1 a0_2).bind fun t182 => (cotterellaw34_FwdAligned.j1 kj3 t178 (t179 != t182) a0_0 a0_1 a0_2 a1_0 a1_1 a1_2)) else (cotterellaw34_FwdAligned.j1 kj3 t178 true a0_0 a0_1 a0_2 a1_0 a1_1 a1_2)) else (cotterellaw34_FwdAligned.j1 kj3 t178 true a0_0 a0_1 a0_2 a1_0 a1_1 a1_2)) = some r := H
                have A43 := Aside0.mk A430
                clear A430
                by_cases c44 : t181 = true
                · subst c44
                  have H1 : (if t180 = 1 then ((fwd_Cut.f a2 a1_1 a0_1 a0_2).bind fun t182 => (cotterellaw34_FwdAligned.j1 kj3 t178 (t179 != t182) a0_0 a0_1 a0_2 a1_0 a1_1 a1_2)) else (cotterellaw34_FwdAligned.j1 kj3 t178 true a0_0 a0_1 a0_2 a1_0 a1_1 a1_2)) = some r := by rw [if_pos rfl] at H; exact H
                  clear H
                  have H := H1
                  clear H1
                  by_cases c45 : t180 = 1
                  · rw [if_pos c45] at H
                    have c45b0 : (t180 == 1) = true := beq_iff_eq.mpr c45
                    have c45b1 : (t180 != 1) = false := bne_eq_false_iff_eq.mpr c45
                    clear c45
                    replace H := Option.bind_eq_some_iff.mp H
                    obtain ⟨t182, A460, H⟩ := H
                    replace H : (cotterellaw34_FwdAligned.j1 kj3 t178 (t179 != t182) a0_0 a0_1 a0_2 a1_0 a1_1 a1_2) = some r := H
                    have A46 := Aside0.mk A460
                    clear A460
                    have H' := Aside0.mk H
                    clear H
                    have hnb47 := NB171_170.out
                    have hnc47 := NB170_171.out
                    have hcz48_0 : w36.cell? ⟨gb171, 0, none⟩ = some (.int .u64 a1_0) := (blk_cell BK171.out 0).trans rfl
                    have hcz48_1 : w36.cell? ⟨gb171, 1, none⟩ = some (.int .u32 a1_1) := (blk_cell BK171.out 1).trans rfl
                    have hcz48_2 : w36.cell? ⟨gb171, 2, none⟩ = some (.int .i64 a1_2) := (blk_cell BK171.out 2).trans rfl
                    have hfz48_0 := blk_frozen BK171.out 0
                    have hfz48_1 := blk_frozen BK171.out 1
                    have hfz48_2 := blk_frozen BK171.out 2
                    have hcz49_0 : w36.cell? ⟨gb170, 0, none⟩ = some (.int .u64 a0_0) := (blk_cell BK170.out 0).trans rfl
                    have hcz49_1 : w36.cell? ⟨gb170, 1, none⟩ = some (.int .u32 a0_1) := (blk_cell BK170.out 1).trans rfl
                    have hcz49_2 : w36.cell? ⟨gb170, 2, none⟩ = some (.int .i64 a0_2) := (blk_cell BK170.out 2).trans rfl
                    have hfz49_0 := blk_frozen BK170.out 0
                    have hfz49_1 := blk_frozen BK170.out 1
                    have hfz49_2 := blk_frozen BK170.out 2
                    go_wp2_with (first | (go_at_call 8; (with_reducible refine (fwd_Covers.calls a0_1 a0_2 a1_1 a1_2 true _ A43.out).mono ?_); rintro e w' ⟨rfl, ⟨nd, rfl⟩⟩) | (go_at_call 10; (with_reducible refine (fwd_Cut.calls a2 a1_1 a0_1 a0_2 t182 _ A46.out).mono ?_); rintro e w50 ⟨rfl, hb⟩; have n0_ := Aside0.mk (Kd.R_below (by (with_reducible repeat (first | apply Kd.R_alloc | apply Kd.R_drewN | apply Kd.R_drew)); exact HO177.out) hb); have n1_ := Aside0.mk (blk_below (g := gb170) (o := .cells #[.int .u64 a0_0, .int .u32 a0_1, .int .i64 a0_2] 25 (0, 0)) (by (with_reducible repeat (first | refine blk_drewN ?_ _ | refine blk_drew ?_ | refine blk_alloc ?_ _)); exact BK170.out) hb); have n2_ := Aside0.mk (blk_below (g := gb171) (o := .cells #[.int .u64 a1_0, .int .u32 a1_1, .int .i64 a1_2] 25 (0, 0)) (by (with_reducible repeat (first | refine blk_drewN ?_ _ | refine blk_drew ?_ | refine blk_alloc ?_ _)); exact BK171.out) hb); have n3_ := Aside0.mk (below_step (by repeat (first | (with_reducible first | exact HB.out | apply below_alloc | apply pw_below_drewN | apply below_drew1 | refine below_set ?_ GE170.out | refine below_set ?_ GE171.out) | exact HB.out)) hb); clear HO177; clear BK170; clear BK171; clear HB; have HO177 := n0_; have BK170 := n1_; have BK171 := n2_; have HB := n3_; clear n0_ n1_ n2_ n3_; (try clear hb); (try clear hb2); (try clear hk); (try clear hi)))
                    go_meet
                    case rel => exact ⟨_, ((t179 != t182)), (by first | rfl | (simp; done) | (simp [*]; done)), H', ⟨by have := HJ3.out; first | omega | exact Nat.le_refl _⟩, ⟨by (with_reducible repeat (first | refine blk_drewN ?_ _ | refine blk_drew ?_ | refine blk_alloc ?_ _)); exact BK170.out⟩, ⟨by (with_reducible repeat (first | refine blk_drewN ?_ _ | refine blk_drew ?_ | refine blk_alloc ?_ _)); exact BK171.out⟩, ⟨by repeat (first | (with_reducible first | exact HB.out | apply below_alloc | apply pw_below_drewN | apply below_drew1 | refine below_set ?_ GE170.out | refine below_set ?_ GE171.out) | exact HB.out)⟩⟩
                  · rw [if_neg c45] at H
                    have c45b0 : (t180 == 1) = false := beq_eq_false_iff_ne.mpr c45
                    have c45b1 : (t180 != 1) = true := bne_iff_ne.mpr c45
                    have H' := Aside0.mk H
                    clear H
                    have hnb51 := NB171_170.out
                    have hnc51 := NB170_171.out
                    have hcz52_0 : w36.cell? ⟨gb171, 0, none⟩ = some (.int .u64 a1_0) := (blk_cell BK171.out 0).trans rfl
                    have hcz52_1 : w36.cell? ⟨gb171, 1, none⟩ = some (.int .u32 a1_1) := (blk_cell BK171.out 1).trans rfl
                    have hcz52_2 : w36.cell? ⟨gb171, 2, none⟩ = some (.int .i64 a1_2) := (blk_cell BK171.out 2).trans rfl
                    have hfz52_0 := blk_frozen BK171.out 0
                    have hfz52_1 := blk_frozen BK171.out 1
                    have hfz52_2 := blk_frozen BK171.out 2
                    have hcz53_0 : w36.cell? ⟨gb170, 0, none⟩ = some (.int .u64 a0_0) := (blk_cell BK170.out 0).trans rfl
                    have hcz53_1 : w36.cell? ⟨gb170, 1, none⟩ = some (.int .u32 a0_1) := (blk_cell BK170.out 1).trans rfl
                    have hcz53_2 : w36.cell? ⟨gb170, 2, none⟩ = some (.int .i64 a0_2) := (blk_cell BK170.out 2).trans rfl
                    have hfz53_0 := blk_frozen BK170.out 0
                    have hfz53_1 := blk_frozen BK170.out 1
                    have hfz53_2 := blk_frozen BK170.out 2
                    go_wp2_with (first | (go_at_call 8; (with_reducible refine (fwd_Covers.calls a0_1 a0_2 a1_1 a1_2 true _ A43.out).mono ?_); rintro e w' ⟨rfl, ⟨nd, rfl⟩⟩))
                    go_meet
                    case rel => exact ⟨_, (true), (by first | rfl | (simp; done) | (simp [*]; done)), H', ⟨by have := HJ3.out; first | omega | exact Nat.le_refl _⟩, ⟨by (with_reducible repeat (first | refine blk_drewN ?_ _ | refine blk_drew ?_ | refine blk_alloc ?_ _)); exact BK170.out⟩, ⟨by (with_reducible repeat (first | refine blk_drewN ?_ _ | refine blk_drew ?_ | refine blk_alloc ?_ _)); exact BK171.out⟩, ⟨by repeat (first | (with_reducible first | exact HB.out | apply below_alloc | apply pw_below_drewN | apply below_drew1 | refine below_set ?_ GE170.out | refine below_set ?_ GE171.out) | exact HB.out)⟩⟩
                · replace c44 := Bool.eq_false_iff.mpr c44
                  subst c44
                  have H1 : (cotterellaw34_FwdAligned.j1 kj3 t178 true a0_0 a0_1 a0_2 a1_0 a1_1 a1_2) = some r := by rw [if_neg (show ¬ (false = true) by decide)] at H; exact H
                  clear H
                  have H := H1
                  clear H1
                  have H' := Aside0.mk H
                  clear H
                  have hnb54 := NB171_170.out
                  have hnc54 := NB170_171.out
                  have hcz55_0 : w36.cell? ⟨gb171, 0, none⟩ = some (.int .u64 a1_0) := (blk_cell BK171.out 0).trans rfl
                  have hcz55_1 : w36.cell? ⟨gb171, 1, none⟩ = some (.int .u32 a1_1) := (blk_cell BK171.out 1).trans rfl
                  have hcz55_2 : w36.cell? ⟨gb171, 2, none⟩ = some (.int .i64 a1_2) := (blk_cell BK171.out 2).trans rfl
                  have hfz55_0 := blk_frozen BK171.out 0
                  have hfz55_1 := blk_frozen BK171.out 1
                  have hfz55_2 := blk_frozen BK171.out 2
                  have hcz56_0 : w36.cell? ⟨gb170, 0, none⟩ = some (.int .u64 a0_0) := (blk_cell BK170.out 0).trans rfl
                  have hcz56_1 : w36.cell? ⟨gb170, 1, none⟩ = some (.int .u32 a0_1) := (blk_cell BK170.out 1).trans rfl
                  have hcz56_2 : w36.cell? ⟨gb170, 2, none⟩ = some (.int .i64 a0_2) := (blk_cell BK170.out 2).trans rfl
                  have hfz56_0 := blk_frozen BK170.out 0
                  have hfz56_1 := blk_frozen BK170.out 1
                  have hfz56_2 := blk_frozen BK170.out 2
                  go_wp2_with (first | (go_at_call 8; (with_reducible refine (fwd_Covers.calls a0_1 a0_2 a1_1 a1_2 false _ A43.out).mono ?_); rintro e w' ⟨rfl, ⟨nd, rfl⟩⟩))
                  go_meet
                  case rel => exact ⟨_, (true), (by first | rfl | (simp; done) | (simp [*]; done)), H', ⟨by have := HJ3.out; first | omega | exact Nat.le_refl _⟩, ⟨by (with_reducible repeat (first | refine blk_drewN ?_ _ | refine blk_drew ?_ | refine blk_alloc ?_ _)); exact BK170.out⟩, ⟨by (with_reducible repeat (first | refine blk_drewN ?_ _ | refine blk_drew ?_ | refine blk_alloc ?_ _)); exact BK171.out⟩, ⟨by repeat (first | (with_reducible first | exact HB.out | apply below_alloc | apply pw_below_drewN | apply below_drew1 | refine below_set ?_ GE170.out | refine below_set ?_ GE171.out) | exact HB.out)⟩⟩
              · rw [if_neg c42] at H
                have c42b0 : (t178 == 1) = false := beq_eq_false_iff_ne.mpr c42
                have c42b1 : (t178 != 1) = true := bne_iff_ne.mpr c42
                have H' := Aside0.mk H
                clear H
                have hnb57 := NB171_170.out
                have hnc57 := NB170_171.out
                have hcz58_0 : w36.cell? ⟨gb171, 0, none⟩ = some (.int .u64 a1_0) := (blk_cell BK171.out 0).trans rfl
                have hcz58_1 : w36.cell? ⟨gb171, 1, none⟩ = some (.int .u32 a1_1) := (blk_cell BK171.out 1).trans rfl
                have hcz58_2 : w36.cell? ⟨gb171, 2, none⟩ = some (.int .i64 a1_2) := (blk_cell BK171.out 2).trans rfl
                have hfz58_0 := blk_frozen BK171.out 0
                have hfz58_1 := blk_frozen BK171.out 1
                have hfz58_2 := blk_frozen BK171.out 2
                have hcz59_0 : w36.cell? ⟨gb170, 0, none⟩ = some (.int .u64 a0_0) := (blk_cell BK170.out 0).trans rfl
                have hcz59_1 : w36.cell? ⟨gb170, 1, none⟩ = some (.int .u32 a0_1) := (blk_cell BK170.out 1).trans rfl
                have hcz59_2 : w36.cell? ⟨gb170, 2, none⟩ = some (.int .i64 a0_2) := (blk_cell BK170.out 2).trans rfl
                have hfz59_0 := blk_frozen BK170.out 0
                have hfz59_1 := blk_frozen BK170.out 1
                have hfz59_2 := blk_frozen BK170.out 2
                go_wp2
                go_meet
                case rel => exact ⟨_, (false), (by first | rfl | (simp; done) | (simp [*]; done)), H', ⟨by have := HJ3.out; first | omega | exact Nat.le_refl _⟩, ⟨by (with_reducible repeat (first | refine blk_drewN ?_ _ | refine blk_drew ?_ | refine blk_alloc ?_ _)); exact BK170.out⟩, ⟨by (with_reducible repeat (first | refine blk_drewN ?_ _ | refine blk_drew ?_ | refine blk_alloc ?_ _)); exact BK171.out⟩, ⟨by repeat (first | (with_reducible first | exact HB.out | apply below_alloc | apply pw_below_drewN | apply below_drew1 | refine below_set ?_ GE170.out | refine below_set ?_ GE171.out) | exact HB.out)⟩⟩
          · rw [if_neg c37] at H
            have c37b0 : decide (a0_2 ≤ a1_2) = false := decide_eq_false c37
            clear c37
            (first | rw [c37b0] | (simp only [i64_w, i32_w]; rw [c37b0]) | skip)
            by_cases c60 : t178 = 1
            · rw [if_pos c60] at H
              have c60b0 : (t178 == 1) = true := beq_iff_eq.mpr c60
              have c60b1 : (t178 != 1) = false := bne_eq_false_iff_eq.mpr c60
              clear c60
              replace H := Option.bind_eq_some_iff.mp H
              obtain ⟨t183, A610, H⟩ := H
              replace H : (if t183 = true then (if t180 = 1 then ((fwd_Cut.f a2 a1_1 a0_1 a0_2).bind fun t184 => (cotterellaw34_FwdAligned.j1 kj3 t178 (t179 != t184) a0_0 a0_1 a0_2 a1_0 a1_1 a1_2)) else (cotterellaw34_FwdAligned.j1 kj3 t178 true a0_0 a0_1 a0_2 a1_0 a1_1 a1_2)) else (cotterellaw34_FwdAligned.j1 kj3 t178 true a0_0 a0_1 a0_2 a1_0 a1_1 a1_2)) = some r := H
              have A61 := Aside0.mk A610
              clear A610
              by_cases c62 : t183 = true
              · subst c62
                have H1 : (if t180 = 1 then ((fwd_Cut.f a2 a1_1 a0_1 a0_2).bind fun t184 => (cotterellaw34_FwdAligned.j1 kj3 t178 (t179 != t184) a0_0 a0_1 a0_2 a1_0 a1_1 a1_2)) else (cotterellaw34_FwdAligned.j1 kj3 t178 true a0_0 a0_1 a0_2 a1_0 a1_1 a1_2)) = some r := by rw [if_pos rfl] at H; exact H
                clear H
                have H := H1
                clear H1
                by_cases c63 : t180 = 1
                · rw [if_pos c63] at H
                  have c63b0 : (t180 == 1) = true := beq_iff_eq.mpr c63
                  have c63b1 : (t180 != 1) = false := bne_eq_false_iff_eq.mpr c63
                  clear c63
                  replace H := Option.bind_eq_some_iff.mp H
                  obtain ⟨t184, A640, H⟩ := H
                  replace H : (cotterellaw34_FwdAligned.j1 kj3 t178 (t179 != t184) a0_0 a0_1 a0_2 a1_0 a1_1 a1_2) = some r := H
                  have A64 := Aside0.mk A640
                  clear A640
                  have H' := Aside0.mk H
                  clear H
                  have hnb65 := NB171_170.out
                  have hnc65 := NB170_171.out
                  have hcz66_0 : w36.cell? ⟨gb171, 0, none⟩ = some (.int .u64 a1_0) := (blk_cell BK171.out 0).trans rfl
                  have hcz66_1 : w36.cell? ⟨gb171, 1, none⟩ = some (.int .u32 a1_1) := (blk_cell BK171.out 1).trans rfl
                  have hcz66_2 : w36.cell? ⟨gb171, 2, none⟩ = some (.int .i64 a1_2) := (blk_cell BK171.out 2).trans rfl
                  have hfz66_0 := blk_frozen BK171.out 0
                  have hfz66_1 := blk_frozen BK171.out 1
                  have hfz66_2 := blk_frozen BK171.out 2
                  have hcz67_0 : w36.cell? ⟨gb170, 0, none⟩ = some (.int .u64 a0_0) := (blk_cell BK170.out 0).trans rfl
                  have hcz67_1 : w36.cell? ⟨gb170, 1, none⟩ = some (.int .u32 a0_1) := (blk_cell BK170.out 1).trans rfl
                  have hcz67_2 : w36.cell? ⟨gb170, 2, none⟩ = some (.int .i64 a0_2) := (blk_cell BK170.out 2).trans rfl
                  have hfz67_0 := blk_frozen BK170.out 0
                  have hfz67_1 := blk_frozen BK170.out 1
                  have hfz67_2 := blk_frozen BK170.out 2
                  go_wp2_with (first | (go_at_call 8; (with_reducible refine (fwd_Covers.calls a0_1 a0_2 a1_1 a1_2 true _ A61.out).mono ?_); rintro e w' ⟨rfl, ⟨nd, rfl⟩⟩) | (go_at_call 10; (with_reducible refine (fwd_Cut.calls a2 a1_1 a0_1 a0_2 t184 _ A64.out).mono ?_); rintro e w68 ⟨rfl, hb⟩; have n0_ := Aside0.mk (Kd.R_below (by (with_reducible repeat (first | apply Kd.R_alloc | apply Kd.R_drewN | apply Kd.R_drew)); exact HO177.out) hb); have n1_ := Aside0.mk (blk_below (g := gb170) (o := .cells #[.int .u64 a0_0, .int .u32 a0_1, .int .i64 a0_2] 25 (0, 0)) (by (with_reducible repeat (first | refine blk_drewN ?_ _ | refine blk_drew ?_ | refine blk_alloc ?_ _)); exact BK170.out) hb); have n2_ := Aside0.mk (blk_below (g := gb171) (o := .cells #[.int .u64 a1_0, .int .u32 a1_1, .int .i64 a1_2] 25 (0, 0)) (by (with_reducible repeat (first | refine blk_drewN ?_ _ | refine blk_drew ?_ | refine blk_alloc ?_ _)); exact BK171.out) hb); have n3_ := Aside0.mk (below_step (by repeat (first | (with_reducible first | exact HB.out | apply below_alloc | apply pw_below_drewN | apply below_drew1 | refine below_set ?_ GE170.out | refine below_set ?_ GE171.out) | exact HB.out)) hb); clear HO177; clear BK170; clear BK171; clear HB; have HO177 := n0_; have BK170 := n1_; have BK171 := n2_; have HB := n3_; clear n0_ n1_ n2_ n3_; (try clear hb); (try clear hb2); (try clear hk); (try clear hi)))
                  go_meet
                  case rel => exact ⟨_, ((t179 != t184)), (by first | rfl | (simp; done) | (simp [*]; done)), H', ⟨by have := HJ3.out; first | omega | exact Nat.le_refl _⟩, ⟨by (with_reducible repeat (first | refine blk_drewN ?_ _ | refine blk_drew ?_ | refine blk_alloc ?_ _)); exact BK170.out⟩, ⟨by (with_reducible repeat (first | refine blk_drewN ?_ _ | refine blk_drew ?_ | refine blk_alloc ?_ _)); exact BK171.out⟩, ⟨by repeat (first | (with_reducible first | exact HB.out | apply below_alloc | apply pw_below_drewN | apply below_drew1 | refine below_set ?_ GE170.out | refine below_set ?_ GE171.out) | exact HB.out)⟩⟩
                · rw [if_neg c63] at H
                  have c63b0 : (t180 == 1) = false := beq_eq_false_iff_ne.mpr c63
                  have c63b1 : (t180 != 1) = true := bne_iff_ne.mpr c63
                  have H' := Aside0.mk H
                  clear H
                  have hnb69 := NB171_170.out
                  have hnc69 := NB170_171.out
                  have hcz70_0 : w36.cell? ⟨gb171, 0, none⟩ = some (.int .u64 a1_0) := (blk_cell BK171.out 0).trans rfl
                  have hcz70_1 : w36.cell? ⟨gb171, 1, none⟩ = some (.int .u32 a1_1) := (blk_cell BK171.out 1).trans rfl
                  have hcz70_2 : w36.cell? ⟨gb171, 2, none⟩ = some (.int .i64 a1_2) := (blk_cell BK171.out 2).trans rfl
                  have hfz70_0 := blk_frozen BK171.out 0
                  have hfz70_1 := blk_frozen BK171.out 1
                  have hfz70_2 := blk_frozen BK171.out 2
                  have hcz71_0 : w36.cell? ⟨gb170, 0, none⟩ = some (.int .u64 a0_0) := (blk_cell BK170.out 0).trans rfl
                  have hcz71_1 : w36.cell? ⟨gb170, 1, none⟩ = some (.int .u32 a0_1) := (blk_cell BK170.out 1).trans rfl
                  have hcz71_2 : w36.cell? ⟨gb170, 2, none⟩ = some (.int .i64 a0_2) := (blk_cell BK170.out 2).trans rfl
                  have hfz71_0 := blk_frozen BK170.out 0
                  have hfz71_1 := blk_frozen BK170.out 1
                  have hfz71_2 := blk_frozen BK170.out 2
                  go_wp2_with (first | (go_at_call 8; (with_reducible refine (fwd_Covers.calls a0_1 a0_2 a1_1 a1_2 true _ A61.out).mono ?_); rintro e w' ⟨rfl, ⟨nd, rfl⟩⟩))
                  go_meet
                  case rel => exact ⟨_, (true), (by first | rfl | (simp; done) | (simp [*]; done)), H', ⟨by have := HJ3.out; first | omega | exact Nat.le_refl _⟩, ⟨by (with_reducible repeat (first | refine blk_drewN ?_ _ | refine blk_drew ?_ | refine blk_alloc ?_ _)); exact BK170.out⟩, ⟨by (with_reducible repeat (first | refine blk_drewN ?_ _ | refine blk_drew ?_ | refine blk_alloc ?_ _)); exact BK171.out⟩, ⟨by repeat (first | (with_reducible first | exact HB.out | apply below_alloc | apply pw_below_drewN | apply below_drew1 | refine below_set ?_ GE170.out | refine below_set ?_ GE171.out) | exact HB.out)⟩⟩
              · replace c62 := Bool.eq_false_iff.mpr c62
                subst c62
                have H1 : (cotterellaw34_FwdAligned.j1 kj3 t178 true a0_0 a0_1 a0_2 a1_0 a1_1 a1_2) = some r := by rw [if_neg (show ¬ (false = true) by decide)] at H; exact H
                clear H
                have H := H1
                clear H1
                have H' := Aside0.mk H
                clear H
                have hnb72 := NB171_170.out
                have hnc72 := NB170_171.out
                have hcz73_0 : w36.cell? ⟨gb171, 0, none⟩ = some (.int .u64 a1_0) := (blk_cell BK171.out 0).trans rfl
                have hcz73_1 : w36.cell? ⟨gb171, 1, none⟩ = some (.int .u32 a1_1) := (blk_cell BK171.out 1).trans rfl
                have hcz73_2 : w36.cell? ⟨gb171, 2, none⟩ = some (.int .i64 a1_2) := (blk_cell BK171.out 2).trans rfl
                have hfz73_0 := blk_frozen BK171.out 0
                have hfz73_1 := blk_frozen BK171.out 1
                have hfz73_2 := blk_frozen BK171.out 2
                have hcz74_0 : w36.cell? ⟨gb170, 0, none⟩ = some (.int .u64 a0_0) := (blk_cell BK170.out 0).trans rfl
                have hcz74_1 : w36.cell? ⟨gb170, 1, none⟩ = some (.int .u32 a0_1) := (blk_cell BK170.out 1).trans rfl
                have hcz74_2 : w36.cell? ⟨gb170, 2, none⟩ = some (.int .i64 a0_2) := (blk_cell BK170.out 2).trans rfl
                have hfz74_0 := blk_frozen BK170.out 0
                have hfz74_1 := blk_frozen BK170.out 1
                have hfz74_2 := blk_frozen BK170.out 2
                go_wp2_with (first | (go_at_call 8; (with_reducible refine (fwd_Covers.calls a0_1 a0_2 a1_1 a1_2 false _ A61.out).mono ?_); rintro e w' ⟨rfl, ⟨nd, rfl⟩⟩))
                go_meet
                case rel => exact ⟨_, (true), (by first | rfl | (simp; done) | (simp [*]; done)), H', ⟨by have := HJ3.out; first | omega | exact Nat.le_refl _⟩, ⟨by (with_reducible repeat (first | refine blk_drewN ?_ _ | refine blk_drew ?_ | refine blk_alloc ?_ _)); exact BK170.out⟩, ⟨by (with_reducible repeat (first | refine blk_drewN ?_ _ | refine blk_drew ?_ | refine blk_alloc ?_ _)); exact BK171.out⟩, ⟨by repeat (first | (with_reducible first | exact HB.out | apply below_alloc | apply pw_below_drewN | apply below_drew1 | refine below_set ?_ GE170.out | refine below_set ?_ GE171.out) | exact HB.out)⟩⟩
            · rw [if_neg c60] at H
              have c60b0 : (t178 == 1) = false := beq_eq_false_iff_ne.mpr c60
              have c60b1 : (t178 != 1) = true := bne_iff_ne.mpr c60
              have H' := Aside0.mk H
              clear H
              have hnb75 := NB171_170.out
              have hnc75 := NB170_171.out
              have hcz76_0 : w36.cell? ⟨gb171, 0, none⟩ = some (.int .u64 a1_0) := (blk_cell BK171.out 0).trans rfl
              have hcz76_1 : w36.cell? ⟨gb171, 1, none⟩ = some (.int .u32 a1_1) := (blk_cell BK171.out 1).trans rfl
              have hcz76_2 : w36.cell? ⟨gb171, 2, none⟩ = some (.int .i64 a1_2) := (blk_cell BK171.out 2).trans rfl
              have hfz76_0 := blk_frozen BK171.out 0
              have hfz76_1 := blk_frozen BK171.out 1
              have hfz76_2 := blk_frozen BK171.out 2
              have hcz77_0 : w36.cell? ⟨gb170, 0, none⟩ = some (.int .u64 a0_0) := (blk_cell BK170.out 0).trans rfl
              have hcz77_1 : w36.cell? ⟨gb170, 1, none⟩ = some (.int .u32 a0_1) := (blk_cell BK170.out 1).trans rfl
              have hcz77_2 : w36.cell? ⟨gb170, 2, none⟩ = some (.int .i64 a0_2) := (blk_cell BK170.out 2).trans rfl
              have hfz77_0 := blk_frozen BK170.out 0
              have hfz77_1 := blk_frozen BK170.out 1
              have hfz77_2 := blk_frozen BK170.out 2
              go_wp2
              go_meet
              case rel => exact ⟨_, (false), (by first | rfl | (simp; done) | (simp [*]; done)), H', ⟨by have := HJ3.out; first | omega | exact Nat.le_refl _⟩, ⟨by (with_reducible repeat (first | refine blk_drewN ?_ _ | refine blk_drew ?_ | refine blk_alloc ?_ _)); exact BK170.out⟩, ⟨by (with_reducible repeat (first | refine blk_drewN ?_ _ | refine blk_drew ?_ | refine blk_alloc ?_ _)); exact BK171.out⟩, ⟨by repeat (first | (with_reducible first | exact HB.out | apply below_alloc | apply pw_below_drewN | apply below_drew1 | refine below_set ?_ GE170.out | refine below_set ?_ GE171.out) | exact HB.out)⟩⟩
        case rest =>
          clear HC29
          try clear c1
          try clear c2
          try clear p2
          try clear c3
          try clear c4
          try clear c5
          try clear c6
          try clear c7
          try clear c8
          try clear c10
          try clear c11
          try clear c11b0
          try clear c11b1
          try clear c12
          try clear c12b0
          try clear c12b1
          try clear c13
          try clear c13b0
          try clear c13b1
          try clear c14
          try clear c15
          try clear c17
          try clear c20
          try clear c23
          try clear c25
          try clear c30
          try clear c37
          try clear c37b0
          try clear c38
          try clear c38b0
          try clear c38b1
          try clear c39
          try clear c42
          try clear c42b0
          try clear c42b1
          try clear c44
          try clear c45
          try clear c45b0
          try clear c45b1
          try clear c47
          try clear c51
          try clear c54
          try clear c57
          try clear c60
          try clear c60b0
          try clear c60b1
          try clear c62
          try clear c63
          try clear c63b0
          try clear c63b1
          try clear c65
          try clear c69
          try clear c72
          try clear c75
          try clear hcz15_0
          try clear hcz15_1
          try clear hcz15_2
          try clear hcz16_0
          try clear hcz16_1
          try clear hcz16_2
          try clear hcz18_0
          try clear hcz18_1
          try clear hcz18_2
          try clear hcz19_0
          try clear hcz19_1
          try clear hcz19_2
          try clear hcz21_0
          try clear hcz21_1
          try clear hcz21_2
          try clear hcz22_0
          try clear hcz22_1
          try clear hcz22_2
          try clear hcz24_0
          try clear hcz24_1
          try clear hcz24_2
          try clear hcz31_0
          try clear hcz31_1
          try clear hcz31_2
          try clear hcz34_0
          try clear hcz34_1
          try clear hcz34_2
          try clear hcz40_0
          try clear hcz40_1
          try clear hcz40_2
          try clear hcz41_0
          try clear hcz41_1
          try clear hcz41_2
          try clear hcz48_0
          try clear hcz48_1
          try clear hcz48_2
          try clear hcz49_0
          try clear hcz49_1
          try clear hcz49_2
          try clear hcz52_0
          try clear hcz52_1
          try clear hcz52_2
          try clear hcz53_0
          try clear hcz53_1
          try clear hcz53_2
          try clear hcz55_0
          try clear hcz55_1
          try clear hcz55_2
          try clear hcz56_0
          try clear hcz56_1
          try clear hcz56_2
          try clear hcz58_0
          try clear hcz58_1
          try clear hcz58_2
          try clear hcz59_0
          try clear hcz59_1
          try clear hcz59_2
          try clear hcz66_0
          try clear hcz66_1
          try clear hcz66_2
          try clear hcz67_0
          try clear hcz67_1
          try clear hcz67_2
          try clear hcz70_0
          try clear hcz70_1
          try clear hcz70_2
          try clear hcz71_0
          try clear hcz71_1
          try clear hcz71_2
          try clear hcz73_0
          try clear hcz73_1
          try clear hcz73_2
          try clear hcz74_0
          try clear hcz74_1
          try clear hcz74_2
          try clear hcz76_0
          try clear hcz76_1
          try clear hcz76_2
          try clear hcz77_0
          try clear hcz77_1
          try clear hcz77_2
          try clear hfz15_0
          try clear hfz15_1
          try clear hfz15_2
          try clear hfz16_0
          try clear hfz16_1
          try clear hfz16_2
          try clear hfz18_0
          try clear hfz18_1
          try clear hfz18_2
          try clear hfz19_0
          try clear hfz19_1
          try clear hfz19_2
          try clear hfz21_0
          try clear hfz21_1
          try clear hfz21_2
          try clear hfz22_0
          try clear hfz22_1
          try clear hfz22_2
          try clear hfz24_0
          try clear hfz24_1
          try clear hfz24_2
          try clear hfz31_0
          try clear hfz31_1
          try clear hfz31_2
          try clear hfz34_0
          try clear hfz34_1
          try clear hfz34_2
          try clear hfz40_0
          try clear hfz40_1
          try clear hfz40_2
          try clear hfz41_0
          try clear hfz41_1
          try clear hfz41_2
          try clear hfz48_0
          try clear hfz48_1
          try clear hfz48_2
          try clear hfz49_0
          try clear hfz49_1
          try clear hfz49_2
          try clear hfz52_0
          try clear hfz52_1
          try clear hfz52_2
          try clear hfz53_0
          try clear hfz53_1
          try clear hfz53_2
          try clear hfz55_0
          try clear hfz55_1
          try clear hfz55_2
          try clear hfz56_0
          try clear hfz56_1
          try clear hfz56_2
          try clear hfz58_0
          try clear hfz58_1
          try clear hfz58_2
          try clear hfz59_0
          try clear hfz59_1
          try clear hfz59_2
          try clear hfz66_0
          try clear hfz66_1
          try clear hfz66_2
          try clear hfz67_0
          try clear hfz67_1
          try clear hfz67_2
          try clear hfz70_0
          try clear hfz70_1
          try clear hfz70_2
          try clear hfz71_0
          try clear hfz71_1
          try clear hfz71_2
          try clear hfz73_0
          try clear hfz73_1
          try clear hfz73_2
          try clear hfz74_0
          try clear hfz74_1
          try clear hfz74_2
          try clear hfz76_0
          try clear hfz76_1
          try clear hfz76_2
          try clear hfz77_0
          try clear hfz77_1
          try clear hfz77_2
          try clear p2
          obtain ⟨kq, x95_28, rfl, HA, HJ28, BK170, BK171, HB⟩ := hcut
          cases kq with
          | zero => exact absurd HA.out (by simp [cotterellaw34_FwdAligned.j1])
          | succ kj28 =>
            have H := HA.out
            clear HA
            simp only [cotterellaw34_FwdAligned.j1] at H
            by_cases c78 : x95_28 = true
            · subst c78
              have H1 : (some false) = some r := by rw [if_pos rfl] at H; exact H
              clear H
              have H := H1
              clear H1
              obtain rfl := Option.some.inj H
              go_wp2
              go_ret
              exact ⟨by first | rfl | (simp [errW_none, errW_some] <;> rfl) | (simp [*, errW_none, errW_some] <;> rfl), by repeat (first | (with_reducible first | exact HB.out | apply below_alloc | apply pw_below_drewN | apply below_drew1 | refine below_set ?_ GE170.out | refine below_set ?_ GE171.out) | exact HB.out)⟩
            · replace c78 := Bool.eq_false_iff.mpr c78
              subst c78
              have H1 : ((cotterellaw34_share.f a0_0 a0_1 a0_2 a1_0 a1_1 a1_2).bind fun t185 => (if ((t178 != 0) == t185) = true then ((cotterellaw34_awake.f kj28).bind fun t186 => (some t186)) else (some false))) = some r := by rw [if_neg (show ¬ (false = true) by decide)] at H; exact H
              clear H
              have H := H1
              clear H1
              replace H := Option.bind_eq_some_iff.mp H
              obtain ⟨t185, A790, H⟩ := H
              replace H : (if ((t178 != 0) == t185) = true then ((cotterellaw34_awake.f kj28).bind fun t186 => (some t186)) else (some false)) = some r := H
              have A79 := Aside0.mk A790
              clear A790
              by_cases c80 : ((t178 != 0) == t185) = true
              · rw [if_pos c80] at H
                have c80b0 : ((t178 != 0) == t185) = true := c80
                (try (have c80b1 : decide ((t178 != 0) = t185) = true := by simpa using c80))
                (try (have c80b2 : ((t178 != 0) == t185) = true := by simpa using c80))
                clear c80
                replace H := Option.bind_eq_some_iff.mp H
                obtain ⟨t186, A810, H⟩ := H
                replace H : (some t186) = some r := H
                have A81 := Aside0.mk A810
                clear A810
                obtain rfl := Option.some.inj H
                have hnb82 := NB170_171.out
                have hnc82 := NB171_170.out
                have hcz83_0 : wc.cell? ⟨gb170, 0, none⟩ = some (.int .u64 a0_0) := (blk_cell BK170.out 0).trans rfl
                have hcz83_1 : wc.cell? ⟨gb170, 1, none⟩ = some (.int .u32 a0_1) := (blk_cell BK170.out 1).trans rfl
                have hcz83_2 : wc.cell? ⟨gb170, 2, none⟩ = some (.int .i64 a0_2) := (blk_cell BK170.out 2).trans rfl
                have hfz83_0 := blk_frozen BK170.out 0
                have hfz83_1 := blk_frozen BK170.out 1
                have hfz83_2 := blk_frozen BK170.out 2
                have hcz84_0 : wc.cell? ⟨gb171, 0, none⟩ = some (.int .u64 a1_0) := (blk_cell BK171.out 0).trans rfl
                have hcz84_1 : wc.cell? ⟨gb171, 1, none⟩ = some (.int .u32 a1_1) := (blk_cell BK171.out 1).trans rfl
                have hcz84_2 : wc.cell? ⟨gb171, 2, none⟩ = some (.int .i64 a1_2) := (blk_cell BK171.out 2).trans rfl
                have hfz84_0 := blk_frozen BK171.out 0
                have hfz84_1 := blk_frozen BK171.out 1
                have hfz84_2 := blk_frozen BK171.out 2
                go_wp2_with (first | ((with_reducible refine gate_callee (f := 16) rfl ?_); refine goesL_ (some 100) rfl rfl Try.func16 (by kernel_rfl) rfl #[.agg #[.int .u64 a0_0, .int .u32 a0_1, .int .i64 a0_2], .agg #[.int .u64 a1_0, .int .u32 a1_1, .int .i64 a1_2]] rfl (by (try simp only [List.map_toArray, List.map_cons, List.map_nil]); first | done | rfl | (simp only [List.length_drop, List.length_take]; rfl)) ?_; (with_reducible refine (cotterellaw34_share.calls a0_0 a0_1 a0_2 a1_0 a1_1 a1_2 t185 _ A79.out).mono ?_); rintro e w85 ⟨rfl, hb⟩; refine ⟨_, rfl, ?_⟩; have n0_ := Aside0.mk (blk_below (g := gb170) (o := .cells #[.int .u64 a0_0, .int .u32 a0_1, .int .i64 a0_2] 25 (0, 0)) (by (with_reducible repeat (first | refine blk_drewN ?_ _ | refine blk_drew ?_ | refine blk_alloc ?_ _)); exact BK170.out) hb); have n1_ := Aside0.mk (blk_below (g := gb171) (o := .cells #[.int .u64 a1_0, .int .u32 a1_1, .int .i64 a1_2] 25 (0, 0)) (by (with_reducible repeat (first | refine blk_drewN ?_ _ | refine blk_drew ?_ | refine blk_alloc ?_ _)); exact BK171.out) hb); have n2_ := Aside0.mk (below_step (by repeat (first | (with_reducible first | exact HB.out | apply below_alloc | apply pw_below_drewN | apply below_drew1 | refine below_set ?_ GE170.out | refine below_set ?_ GE171.out) | exact HB.out)) hb); clear BK170; clear BK171; clear HB; have BK170 := n0_; have BK171 := n1_; have HB := n2_; clear n0_ n1_ n2_; (try clear hb); (try clear hb2); (try clear hk); (try clear hi)) | (go_at_call 12; (with_reducible refine (cotterellaw34_awake.calls kj28  t186 _ A81.out).mono ?_); rintro e w86 ⟨rfl, hb⟩; have n0_ := Aside0.mk (blk_below (g := gb170) (o := .cells #[.int .u64 a0_0, .int .u32 a0_1, .int .i64 a0_2] 25 (0, 0)) (by (with_reducible repeat (first | refine blk_drewN ?_ _ | refine blk_drew ?_ | refine blk_alloc ?_ _)); exact BK170.out) hb); have n1_ := Aside0.mk (blk_below (g := gb171) (o := .cells #[.int .u64 a1_0, .int .u32 a1_1, .int .i64 a1_2] 25 (0, 0)) (by (with_reducible repeat (first | refine blk_drewN ?_ _ | refine blk_drew ?_ | refine blk_alloc ?_ _)); exact BK171.out) hb); have n2_ := Aside0.mk (below_step (by repeat (first | (with_reducible first | exact HB.out | apply below_alloc | apply pw_below_drewN | apply below_drew1 | refine below_set ?_ GE170.out | refine below_set ?_ GE171.out) | exact HB.out)) hb); clear BK170; clear BK171; clear HB; have BK170 := n0_; have BK171 := n1_; have HB := n2_; clear n0_ n1_ n2_; (try clear hb); (try clear hb2); (try clear hk); (try clear hi)))
                go_ret
                exact ⟨by first | rfl | (simp [errW_none, errW_some] <;> rfl) | (simp [*, errW_none, errW_some] <;> rfl), by repeat (first | (with_reducible first | exact HB.out | apply below_alloc | apply pw_below_drewN | apply below_drew1 | refine below_set ?_ GE170.out | refine below_set ?_ GE171.out) | exact HB.out)⟩
              · rw [if_neg c80] at H
                have c80b0 : ((t178 != 0) == t185) = false := by simpa using c80
                (try (have c80b1 : decide ((t178 != 0) = t185) = false := by simpa using c80))
                (try (have c80b2 : ((t178 != 0) == t185) = false := by simpa using c80))
                (try (have c80b3 : ¬ ((t178 != 0) = t185) := by simpa using c80))
                clear c80
                obtain rfl := Option.some.inj H
                have hnb87 := NB170_171.out
                have hnc87 := NB171_170.out
                have hcz88_0 : wc.cell? ⟨gb170, 0, none⟩ = some (.int .u64 a0_0) := (blk_cell BK170.out 0).trans rfl
                have hcz88_1 : wc.cell? ⟨gb170, 1, none⟩ = some (.int .u32 a0_1) := (blk_cell BK170.out 1).trans rfl
                have hcz88_2 : wc.cell? ⟨gb170, 2, none⟩ = some (.int .i64 a0_2) := (blk_cell BK170.out 2).trans rfl
                have hfz88_0 := blk_frozen BK170.out 0
                have hfz88_1 := blk_frozen BK170.out 1
                have hfz88_2 := blk_frozen BK170.out 2
                have hcz89_0 : wc.cell? ⟨gb171, 0, none⟩ = some (.int .u64 a1_0) := (blk_cell BK171.out 0).trans rfl
                have hcz89_1 : wc.cell? ⟨gb171, 1, none⟩ = some (.int .u32 a1_1) := (blk_cell BK171.out 1).trans rfl
                have hcz89_2 : wc.cell? ⟨gb171, 2, none⟩ = some (.int .i64 a1_2) := (blk_cell BK171.out 2).trans rfl
                have hfz89_0 := blk_frozen BK171.out 0
                have hfz89_1 := blk_frozen BK171.out 1
                have hfz89_2 := blk_frozen BK171.out 2
                go_wp2_with (first | ((with_reducible refine gate_callee (f := 16) rfl ?_); refine goesL_ (some 100) rfl rfl Try.func16 (by kernel_rfl) rfl #[.agg #[.int .u64 a0_0, .int .u32 a0_1, .int .i64 a0_2], .agg #[.int .u64 a1_0, .int .u32 a1_1, .int .i64 a1_2]] rfl (by (try simp only [List.map_toArray, List.map_cons, List.map_nil]); first | done | rfl | (simp only [List.length_drop, List.length_take]; rfl)) ?_; (with_reducible refine (cotterellaw34_share.calls a0_0 a0_1 a0_2 a1_0 a1_1 a1_2 t185 _ A79.out).mono ?_); rintro e w90 ⟨rfl, hb⟩; refine ⟨_, rfl, ?_⟩; have n0_ := Aside0.mk (blk_below (g := gb170) (o := .cells #[.int .u64 a0_0, .int .u32 a0_1, .int .i64 a0_2] 25 (0, 0)) (by (with_reducible repeat (first | refine blk_drewN ?_ _ | refine blk_drew ?_ | refine blk_alloc ?_ _)); exact BK170.out) hb); have n1_ := Aside0.mk (blk_below (g := gb171) (o := .cells #[.int .u64 a1_0, .int .u32 a1_1, .int .i64 a1_2] 25 (0, 0)) (by (with_reducible repeat (first | refine blk_drewN ?_ _ | refine blk_drew ?_ | refine blk_alloc ?_ _)); exact BK171.out) hb); have n2_ := Aside0.mk (below_step (by repeat (first | (with_reducible first | exact HB.out | apply below_alloc | apply pw_below_drewN | apply below_drew1 | refine below_set ?_ GE170.out | refine below_set ?_ GE171.out) | exact HB.out)) hb); clear BK170; clear BK171; clear HB; have BK170 := n0_; have BK171 := n1_; have HB := n2_; clear n0_ n1_ n2_; (try clear hb); (try clear hb2); (try clear hk); (try clear hi)))
                go_ret
                exact ⟨by first | rfl | (simp [errW_none, errW_some] <;> rfl) | (simp [*, errW_none, errW_some] <;> rfl), by repeat (first | (with_reducible first | exact HB.out | apply below_alloc | apply pw_below_drewN | apply below_drew1 | refine below_set ?_ GE170.out | refine below_set ?_ GE171.out) | exact HB.out)⟩

end Go.Proofs.Ytaeglelhoenfgaa.PFwd
