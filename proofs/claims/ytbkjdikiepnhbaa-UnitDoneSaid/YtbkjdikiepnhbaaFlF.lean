/- What Done and the document's Done come to: walks of the code. The conditions are those that each theorem names. -/
import Derived.Test.YtbkjdikiepnhbaaFlE
namespace Go.Proofs.Ytbkjdikiepnhbaa.Fl
open Go Go.Proofs Go.RowKit Go.Proofs.YtbkjdikiepnhbaaW.PrintWords Go.Proofs.YtbkjdikiepnhbaaW.PrintLast Go.Proofs.YtbkjdikiepnhbaaW.PrintMore Go.Proofs.Ytbkjdikiepnhbaa.Boxes
attribute [local go_sem] max2_int min2_int max_two min_two max_three min_three max_four min_four   -- for this text's walks alone
set_option linter.unusedVariables false
set_option linter.unusedSimpArgs false

/-- What is done, the oldest first. -/
def doneX (l : List S44) : List S44 := srtX (l.filter fun x => decide (x.f2 ≤ 0))
set_option maxHeartbeats 8000000 in
set_option maxRecDepth 100000 in
theorem done (A0 : Option Addr) (c0 : Nat) (l : List S44) (w : World) (hr0 : Kd.C k44 w A0 l.length l) (hc0 : l.length ≤ c0) (hl : l.length ≤ 1000) :
    Calls Try.prog 18 #[.slice A0 l.length c0] w fun e w' => ∃ v, e = .returned v ∧ Kd.R k44 44 w' w.heap.size (fun _ => True) v (doneX l) ∧ Below w.heap.size w w' := by
  have HR0 := Aside0.mk hr0
  have HL := Aside0.mk hl
  clear hr0 hl
  have HB := Aside0.mk (Below.refl w.heap.size w)
  go_enter Try.func18, Try.ntmps18
  go_wp2
  go_loopg [3, 8] l.length (fun kq v5 v10 w' => ∃ (x : Int), v10 = .int .i64 x ∧ Aside0 (0 ≤ x ∧ x + kq = (l.length : Int)) ∧ Aside0 (Kd.R k44 44 w' w.heap.size (fun _ => True) v5 ((l.take x.toNat).filter fun x => decide (x.f2 ≤ 0))) ∧ Aside0 (Below w.heap.size w w'))
  case atStart => exact ⟨0, (by first | rfl | (simp; done)), ⟨by simp⟩, ⟨Kd.R_nil _ _ _ _ _⟩, HB⟩
  case round =>
    clear HB
    obtain ⟨x, rfl, HX, HO, HB⟩ := hrel
    by_cases c : x < (l.length : Int)
    · have cb : decide (x < (l.length : Int)) = true := decide_eq_true c
      have p1 : 0 ≤ x := HX.out.1
      obtain ⟨ad, e1, hE, h23, h29, h30⟩ := row44 HR0.out x p1 c
      cases e1
      have HE := Aside0.mk (hE.below HB.out)
      obtain ⟨y, hy⟩ : ∃ y_, rd_T44 l x = y_ := ⟨_, rfl⟩
      rw [hy] at HE h23 h29 h30
      replace h23 := (HB.out.cell (World.block_lt_of_cell? w _ h23)).trans h23
      replace h29 := (HB.out.cell (World.block_lt_of_cell? w _ h29)).trans h29
      replace h30 := (HB.out.cell (World.block_lt_of_cell? w _ h30)).trans h30
      clear hE
      have HN : wrap64 (x + 1) = x + 1 := wrap_i (by omega) (by have := HL.out; omega)
      have HT := take_succ' l p1 c
      have HD := drop_at' l p1 c
      rw [hy] at HT HD
      have HY := Aside0.mk hy
      have HM := Aside0.mk (And.intro HN (And.intro HT HD))
      have p1' := decide_eq_true p1
      have CC := Aside0.mk c
      clear hy HN HT HD
      replace p1 := eq_true p1
      replace c := eq_true c
      clear h23 h29 h30
      by_cases d : y.f2 ≤ 0
      · have db : decide (y.f2 ≤ 0) = true := decide_eq_true d
        have DD := Aside0.mk d
        clear d
        go_wp2_with (first | ((with_reducible refine gate_dst (N := 11) rfl ?_); refine ld_elt rfl 44 _ rfl _ rfl (y) _ HE.out Try.underlying44 rfl (by kernel_rfl) ?_) | ((with_reducible refine gate_dst (N := 5) rfl ?_); refine box_fill rfl rfl (N := 5) rfl rfl _ _ rfl (by kernel_rfl) ?hr (y) (fun _ => rfl) (fun _ => rfl) ?_; (case hr => first | (go_simp; done) | (go_simp; rfl)); intro gb hg w7 hbox hb; have HO1 := Aside0.mk (Kd.R_below HO.out hb); have HB1 := Aside0.mk (below_step HB.out hb); have BK := Aside0.mk hbox; have c30 : w7.cell? ⟨gb, 30, none⟩ = some (.int .i64 y.f2) := (blk_cell hbox 30).trans rfl; clear hb hbox hg) | ((with_reducible refine gate_dst (N := 16) rfl ?_); refine wpList_load_row rfl 44 _ rfl gb rfl 44 (cs44 (y)).toArray (0, 0) _ BK.out Try.underlying44 rfl (by kernel_rfl) ?_) | ((with_reducible refine gate_dst (N := 17) rfl ?_); refine app44 rfl rfl _ _ _ 24 44 rfl rfl 256 _ Try.underlying24 info44 rfl (by decide) (xs := _) (p := y) rfl (fun _ => rfl) (fun _ => rfl) HO1.out HB1.out (below_size HB1.out) ?aL ?_; (case aL => have := HL.out; have := ln_take l x.toNat (fun x => decide (x.f2 ≤ 0)); omega); intro u9 v9 w9 hR_ hB_ hg_; have HO2 := Aside0.mk hR_; have HB2 := Aside0.mk hB_; clear hR_ hB_ hg_))
        go_roundg (gk - 1)
        case measure => have := HX.out; have := CC.out; omega
        case rel => exact ⟨x + 1, (by first | rfl | (simp; done) | (simp [HM.out.1]; done)), ⟨by have := HX.out; have := CC.out; omega⟩, ⟨by rw [HM.out.2.1, List.filter_append]; simpa [DD.out] using HO2.out⟩, HB2⟩
      · have db : decide (y.f2 ≤ 0) = false := decide_eq_false d
        have DD := Aside0.mk d
        clear d
        go_wp2_with (first | ((with_reducible refine gate_dst (N := 11) rfl ?_); refine ld_elt rfl 44 _ rfl _ rfl (y) _ HE.out Try.underlying44 rfl (by kernel_rfl) ?_) | ((with_reducible refine gate_dst (N := 5) rfl ?_); refine box_fill rfl rfl (N := 5) rfl rfl _ _ rfl (by kernel_rfl) ?hr (y) (fun _ => rfl) (fun _ => rfl) ?_; (case hr => first | (go_simp; done) | (go_simp; rfl)); intro gb hg w7 hbox hb; have HO1 := Aside0.mk (Kd.R_below HO.out hb); have HB1 := Aside0.mk (below_step HB.out hb); have BK := Aside0.mk hbox; have c30 : w7.cell? ⟨gb, 30, none⟩ = some (.int .i64 y.f2) := (blk_cell hbox 30).trans rfl; clear hb hbox hg))
        go_roundg (gk - 1)
        case measure => have := HX.out; have := CC.out; omega
        case rel => exact ⟨x + 1, (by first | rfl | (simp; done) | (simp [HM.out.1]; done)), ⟨by have := HX.out; have := CC.out; omega⟩, ⟨by have hd_ : decide (y.f2 ≤ 0) = false := decide_eq_false (by have := DD.out; omega); rw [HM.out.2.1, List.filter_append]; simpa [hd_, -decide_eq_false_iff_not] using HO1.out⟩, HB1⟩
    · have cb : decide (x < (l.length : Int)) = false := decide_eq_false c
      have e : x.toNat = l.length := by have := HX.out; omega
      have h_ := HO.out
      rw [e, List.take_length] at h_
      have HO1 := Aside0.mk h_
      have HL1 := Aside0.mk (Nat.le_trans (List.length_filter_le (fun x => decide (x.f2 ≤ 0)) l) HL.out)
      clear c h_ e
      go_wp2_with (first | (go_at_call 26; (with_reducible refine (srt w _ HB.out _ _ HO1.out HL1.out).mono ?_); rintro e_ w12 ⟨v12, rfl, hR_, hB_⟩; have HO2 := Aside0.mk hR_; have HB2 := Aside0.mk hB_; clear hR_ hB_))
      go_ret
      exact ⟨_, rfl, HO2.out, HB2.out⟩

set_option maxHeartbeats 8000000 in
set_option maxRecDepth 100000 in
theorem rdone (A0 : Option Addr) (c0 : Nat) (l : List S44) (w : World) (hr0 : Kd.C k44 w A0 l.length l) (hc0 : l.length ≤ c0) (hl : l.length ≤ 1000) :
    Calls Try.prog 19 #[.slice A0 l.length c0] w fun e w' => ∃ v, e = .returned v ∧ Kd.R k44 44 w' w.heap.size (fun _ => True) v (doneX l) ∧ Below w.heap.size w w' := by
  have HR0 := Aside0.mk hr0
  have HL := Aside0.mk hl
  clear hr0 hl
  have HB := Aside0.mk (Below.refl w.heap.size w)
  go_enter Try.func19, Try.ntmps19
  go_wp2_with (first | ((with_reducible refine gate_dst (N := 8) rfl ?_); refine Kd.R_lit k44 _ 44 ?hg (N := 8) ?hd (xs := ([] : List S44)) (inner := []) (ok := fun _ => True) (okp := fun _ => True) ?hr ?hp (fun _ hk => hk) trivial (Below.refl _ _) (Nat.le_refl _) (by simp) ?_; (case hd => rfl); (case hg => rfl); (case hr => first | (go_simp; done) | (go_simp; rfl)); (case hp => exact (Reps.none _ _)); intro v3 w3 ho4 hb hg_ hnew_; have HO := Aside0.mk (Kd.R_lower ho4 (below_size HB.out)); have HB1 := Aside0.mk (below_step HB.out hb); clear HB hg_ hnew_ hb ho4; have HB := HB1; clear HB1))
  go_loopg [3, 4] l.length (fun kq v3 v4 w' => ∃ (x : Int) (S : List S44), v4 = .int .i64 x ∧ Aside0 (0 ≤ x ∧ x + kq = (l.length : Int)) ∧ Aside0 (S = srtX ((l.take x.toNat).filter fun x => decide (x.f2 ≤ 0))) ∧ Aside0 (Kd.R k44 44 w' w.heap.size (fun _ => True) v3 S) ∧ Aside0 (Below w.heap.size w w'))
  case atStart => exact ⟨0, [], (by first | rfl | (simp; done)), ⟨by simp⟩, ⟨rfl⟩, HO, HB⟩
  case round =>
    clear HO HB
    obtain ⟨x, S, rfl, HX, HSS, HO, HB⟩ := hrel
    by_cases c : x < (l.length : Int)
    · have cb : decide (x < (l.length : Int)) = true := decide_eq_true c
      have p1 : 0 ≤ x := HX.out.1
      obtain ⟨ad, e1, hE, h23, h29, h30⟩ := row44 HR0.out x p1 c
      cases e1
      have HE := Aside0.mk (hE.below HB.out)
      obtain ⟨y, hy⟩ : ∃ y_, rd_T44 l x = y_ := ⟨_, rfl⟩
      rw [hy] at HE h23 h29 h30
      replace h23 := (HB.out.cell (World.block_lt_of_cell? w _ h23)).trans h23
      replace h29 := (HB.out.cell (World.block_lt_of_cell? w _ h29)).trans h29
      replace h30 := (HB.out.cell (World.block_lt_of_cell? w _ h30)).trans h30
      clear hE
      have HN : wrap64 (x + 1) = x + 1 := wrap_i (by omega) (by have := HL.out; omega)
      have HT := take_succ' l p1 c
      have HD := drop_at' l p1 c
      rw [hy] at HT HD
      have HY := Aside0.mk hy
      have HM := Aside0.mk (And.intro HN (And.intro HT HD))
      have p1' := decide_eq_true p1
      have CC := Aside0.mk c
      clear hy HN HT HD
      replace p1 := eq_true p1
      replace c := eq_true c
      cases gk with
      | zero => exact absurd HX.out.2 (by have := CC.out; simp; omega)
      | succ k1 =>
      by_cases d : y.f2 > 0
      · have db : decide (0 < y.f2) = true := decide_eq_true d
        have DD := Aside0.mk d
        clear d
        go_wp2
        go_roundg k1
        case measure => omega
        case rel => exact ⟨x + 1, S, (by first | rfl | (simp; done) | (simp [HM.out.1]; done)), ⟨by have := HX.out; have := CC.out; omega⟩, ⟨by have hd_ : decide (y.f2 ≤ 0) = false := decide_eq_false (by have := DD.out; omega); rw [HM.out.2.1, List.filter_append, HSS.out]; simp [hd_, -decide_eq_false_iff_not]⟩, HO, HB⟩
      · have db : decide (0 < y.f2) = false := decide_eq_false d
        have DD := Aside0.mk d
        clear d
        have hsl : S.length ≤ 1000 := by rw [HSS.out, srtX_len]; have := ln_take l x.toNat (fun x => decide (x.f2 ≤ 0)); have := HL.out; omega
        have HSL := Aside0.mk hsl
        clear hsl
        obtain ⟨Ao, co, eo⟩ := Kd.R_slice HO.out
        subst eo
        have HC := Aside0.mk (Kd.R_reads' HO.out).2.2
        have HY23 := Aside0.mk h23
        clear h23 h29
        go_wp2_with (first | ((with_reducible refine gate_dst (N := 21) rfl ?_); refine Kd.R_lit k44 _ 44 ?hg (N := 21) ?hd (xs := ([] : List S44)) (inner := []) (ok := fun _ => True) (okp := fun _ => True) ?hr ?hp (fun _ hk => hk) trivial (Below.refl _ _) (Nat.le_refl _) (by simp) ?_; (case hd => rfl); (case hg => rfl); (case hr => first | (go_simp; done) | (go_simp; rfl)); (case hp => exact (Reps.none _ _)); intro v3 w3 ho4 hb hg_ hnew_; have HNX := Aside0.mk ho4; have HBI := Aside0.mk hb; clear hg_ hnew_ hb ho4))
        clear h30
        obtain ⟨wi, rfl⟩ : ∃ w_, w_ = wr := ⟨_, rfl⟩
        go_loopg [5, 6, 7] S.length (fun kq v5 v6 v7 w' => ∃ (z : Int) (b : Bool) (nx : List S44), v7 = .int .i64 z ∧ v6 = .bool b ∧ Aside0 (0 ≤ z ∧ z + kq = (S.length : Int)) ∧ Aside0 (nx ++ (if b = true then S.drop z.toNat else ins y (S.drop z.toNat)) = ins y S) ∧ Aside0 (Kd.R k44 44 w' wi.heap.size (fun _ => True) v5 nx) ∧ Aside0 (Below wi.heap.size wi w'))
        case atStart => exact ⟨0, false, [], (by first | rfl | (simp; done)), (by first | rfl | (simp; done)), ⟨by simp⟩, ⟨by simp⟩, HNX, HBI⟩
        case round =>
          clear HNX HBI
          obtain ⟨z, b, nx, rfl, rfl, HZ, HG, HNX, HBI⟩ := hrel
          by_cases c2 : z < (S.length : Int)
          · have c2b : decide (z < (S.length : Int)) = true := decide_eq_true c2
            have z0 : 0 ≤ z := HZ.out.1
            obtain ⟨ad2, e2, hE2, h23, h29, h30⟩ := row44 HC.out z z0 c2
            cases e2
            obtain ⟨a, ha⟩ : ∃ a_, rd_T44 S z = a_ := ⟨_, rfl⟩
            rw [ha] at hE2 h23
            have HA23 := Aside0.mk ((HBI.out.cell (World.block_lt_of_cell? wi _ h23)).trans h23)
            have h1_ := Aside0.mk ((HBI.out.cell (World.block_lt_of_cell? wi _ HY23.out)).trans HY23.out)
            clear HY23
            have HY23 := h1_
            have HEA := Aside0.mk hE2
            have hd_ := drop_at' S z0 c2
            rw [ha] at hd_
            have HDZ := Aside0.mk hd_
            have HZN := Aside0.mk (wrap_i (x := z + 1) (by omega) (by have := HSL.out; omega))
            have CC2 := Aside0.mk c2
            have z0' := decide_eq_true z0
            clear ha hE2 h23 h29 h30 hd_ h1_
            replace z0 := eq_true z0
            replace c2 := eq_true c2
            cases b with
            | true =>
              have SS0 := St.start wr
              try go_wp2
              refine wp_region_st SS0 (by kernel_rfl) (by kernel_rfl) ?_
              haveI : Nonempty (Cls _ _) := ⟨⟨_, SS0⟩⟩
              repeat (first | (go_big_quiet_want; (with_reducible refine quiet_cell 40 _ rfl _ _ rfl (.int .u64 a.f0.f1) _ (fun x => (x.st.below.cell (World.block_lt_of_cell? wr _ HA23.out)).trans HA23.out) Try.underlying40 rfl ?_); go_big_quiet_on; (try simp only [Act.put, List.setIfInBounds_toArray, List.set_cons_zero, List.set_cons_succ])) | (go_big_quiet_want; (with_reducible refine quiet_cell 40 _ rfl _ _ rfl (.int .u64 y.f0.f1) _ (fun x => (x.st.below.cell (World.block_lt_of_cell? wr _ HY23.out)).trans HY23.out) Try.underlying40 rfl ?_); go_big_quiet_on; (try simp only [Act.put, List.setIfInBounds_toArray, List.set_cons_zero, List.set_cons_succ])) | go_big_quiet_step ((first | (go_at_call 27; fail))))
              refine wpQuiet_nil ?_
              rintro ⟨w8, S8⟩
              have h1_ := Aside0.mk (Kd.R_below HNX.out S8.below)
              have h2_ := Aside0.mk (below_step HBI.out S8.below)
              clear HNX HBI
              have HNX := h1_
              have HBI := h2_
              clear h1_ h2_
              go_wp2_with (first | ((with_reducible refine gate_dst (N := 56) rfl ?_); refine ld_elt rfl 44 _ rfl _ rfl (a) _ (HEA.out.below HBI.out) Try.underlying44 rfl (by kernel_rfl) ?_) | ((with_reducible refine gate_dst (N := 57) rfl ?_); refine app44 rfl rfl _ _ _ 24 44 rfl rfl 256 _ Try.underlying24 info44 rfl (by decide) (xs := _) (p := a) rfl (fun _ => rfl) (fun _ => rfl) HNX.out HBI.out (HBI.out).size ?aL57 ?_; (case aL57 => have h1_ := congrArg List.length HG.out; have h2_ := HSL.out; have h3_ := HL.out; (try cases b) <;> simp [ins_len] at h1_ <;> simp <;> omega); intro u9b v9b w9b hR_ hB_ hg_; have HNX2 := Aside0.mk hR_; have HBI2 := Aside0.mk hB_; clear hR_ hB_ hg_))
              go_roundg (gk - 1)
              case measure => have := HZ.out; have := CC2.out; omega
              case rel => exact ⟨z + 1, true, nx ++ [a], (by first | rfl | (simp; done) | (simp [HZN.out]; done)), (by first | rfl | (simp; done)), ⟨by have := HZ.out; have := CC2.out; omega⟩, ⟨by have h_ := HG.out; rw [HDZ.out] at h_; simpa using h_⟩, HNX2, HBI2⟩
            | false =>
              by_cases f : a.f0.f1 > y.f0.f1
              · have fb : decide (y.f0.f1 < a.f0.f1) = true := decide_eq_true f
                have FF := Aside0.mk f
                clear f
                have SS0 := St.start wr
                try go_wp2
                refine wp_region_st SS0 (by kernel_rfl) (by kernel_rfl) ?_
                haveI : Nonempty (Cls _ _) := ⟨⟨_, SS0⟩⟩
                repeat (first | (go_big_quiet_want; (with_reducible refine quiet_cell 40 _ rfl _ _ rfl (.int .u64 a.f0.f1) _ (fun x => (x.st.below.cell (World.block_lt_of_cell? wr _ HA23.out)).trans HA23.out) Try.underlying40 rfl ?_); go_big_quiet_on; (try simp only [Act.put, List.setIfInBounds_toArray, List.set_cons_zero, List.set_cons_succ])) | (go_big_quiet_want; (with_reducible refine quiet_cell 40 _ rfl _ _ rfl (.int .u64 y.f0.f1) _ (fun x => (x.st.below.cell (World.block_lt_of_cell? wr _ HY23.out)).trans HY23.out) Try.underlying40 rfl ?_); go_big_quiet_on; (try simp only [Act.put, List.setIfInBounds_toArray, List.set_cons_zero, List.set_cons_succ])) | go_big_quiet_step ((first | (go_at_call 27; fail))))
                refine wpQuiet_nil ?_
                rintro ⟨w8, S8⟩
                have h1_ := Aside0.mk (Kd.R_below HNX.out S8.below)
                have h2_ := Aside0.mk (below_step HBI.out S8.below)
                clear HNX HBI
                have HNX := h1_
                have HBI := h2_
                clear h1_ h2_
                go_wp2_with (first | ((with_reducible refine gate_dst (N := 49) rfl ?_); refine ld_elt rfl 44 _ rfl _ rfl (y) _ (HE.out.below HBI.out) Try.underlying44 rfl (by kernel_rfl) ?_) | ((with_reducible refine gate_dst (N := 50) rfl ?_); refine app44 rfl rfl _ _ _ 24 44 rfl rfl 256 _ Try.underlying24 info44 rfl (by decide) (xs := _) (p := y) rfl (fun _ => rfl) (fun _ => rfl) HNX.out HBI.out (HBI.out).size ?aL50 ?_; (case aL50 => have h1_ := congrArg List.length HG.out; have h2_ := HSL.out; have h3_ := HL.out; (try cases b) <;> simp [ins_len] at h1_ <;> simp <;> omega); intro u9 v9 w9 hR_ hB_ hg_; have HNX1 := Aside0.mk hR_; have HBI1 := Aside0.mk hB_; clear hR_ hB_ hg_) | ((with_reducible refine gate_dst (N := 56) rfl ?_); refine ld_elt rfl 44 _ rfl _ rfl (a) _ (HEA.out.below HBI1.out) Try.underlying44 rfl (by kernel_rfl) ?_) | ((with_reducible refine gate_dst (N := 57) rfl ?_); refine app44 rfl rfl _ _ _ 24 44 rfl rfl 256 _ Try.underlying24 info44 rfl (by decide) (xs := _) (p := a) rfl (fun _ => rfl) (fun _ => rfl) HNX1.out HBI1.out (HBI1.out).size ?aL57 ?_; (case aL57 => have h1_ := congrArg List.length HG.out; have h2_ := HSL.out; have h3_ := HL.out; (try cases b) <;> simp [ins_len] at h1_ <;> simp <;> omega); intro u9b v9b w9b hR_ hB_ hg_; have HNX2 := Aside0.mk hR_; have HBI2 := Aside0.mk hB_; clear hR_ hB_ hg_))
                go_roundg (gk - 1)
                case measure => have := HZ.out; have := CC2.out; omega
                case rel => exact ⟨z + 1, true, nx ++ [y] ++ [a], (by first | rfl | (simp; done) | (simp [HZN.out]; done)), (by first | rfl | (simp; done)), ⟨by have := HZ.out; have := CC2.out; omega⟩, ⟨by have h_ := HG.out; rw [HDZ.out] at h_; simpa [ins, FF.out] using h_⟩, HNX2, HBI2⟩
              · have fb : decide (y.f0.f1 < a.f0.f1) = false := decide_eq_false f
                have FF := Aside0.mk f
                clear f
                have SS0 := St.start wr
                try go_wp2
                refine wp_region_st SS0 (by kernel_rfl) (by kernel_rfl) ?_
                haveI : Nonempty (Cls _ _) := ⟨⟨_, SS0⟩⟩
                repeat (first | (go_big_quiet_want; (with_reducible refine quiet_cell 40 _ rfl _ _ rfl (.int .u64 a.f0.f1) _ (fun x => (x.st.below.cell (World.block_lt_of_cell? wr _ HA23.out)).trans HA23.out) Try.underlying40 rfl ?_); go_big_quiet_on; (try simp only [Act.put, List.setIfInBounds_toArray, List.set_cons_zero, List.set_cons_succ])) | (go_big_quiet_want; (with_reducible refine quiet_cell 40 _ rfl _ _ rfl (.int .u64 y.f0.f1) _ (fun x => (x.st.below.cell (World.block_lt_of_cell? wr _ HY23.out)).trans HY23.out) Try.underlying40 rfl ?_); go_big_quiet_on; (try simp only [Act.put, List.setIfInBounds_toArray, List.set_cons_zero, List.set_cons_succ])) | go_big_quiet_step ((first | (go_at_call 27; fail))))
                refine wpQuiet_nil ?_
                rintro ⟨w8, S8⟩
                have h1_ := Aside0.mk (Kd.R_below HNX.out S8.below)
                have h2_ := Aside0.mk (below_step HBI.out S8.below)
                clear HNX HBI
                have HNX := h1_
                have HBI := h2_
                clear h1_ h2_
                go_wp2_with (first | ((with_reducible refine gate_dst (N := 56) rfl ?_); refine ld_elt rfl 44 _ rfl _ rfl (a) _ (HEA.out.below HBI.out) Try.underlying44 rfl (by kernel_rfl) ?_) | ((with_reducible refine gate_dst (N := 57) rfl ?_); refine app44 rfl rfl _ _ _ 24 44 rfl rfl 256 _ Try.underlying24 info44 rfl (by decide) (xs := _) (p := a) rfl (fun _ => rfl) (fun _ => rfl) HNX.out HBI.out (HBI.out).size ?aL57 ?_; (case aL57 => have h1_ := congrArg List.length HG.out; have h2_ := HSL.out; have h3_ := HL.out; (try cases b) <;> simp [ins_len] at h1_ <;> simp <;> omega); intro u9b v9b w9b hR_ hB_ hg_; have HNX2 := Aside0.mk hR_; have HBI2 := Aside0.mk hB_; clear hR_ hB_ hg_))
                go_roundg (gk - 1)
                case measure => have := HZ.out; have := CC2.out; omega
                case rel => exact ⟨z + 1, false, nx ++ [a], (by first | rfl | (simp; done) | (simp [HZN.out]; done)), (by first | rfl | (simp; done)), ⟨by have := HZ.out; have := CC2.out; omega⟩, ⟨by have h_ := HG.out; rw [HDZ.out] at h_; have f_ : ¬ a.f0.f1 > y.f0.f1 := (by have := FF.out; omega); simpa [ins, f_] using h_⟩, HNX2, HBI2⟩
          · have c2b : decide (z < (S.length : Int)) = false := decide_eq_false c2
            have hz_ : S.drop z.toNat = [] := List.drop_eq_nil_of_le (by have := HZ.out; omega)
            have HDN := Aside0.mk hz_
            clear c2 hz_
            cases b with
            | true =>
              go_wp2
              go_roundg k1
              case measure => omega
              case rel => exact ⟨x + 1, nx, (by first | rfl | (simp; done) | (simp [HM.out.1]; done)), ⟨by have := HX.out; have := CC.out; omega⟩, ⟨by have h_ := HG.out; rw [HDN.out] at h_; have hd_ : decide (y.f2 ≤ 0) = true := decide_eq_true (by have := DD.out; omega); rw [HM.out.2.1, List.filter_append, show ([y].filter fun x => decide (x.f2 ≤ 0)) = [y] by simp [hd_, -decide_eq_true_eq], srtX_snoc, ← HSS.out]; simpa using h_⟩, ⟨Kd.R_lower HNX.out HB.out.size⟩, ⟨below_step HB.out HBI.out⟩⟩
            | false =>
              go_wp2_with (first | ((with_reducible refine gate_dst (N := 65) rfl ?_); refine ld_elt rfl 44 _ rfl _ rfl (y) _ (HE.out.below HBI.out) Try.underlying44 rfl (by kernel_rfl) ?_) | ((with_reducible refine gate_dst (N := 66) rfl ?_); refine app44 rfl rfl _ _ _ 24 44 rfl rfl 256 _ Try.underlying24 info44 rfl (by decide) (xs := _) (p := y) rfl (fun _ => rfl) (fun _ => rfl) HNX.out HBI.out (HBI.out).size ?aL66 ?_; (case aL66 => have h1_ := congrArg List.length HG.out; have h2_ := HSL.out; have h3_ := HL.out; (try cases b) <;> simp [ins_len] at h1_ <;> simp <;> omega); intro u9 v9 w9 hR_ hB_ hg_; have HNX1 := Aside0.mk hR_; have HBI1 := Aside0.mk hB_; clear hR_ hB_ hg_))
              go_roundg k1
              case measure => omega
              case rel => exact ⟨x + 1, nx ++ [y], (by first | rfl | (simp; done) | (simp [HM.out.1]; done)), ⟨by have := HX.out; have := CC.out; omega⟩, ⟨by have h_ := HG.out; rw [HDN.out] at h_; have hd_ : decide (y.f2 ≤ 0) = true := decide_eq_true (by have := DD.out; omega); rw [HM.out.2.1, List.filter_append, show ([y].filter fun x => decide (x.f2 ≤ 0)) = [y] by simp [hd_, -decide_eq_true_eq], srtX_snoc, ← HSS.out]; simpa [ins] using h_⟩, ⟨Kd.R_lower HNX1.out HB.out.size⟩, ⟨below_step HB.out HBI1.out⟩⟩
    · have cb : decide (x < (l.length : Int)) = false := decide_eq_false c
      have CC := Aside0.mk c
      clear c
      go_wp2
      go_ret
      refine ⟨_, rfl, ?_, HB.out⟩
      have e : x.toNat = l.length := by have := HX.out; have := CC.out; omega
      have := HO.out
      rw [HSS.out, e, List.take_length] at this
      exact this

end Go.Proofs.Ytbkjdikiepnhbaa.Fl
