/- What the comparison of flights, the document's Has, Room and the document's Room come to: walks of the code. The conditions are those that each theorem names. -/
import Derived.Test.YtbkjdikiepnhbaaFlF
namespace Go.Proofs.Ytbkjdikiepnhbaa.Fl
open Go Go.Proofs Go.RowKit Go.Proofs.YtbkjdikiepnhbaaW.PrintWords Go.Proofs.YtbkjdikiepnhbaaW.PrintLast Go.Proofs.YtbkjdikiepnhbaaW.PrintMore Go.Proofs.Ytbkjdikiepnhbaa.Boxes
attribute [local go_sem] max2_int min2_int max_two min_two max_three min_three max_four min_four   -- for this text's walks alone
set_option linter.unusedVariables false
set_option linter.unusedSimpArgs false

theorem eq44 (d : Nat) (w : World) (x : S44) : (Op.equalIn (d + 7) 44 (.agg (cs44 x).toArray) (.agg (cs44 x).toArray)).run Try.prog w = .ok true w := by
  unfold cs44
  rw [eqA44]
  simp
attribute [local go_sem high] eq44
set_option maxHeartbeats 8000000 in
set_option maxRecDepth 100000 in
/-- Flights that are alike are found alike. -/
theorem flights (A0 A1 : Option Addr) (c0 c1 : Nat) (l : List S44) (w : World) (hr0 : Kd.C k44 w A0 l.length l) (hr1 : Kd.C k44 w A1 l.length l) (hl : l.length ≤ 1001) :
    Calls Try.prog 14 #[.slice A0 l.length c0, .slice A1 l.length c1] w fun e w' => e = .returned (.bool true) ∧ Below w.heap.size w w' := by
  have HR0 := Aside0.mk hr0
  have HR1 := Aside0.mk hr1
  have HL := Aside0.mk hl
  clear hr0 hr1 hl
  have HB := Aside0.mk (Below.refl w.heap.size w)
  have cn : ((l.length : Int) != (l.length : Int)) = false := by simp
  go_enter Try.func14, Try.ntmps14
  go_wp2
  go_loopg [5] l.length (fun kq v5 w' => ∃ (x : Int), v5 = .int .i64 x ∧ Aside0 (0 ≤ x ∧ x + kq = (l.length : Int)) ∧ Aside0 (Below w.heap.size w w'))
  case atStart => exact ⟨0, (by first | rfl | (simp; done)), ⟨by simp⟩, HB⟩
  case round =>
    clear HB
    obtain ⟨x, rfl, HX, HB⟩ := hrel
    by_cases c : x < (l.length : Int)
    · have cb : decide (x < (l.length : Int)) = true := decide_eq_true c
      have p1 : 0 ≤ x := HX.out.1
      obtain ⟨ad, e1, hE, h23, h29, h30⟩ := row44 HR0.out x p1 c
      cases e1
      have HE := Aside0.mk (hE.below HB.out)
      obtain ⟨y, hy⟩ : ∃ y_, rd_T44 l x = y_ := ⟨_, rfl⟩
      rw [hy] at HE h23 h29 h30
      replace h23 := (HB.out.cell (World.block_lt_of_cell? w _ h23)).trans h23
      replace h29 := (HB.out.cell (World.block_lt_of_cell? w _ h29)).trans h29
      replace h30 := (HB.out.cell (World.block_lt_of_cell? w _ h30)).trans h30
      clear hE
      have HN : wrap64 (x + 1) = x + 1 := wrap_i (by omega) (by have := HL.out; omega)
      have HT := take_succ' l p1 c
      have HD := drop_at' l p1 c
      rw [hy] at HT HD
      have HY := Aside0.mk hy
      have HM := Aside0.mk (And.intro HN (And.intro HT HD))
      have p1' := decide_eq_true p1
      have CC := Aside0.mk c
      clear hy HN HT HD
      replace p1 := eq_true p1
      replace c := eq_true c
      clear h23 h29 h30
      have p2 : 0 ≤ x := HX.out.1
      obtain ⟨ad2, e2, hE2, g23, g29, g30⟩ := row44 HR1.out x p2 CC.out
      cases e2
      rw [HY.out] at hE2
      have HE2 := Aside0.mk (hE2.below HB.out)
      clear hE2 g23 g29 g30 p2
      have S0 := St.start wr
      try go_wp2
      refine wp_region_st S0 (by kernel_rfl) (by kernel_rfl) ?_
      haveI : Nonempty (Cls _ _) := ⟨⟨_, S0⟩⟩
      repeat (first | (go_big_quiet_want; (with_reducible refine quiet_elt 44 _ rfl _ rfl (y) _ (fun x => HE.out.below x.st.below) Try.underlying44 rfl (by kernel_rfl) ?_); go_big_quiet_on; (try simp only [Act.put, List.setIfInBounds_toArray, List.set_cons_zero, List.set_cons_succ])) | (go_big_quiet_want; (with_reducible refine quiet_elt 44 _ rfl _ rfl (y) _ (fun x => HE2.out.below x.st.below) Try.underlying44 rfl (by kernel_rfl) ?_); go_big_quiet_on; (try simp only [Act.put, List.setIfInBounds_toArray, List.set_cons_zero, List.set_cons_succ])) | go_big_quiet_step ((first | (go_at_call 27; fail))))
      refine wpQuiet_nil ?_
      rintro ⟨w9, S9⟩
      go_wp2
      go_roundg (gk - 1)
      case measure => have := HX.out; have := CC.out; omega
      case rel => exact ⟨x + 1, (by first | rfl | (simp; done) | (simp [HM.out.1]; done)), ⟨by have := HX.out; have := CC.out; omega⟩, ⟨below_step HB.out S9.below⟩⟩
    · have cb : decide (x < (l.length : Int)) = false := decide_eq_false c
      clear c
      go_wp2
      go_ret
      exact ⟨rfl, HB.out⟩

def hasX (l : List S44) (s : Int) : Bool := decide ((takeX l s).length < l.length)
theorem has (A0 : Option Addr) (c0 : Nat) (l : List S44) (s : Int) (w : World) (hr0 : Kd.C k44 w A0 l.length l) (hc0 : l.length ≤ c0) (hl : l.length ≤ 1000) :
    Calls Try.prog 17 #[.slice A0 l.length c0, .int .u64 s] w fun e w' => e = .returned (.bool (hasX l s)) ∧ Below w.heap.size w w' := by
  unfold hasX
  have HB := Aside0.mk (Below.refl w.heap.size w)
  go_enter Try.func17, Try.ntmps17
  go_wp2_with (first | (go_at_call 21; (with_reducible refine (rtake A0 c0 l s w hr0 hc0 hl).mono ?_); rintro e_ w2 ⟨v2, rfl, hR_, hB_⟩; obtain ⟨Ao, co, eo⟩ := Kd.R_slice hR_; subst eo; have HB1 := Aside0.mk hB_; clear hR_ hB_))
  go_ret
  exact ⟨rfl, HB1.out⟩

/-- May something begin in a unit? -/
def roomX (m d : Int) (l : List S44) (u : Int) : Bool :=
  if u = 1 ∨ u = 4 ∨ u = 5 ∨ u = 6 then true else if u = 2 ∨ u = 3 then !(l.any fun f => f.f1 == u && (u == 3 || f.f2 == latX m d u)) else false

set_option maxHeartbeats 16000000 in
set_option maxRecDepth 100000 in
theorem room {m d : Int} (cf : Cf m d) (A0 : Option Addr) (c0 : Nat) (l : List S44) (u : Int) (w : World) (hr0 : Kd.C k44 w A0 l.length l) (hc0 : l.length ≤ c0) (hl : l.length ≤ 1000) :
    Calls Try.prog 10 #[.agg cf.cs.toArray, .slice A0 l.length c0, .int .i64 u] w fun e w' => e = .returned (.bool (roomX m d l u)) ∧ Below w.heap.size w w' := by
  have HR0 := Aside0.mk hr0
  have HL := Aside0.mk hl
  clear hr0 hl
  have S0 := St.start w
  have HB := Aside0.mk (Below.refl w.heap.size w)
  by_cases c1 : u = 1
  · have c1b : (u == 1) = true := beq_iff_eq.mpr c1
    have e : roomX m d l u = true := by unfold roomX; simp [c1]
    rw [e]
    clear c1 e
    go_enter Try.func10, Try.ntmps10
    go_wp2_with (first | ((with_reducible refine gate_dst (N := 3) rfl ?_); refine box_event ?hg (N := 3) ?hd (cs := cf.cs.toArray) (t := 23) ?hr ?_; (case hd => rfl); (case hg => rfl); (case hr => first | (go_simp; done) | (go_simp; rfl)); intro g1 hg w1 hbox hb; have S1 := S0.box hg hbox hb; clear hg hbox hb; clear S0))
    go_ret
    exact ⟨rfl, S1.below⟩
  · have c1b : (u == 1) = false := beq_eq_false_iff_ne.mpr c1
    by_cases c4 : u = 4
    · have c4b : (u == 4) = true := beq_iff_eq.mpr c4
      have e : roomX m d l u = true := by unfold roomX; simp [c4]
      rw [e]
      clear c1 c4 e
      go_enter Try.func10, Try.ntmps10
      go_wp2_with (first | ((with_reducible refine gate_dst (N := 3) rfl ?_); refine box_event ?hg (N := 3) ?hd (cs := cf.cs.toArray) (t := 23) ?hr ?_; (case hd => rfl); (case hg => rfl); (case hr => first | (go_simp; done) | (go_simp; rfl)); intro g1 hg w1 hbox hb; have S1 := S0.box hg hbox hb; clear hg hbox hb; clear S0))
      go_ret
      exact ⟨rfl, S1.below⟩
    · have c4b : (u == 4) = false := beq_eq_false_iff_ne.mpr c4
      by_cases c5 : u = 5
      · have c5b : (u == 5) = true := beq_iff_eq.mpr c5
        have e : roomX m d l u = true := by unfold roomX; simp [c5]
        rw [e]
        clear c1 c4 c5 e
        go_enter Try.func10, Try.ntmps10
        go_wp2_with (first | ((with_reducible refine gate_dst (N := 3) rfl ?_); refine box_event ?hg (N := 3) ?hd (cs := cf.cs.toArray) (t := 23) ?hr ?_; (case hd => rfl); (case hg => rfl); (case hr => first | (go_simp; done) | (go_simp; rfl)); intro g1 hg w1 hbox hb; have S1 := S0.box hg hbox hb; clear hg hbox hb; clear S0))
        go_ret
        exact ⟨rfl, S1.below⟩
      · have c5b : (u == 5) = false := beq_eq_false_iff_ne.mpr c5
        by_cases c6 : u = 6
        · have c6b : (u == 6) = true := beq_iff_eq.mpr c6
          have e : roomX m d l u = true := by unfold roomX; simp [c6]
          rw [e]
          clear c1 c4 c5 c6 e
          go_enter Try.func10, Try.ntmps10
          go_wp2_with (first | ((with_reducible refine gate_dst (N := 3) rfl ?_); refine box_event ?hg (N := 3) ?hd (cs := cf.cs.toArray) (t := 23) ?hr ?_; (case hd => rfl); (case hg => rfl); (case hr => first | (go_simp; done) | (go_simp; rfl)); intro g1 hg w1 hbox hb; have S1 := S0.box hg hbox hb; clear hg hbox hb; clear S0))
          go_ret
          exact ⟨rfl, S1.below⟩
        · have c6b : (u == 6) = false := beq_eq_false_iff_ne.mpr c6
          by_cases c2 : u = 2
          · have c2b : (u == 2) = true := beq_iff_eq.mpr c2
            have c3b : (u == 3) = false := by rw [c2]; rfl
            have e : roomX m d l u = !(l.any fun f => f.f1 == u && (u == 3 || f.f2 == latX m d u)) := by unfold roomX; simp [c1, c4, c5, c6, c2]
            rw [e]
            clear c1 c4 c5 c6 c2 e
            obtain ⟨r, hr⟩ : ∃ r_ : Bool, (!(l.any fun f => f.f1 == u && (u == 3 || f.f2 == latX m d u))) = r_ := ⟨_, rfl⟩
            rw [hr]
            have HRR := Aside0.mk hr
            clear hr
            go_enter Try.func10, Try.ntmps10
            go_wp2_with (first | ((with_reducible refine gate_dst (N := 3) rfl ?_); refine box_event ?hg (N := 3) ?hd (cs := cf.cs.toArray) (t := 23) ?hr ?_; (case hd => rfl); (case hg => rfl); (case hr => first | (go_simp; done) | (go_simp; rfl)); intro g1 hg w1 hbox hb; have S1 := S0.box hg hbox hb; clear hg hbox hb; clear S0))
            clear HB
            go_loopg [20] l.length (fun kq v20 w' => ∃ (x : Int), v20 = .int .i64 x ∧ Aside0 (0 ≤ x ∧ x + kq = (l.length : Int)) ∧ Aside0 (((l.take x.toNat).any fun f => f.f1 == u && (u == 3 || f.f2 == latX m d u)) = false) ∧ Aside0 (St w w' [⟨g1, cf.cs.toArray, 23⟩]))
            case atStart => exact ⟨0, (by first | rfl | (simp; done)), ⟨by simp⟩, ⟨by simp⟩, ⟨S1⟩⟩
            case round =>
              clear S1
              obtain ⟨x, rfl, HX, HG, HS⟩ := hrel
              have HB := Aside0.mk HS.out.below
              by_cases c : x < (l.length : Int)
              · have cb : decide (x < (l.length : Int)) = true := decide_eq_true c
                have p1 : 0 ≤ x := HX.out.1
                obtain ⟨ad, e1, hE, h23, h29, h30⟩ := row44 HR0.out x p1 c
                cases e1
                have HE := Aside0.mk (hE.below HB.out)
                obtain ⟨y, hy⟩ : ∃ y_, rd_T44 l x = y_ := ⟨_, rfl⟩
                rw [hy] at HE h23 h29 h30
                replace h23 := (HB.out.cell (World.block_lt_of_cell? w _ h23)).trans h23
                replace h29 := (HB.out.cell (World.block_lt_of_cell? w _ h29)).trans h29
                replace h30 := (HB.out.cell (World.block_lt_of_cell? w _ h30)).trans h30
                clear hE
                have HN : wrap64 (x + 1) = x + 1 := wrap_i (by omega) (by have := HL.out; omega)
                have HT := take_succ' l p1 c
                have HD := drop_at' l p1 c
                rw [hy] at HT HD
                have HY := Aside0.mk hy
                have HM := Aside0.mk (And.intro HN (And.intro HT HD))
                have p1' := decide_eq_true p1
                have CC := Aside0.mk c
                clear hy HN HT HD
                replace p1 := eq_true p1
                replace c := eq_true c
                have S2 := HS.out
                clear HB HS
                have hc29 : (cs44 y).toArray[29]? = some (.int .i64 y.f1) := rfl
                have hc30 : (cs44 y).toArray[30]? = some (.int .i64 y.f2) := rfl
                go_wp2_with (first | ((with_reducible refine gate_dst (N := 23) rfl ?_); refine ld_elt rfl 44 _ rfl _ rfl (y) _ (HE.out) Try.underlying44 rfl (by kernel_rfl) ?_) | ((with_reducible refine gate_dst (N := 8) rfl ?_); refine box_fill rfl rfl (N := 8) rfl rfl _ _ rfl (by kernel_rfl) ?hr (y) (fun _ => rfl) (fun _ => rfl) ?_; (case hr => first | (go_simp; done) | (go_simp; rfl)); intro gb hg w7 hbox hb; have S3 := S2.box hg hbox hb; clear hg hbox hb))
                cases e1 : (y.f1 == u)
                · have HYB := Aside0.mk e1
                  cases e2 : (y.f2 == latX m d u)
                  · have HGB := Aside0.mk e2
                    (try simp only [Act.put, List.setIfInBounds_toArray, List.set_cons_zero, List.set_cons_succ])
                    refine wp_region_st S3 (by kernel_rfl) (by kernel_rfl) ?_
                    haveI : Nonempty (Cls _ _) := ⟨⟨_, S3⟩⟩
                    repeat (first | (go_big_quiet_want; (with_reducible refine quiet_cell 3 _ rfl _ _ rfl (.int .i64 y.f1) _ (fun x => x.st.cell (b := ⟨gb, (cs44 y).toArray, 44⟩) (by simp) hc29) Try.underlying3 rfl ?_); go_big_quiet_on; (try simp only [Act.put, List.setIfInBounds_toArray, List.set_cons_zero, List.set_cons_succ])) | (go_big_quiet_want; (with_reducible refine quiet_cell 3 _ rfl _ _ rfl (.int .i64 y.f2) _ (fun x => x.st.cell (b := ⟨gb, (cs44 y).toArray, 44⟩) (by simp) hc30) Try.underlying3 rfl ?_); go_big_quiet_on; (try simp only [Act.put, List.setIfInBounds_toArray, List.set_cons_zero, List.set_cons_succ])) | (go_big_quiet_want; (with_reducible refine quiet_load 23 _ rfl g1 rfl 23 cf.cs.toArray _ (fun x => x.st.heap ⟨g1, cf.cs.toArray, 23⟩ (by simp)) Try.underlying23 rfl (cf.size) ?_); go_big_quiet_on; (try simp only [Act.put, List.setIfInBounds_toArray, List.set_cons_zero, List.set_cons_succ])) | go_big_quiet_step ((first | (go_at_call 8; exact quiet_st (lat cf u _)))))
                    refine wpQuiet_nil ?_
                    rintro ⟨w9, S9⟩
                    go_wp2
                    go_roundg (gk - 1)
                    case measure => have := HX.out; have := CC.out; omega
                    case rel => exact ⟨x + 1, (by first | rfl | (simp; done) | (simp [HM.out.1]; done)), ⟨by have := HX.out; have := CC.out; omega⟩, ⟨by rw [HM.out.2.1, List.any_append, HG.out]; simp [HYB.out, HGB.out, c3b]⟩, ⟨S9.tail⟩⟩
                  · have HGB := Aside0.mk e2
                    (try simp only [Act.put, List.setIfInBounds_toArray, List.set_cons_zero, List.set_cons_succ])
                    refine wp_region_st S3 (by kernel_rfl) (by kernel_rfl) ?_
                    haveI : Nonempty (Cls _ _) := ⟨⟨_, S3⟩⟩
                    repeat (first | (go_big_quiet_want; (with_reducible refine quiet_cell 3 _ rfl _ _ rfl (.int .i64 y.f1) _ (fun x => x.st.cell (b := ⟨gb, (cs44 y).toArray, 44⟩) (by simp) hc29) Try.underlying3 rfl ?_); go_big_quiet_on; (try simp only [Act.put, List.setIfInBounds_toArray, List.set_cons_zero, List.set_cons_succ])) | (go_big_quiet_want; (with_reducible refine quiet_cell 3 _ rfl _ _ rfl (.int .i64 y.f2) _ (fun x => x.st.cell (b := ⟨gb, (cs44 y).toArray, 44⟩) (by simp) hc30) Try.underlying3 rfl ?_); go_big_quiet_on; (try simp only [Act.put, List.setIfInBounds_toArray, List.set_cons_zero, List.set_cons_succ])) | (go_big_quiet_want; (with_reducible refine quiet_load 23 _ rfl g1 rfl 23 cf.cs.toArray _ (fun x => x.st.heap ⟨g1, cf.cs.toArray, 23⟩ (by simp)) Try.underlying23 rfl (cf.size) ?_); go_big_quiet_on; (try simp only [Act.put, List.setIfInBounds_toArray, List.set_cons_zero, List.set_cons_succ])) | go_big_quiet_step ((first | (go_at_call 8; exact quiet_st (lat cf u _)))))
                    refine wpQuiet_nil ?_
                    rintro ⟨w9, S9⟩
                    go_wp2
                    go_roundg (gk - 1)
                    case measure => have := HX.out; have := CC.out; omega
                    case rel => exact ⟨x + 1, (by first | rfl | (simp; done) | (simp [HM.out.1]; done)), ⟨by have := HX.out; have := CC.out; omega⟩, ⟨by rw [HM.out.2.1, List.any_append, HG.out]; simp [HYB.out, HGB.out, c3b]⟩, ⟨S9.tail⟩⟩
                · have HYB := Aside0.mk e1
                  cases e2 : (y.f2 == latX m d u)
                  · have HGB := Aside0.mk e2
                    (try simp only [Act.put, List.setIfInBounds_toArray, List.set_cons_zero, List.set_cons_succ])
                    refine wp_region_st S3 (by kernel_rfl) (by kernel_rfl) ?_
                    haveI : Nonempty (Cls _ _) := ⟨⟨_, S3⟩⟩
                    repeat (first | (go_big_quiet_want; (with_reducible refine quiet_cell 3 _ rfl _ _ rfl (.int .i64 y.f1) _ (fun x => x.st.cell (b := ⟨gb, (cs44 y).toArray, 44⟩) (by simp) hc29) Try.underlying3 rfl ?_); go_big_quiet_on; (try simp only [Act.put, List.setIfInBounds_toArray, List.set_cons_zero, List.set_cons_succ])) | (go_big_quiet_want; (with_reducible refine quiet_cell 3 _ rfl _ _ rfl (.int .i64 y.f2) _ (fun x => x.st.cell (b := ⟨gb, (cs44 y).toArray, 44⟩) (by simp) hc30) Try.underlying3 rfl ?_); go_big_quiet_on; (try simp only [Act.put, List.setIfInBounds_toArray, List.set_cons_zero, List.set_cons_succ])) | (go_big_quiet_want; (with_reducible refine quiet_load 23 _ rfl g1 rfl 23 cf.cs.toArray _ (fun x => x.st.heap ⟨g1, cf.cs.toArray, 23⟩ (by simp)) Try.underlying23 rfl (cf.size) ?_); go_big_quiet_on; (try simp only [Act.put, List.setIfInBounds_toArray, List.set_cons_zero, List.set_cons_succ])) | go_big_quiet_step ((first | (go_at_call 8; exact quiet_st (lat cf u _)))))
                    refine wpQuiet_nil ?_
                    rintro ⟨w9, S9⟩
                    go_wp2
                    go_roundg (gk - 1)
                    case measure => have := HX.out; have := CC.out; omega
                    case rel => exact ⟨x + 1, (by first | rfl | (simp; done) | (simp [HM.out.1]; done)), ⟨by have := HX.out; have := CC.out; omega⟩, ⟨by rw [HM.out.2.1, List.any_append, HG.out]; simp [HYB.out, HGB.out, c3b]⟩, ⟨S9.tail⟩⟩
                  · have HGB := Aside0.mk e2
                    (try simp only [Act.put, List.setIfInBounds_toArray, List.set_cons_zero, List.set_cons_succ])
                    refine wp_region_st S3 (by kernel_rfl) (by kernel_rfl) ?_
                    haveI : Nonempty (Cls _ _) := ⟨⟨_, S3⟩⟩
                    repeat (first | (go_big_quiet_want; (with_reducible refine quiet_cell 3 _ rfl _ _ rfl (.int .i64 y.f1) _ (fun x => x.st.cell (b := ⟨gb, (cs44 y).toArray, 44⟩) (by simp) hc29) Try.underlying3 rfl ?_); go_big_quiet_on; (try simp only [Act.put, List.setIfInBounds_toArray, List.set_cons_zero, List.set_cons_succ])) | (go_big_quiet_want; (with_reducible refine quiet_cell 3 _ rfl _ _ rfl (.int .i64 y.f2) _ (fun x => x.st.cell (b := ⟨gb, (cs44 y).toArray, 44⟩) (by simp) hc30) Try.underlying3 rfl ?_); go_big_quiet_on; (try simp only [Act.put, List.setIfInBounds_toArray, List.set_cons_zero, List.set_cons_succ])) | (go_big_quiet_want; (with_reducible refine quiet_load 23 _ rfl g1 rfl 23 cf.cs.toArray _ (fun x => x.st.heap ⟨g1, cf.cs.toArray, 23⟩ (by simp)) Try.underlying23 rfl (cf.size) ?_); go_big_quiet_on; (try simp only [Act.put, List.setIfInBounds_toArray, List.set_cons_zero, List.set_cons_succ])) | go_big_quiet_step ((first | (go_at_call 8; exact quiet_st (lat cf u _)))))
                    refine wpQuiet_nil ?_
                    rintro ⟨w9, S9⟩
                    go_wp2
                    go_ret
                    have HQ := Aside0.mk (And.intro HYB.out HGB.out)
                    exact ⟨by rw [← HRR.out]; have h_ : (l.any fun f => f.f1 == u && (u == 3 || f.f2 == latX m d u)) = true := (by rw [← List.take_append_drop x.toNat l, HM.out.2.2]; simp [HQ.out, c3b]); rw [h_]; rfl, S9.below⟩
              · have cb : decide (x < (l.length : Int)) = false := decide_eq_false c
                have CC := Aside0.mk c
                clear c
                go_wp2
                go_ret
                exact ⟨by rw [← HRR.out]; have e : x.toNat = l.length := (by have := HX.out; have := CC.out; omega); have h_ := HG.out; rw [e, List.take_length] at h_; rw [h_]; rfl, HS.out.below⟩
          · have c2b : (u == 2) = false := beq_eq_false_iff_ne.mpr c2
            by_cases c3 : u = 3
            · have c3b : (u == 3) = true := beq_iff_eq.mpr c3
              have e : roomX m d l u = !(l.any fun f => f.f1 == u && (u == 3 || f.f2 == latX m d u)) := by unfold roomX; simp [c1, c4, c5, c6, c2, c3]
              rw [e]
              clear c1 c4 c5 c6 c2 c3 e
              obtain ⟨r, hr⟩ : ∃ r_ : Bool, (!(l.any fun f => f.f1 == u && (u == 3 || f.f2 == latX m d u))) = r_ := ⟨_, rfl⟩
              rw [hr]
              have HRR := Aside0.mk hr
              clear hr
              go_enter Try.func10, Try.ntmps10
              go_wp2_with (first | ((with_reducible refine gate_dst (N := 3) rfl ?_); refine box_event ?hg (N := 3) ?hd (cs := cf.cs.toArray) (t := 23) ?hr ?_; (case hd => rfl); (case hg => rfl); (case hr => first | (go_simp; done) | (go_simp; rfl)); intro g1 hg w1 hbox hb; have S1 := S0.box hg hbox hb; clear hg hbox hb; clear S0))
              clear HB
              go_loopg [20] l.length (fun kq v20 w' => ∃ (x : Int), v20 = .int .i64 x ∧ Aside0 (0 ≤ x ∧ x + kq = (l.length : Int)) ∧ Aside0 (((l.take x.toNat).any fun f => f.f1 == u && (u == 3 || f.f2 == latX m d u)) = false) ∧ Aside0 (St w w' [⟨g1, cf.cs.toArray, 23⟩]))
              case atStart => exact ⟨0, (by first | rfl | (simp; done)), ⟨by simp⟩, ⟨by simp⟩, ⟨S1⟩⟩
              case round =>
                clear S1
                obtain ⟨x, rfl, HX, HG, HS⟩ := hrel
                have HB := Aside0.mk HS.out.below
                by_cases c : x < (l.length : Int)
                · have cb : decide (x < (l.length : Int)) = true := decide_eq_true c
                  have p1 : 0 ≤ x := HX.out.1
                  obtain ⟨ad, e1, hE, h23, h29, h30⟩ := row44 HR0.out x p1 c
                  cases e1
                  have HE := Aside0.mk (hE.below HB.out)
                  obtain ⟨y, hy⟩ : ∃ y_, rd_T44 l x = y_ := ⟨_, rfl⟩
                  rw [hy] at HE h23 h29 h30
                  replace h23 := (HB.out.cell (World.block_lt_of_cell? w _ h23)).trans h23
                  replace h29 := (HB.out.cell (World.block_lt_of_cell? w _ h29)).trans h29
                  replace h30 := (HB.out.cell (World.block_lt_of_cell? w _ h30)).trans h30
                  clear hE
                  have HN : wrap64 (x + 1) = x + 1 := wrap_i (by omega) (by have := HL.out; omega)
                  have HT := take_succ' l p1 c
                  have HD := drop_at' l p1 c
                  rw [hy] at HT HD
                  have HY := Aside0.mk hy
                  have HM := Aside0.mk (And.intro HN (And.intro HT HD))
                  have p1' := decide_eq_true p1
                  have CC := Aside0.mk c
                  clear hy HN HT HD
                  replace p1 := eq_true p1
                  replace c := eq_true c
                  have S2 := HS.out
                  clear HB HS
                  have hc29 : (cs44 y).toArray[29]? = some (.int .i64 y.f1) := rfl
                  have hc30 : (cs44 y).toArray[30]? = some (.int .i64 y.f2) := rfl
                  go_wp2_with (first | ((with_reducible refine gate_dst (N := 23) rfl ?_); refine ld_elt rfl 44 _ rfl _ rfl (y) _ (HE.out) Try.underlying44 rfl (by kernel_rfl) ?_) | ((with_reducible refine gate_dst (N := 8) rfl ?_); refine box_fill rfl rfl (N := 8) rfl rfl _ _ rfl (by kernel_rfl) ?hr (y) (fun _ => rfl) (fun _ => rfl) ?_; (case hr => first | (go_simp; done) | (go_simp; rfl)); intro gb hg w7 hbox hb; have S3 := S2.box hg hbox hb; clear hg hbox hb))
                  cases e1 : (y.f1 == u)
                  · have HYB := Aside0.mk e1
                    cases e2 : (y.f2 == latX m d u)
                    · have HGB := Aside0.mk e2
                      (try simp only [Act.put, List.setIfInBounds_toArray, List.set_cons_zero, List.set_cons_succ])
                      refine wp_region_st S3 (by kernel_rfl) (by kernel_rfl) ?_
                      haveI : Nonempty (Cls _ _) := ⟨⟨_, S3⟩⟩
                      repeat (first | (go_big_quiet_want; (with_reducible refine quiet_cell 3 _ rfl _ _ rfl (.int .i64 y.f1) _ (fun x => x.st.cell (b := ⟨gb, (cs44 y).toArray, 44⟩) (by simp) hc29) Try.underlying3 rfl ?_); go_big_quiet_on; (try simp only [Act.put, List.setIfInBounds_toArray, List.set_cons_zero, List.set_cons_succ])) | (go_big_quiet_want; (with_reducible refine quiet_cell 3 _ rfl _ _ rfl (.int .i64 y.f2) _ (fun x => x.st.cell (b := ⟨gb, (cs44 y).toArray, 44⟩) (by simp) hc30) Try.underlying3 rfl ?_); go_big_quiet_on; (try simp only [Act.put, List.setIfInBounds_toArray, List.set_cons_zero, List.set_cons_succ])) | (go_big_quiet_want; (with_reducible refine quiet_load 23 _ rfl g1 rfl 23 cf.cs.toArray _ (fun x => x.st.heap ⟨g1, cf.cs.toArray, 23⟩ (by simp)) Try.underlying23 rfl (cf.size) ?_); go_big_quiet_on; (try simp only [Act.put, List.setIfInBounds_toArray, List.set_cons_zero, List.set_cons_succ])) | go_big_quiet_step ((first | (go_at_call 8; exact quiet_st (lat cf u _)))))
                      refine wpQuiet_nil ?_
                      rintro ⟨w9, S9⟩
                      go_wp2
                      go_roundg (gk - 1)
                      case measure => have := HX.out; have := CC.out; omega
                      case rel => exact ⟨x + 1, (by first | rfl | (simp; done) | (simp [HM.out.1]; done)), ⟨by have := HX.out; have := CC.out; omega⟩, ⟨by rw [HM.out.2.1, List.any_append, HG.out]; simp [HYB.out, HGB.out, c3b]⟩, ⟨S9.tail⟩⟩
                    · have HGB := Aside0.mk e2
                      (try simp only [Act.put, List.setIfInBounds_toArray, List.set_cons_zero, List.set_cons_succ])
                      refine wp_region_st S3 (by kernel_rfl) (by kernel_rfl) ?_
                      haveI : Nonempty (Cls _ _) := ⟨⟨_, S3⟩⟩
                      repeat (first | (go_big_quiet_want; (with_reducible refine quiet_cell 3 _ rfl _ _ rfl (.int .i64 y.f1) _ (fun x => x.st.cell (b := ⟨gb, (cs44 y).toArray, 44⟩) (by simp) hc29) Try.underlying3 rfl ?_); go_big_quiet_on; (try simp only [Act.put, List.setIfInBounds_toArray, List.set_cons_zero, List.set_cons_succ])) | (go_big_quiet_want; (with_reducible refine quiet_cell 3 _ rfl _ _ rfl (.int .i64 y.f2) _ (fun x => x.st.cell (b := ⟨gb, (cs44 y).toArray, 44⟩) (by simp) hc30) Try.underlying3 rfl ?_); go_big_quiet_on; (try simp only [Act.put, List.setIfInBounds_toArray, List.set_cons_zero, List.set_cons_succ])) | (go_big_quiet_want; (with_reducible refine quiet_load 23 _ rfl g1 rfl 23 cf.cs.toArray _ (fun x => x.st.heap ⟨g1, cf.cs.toArray, 23⟩ (by simp)) Try.underlying23 rfl (cf.size) ?_); go_big_quiet_on; (try simp only [Act.put, List.setIfInBounds_toArray, List.set_cons_zero, List.set_cons_succ])) | go_big_quiet_step ((first | (go_at_call 8; exact quiet_st (lat cf u _)))))
                      refine wpQuiet_nil ?_
                      rintro ⟨w9, S9⟩
                      go_wp2
                      go_roundg (gk - 1)
                      case measure => have := HX.out; have := CC.out; omega
                      case rel => exact ⟨x + 1, (by first | rfl | (simp; done) | (simp [HM.out.1]; done)), ⟨by have := HX.out; have := CC.out; omega⟩, ⟨by rw [HM.out.2.1, List.any_append, HG.out]; simp [HYB.out, HGB.out, c3b]⟩, ⟨S9.tail⟩⟩
                  · have HYB := Aside0.mk e1
                    cases e2 : (y.f2 == latX m d u)
                    · have HGB := Aside0.mk e2
                      (try simp only [Act.put, List.setIfInBounds_toArray, List.set_cons_zero, List.set_cons_succ])
                      refine wp_region_st S3 (by kernel_rfl) (by kernel_rfl) ?_
                      haveI : Nonempty (Cls _ _) := ⟨⟨_, S3⟩⟩
                      repeat (first | (go_big_quiet_want; (with_reducible refine quiet_cell 3 _ rfl _ _ rfl (.int .i64 y.f1) _ (fun x => x.st.cell (b := ⟨gb, (cs44 y).toArray, 44⟩) (by simp) hc29) Try.underlying3 rfl ?_); go_big_quiet_on; (try simp only [Act.put, List.setIfInBounds_toArray, List.set_cons_zero, List.set_cons_succ])) | (go_big_quiet_want; (with_reducible refine quiet_cell 3 _ rfl _ _ rfl (.int .i64 y.f2) _ (fun x => x.st.cell (b := ⟨gb, (cs44 y).toArray, 44⟩) (by simp) hc30) Try.underlying3 rfl ?_); go_big_quiet_on; (try simp only [Act.put, List.setIfInBounds_toArray, List.set_cons_zero, List.set_cons_succ])) | (go_big_quiet_want; (with_reducible refine quiet_load 23 _ rfl g1 rfl 23 cf.cs.toArray _ (fun x => x.st.heap ⟨g1, cf.cs.toArray, 23⟩ (by simp)) Try.underlying23 rfl (cf.size) ?_); go_big_quiet_on; (try simp only [Act.put, List.setIfInBounds_toArray, List.set_cons_zero, List.set_cons_succ])) | go_big_quiet_step ((first | (go_at_call 8; exact quiet_st (lat cf u _)))))
                      refine wpQuiet_nil ?_
                      rintro ⟨w9, S9⟩
                      go_wp2
                      go_ret
                      have HQ := Aside0.mk (And.intro HYB.out HGB.out)
                      exact ⟨by rw [← HRR.out]; have h_ : (l.any fun f => f.f1 == u && (u == 3 || f.f2 == latX m d u)) = true := (by rw [← List.take_append_drop x.toNat l, HM.out.2.2]; simp [HQ.out, c3b]); rw [h_]; rfl, S9.below⟩
                    · have HGB := Aside0.mk e2
                      (try simp only [Act.put, List.setIfInBounds_toArray, List.set_cons_zero, List.set_cons_succ])
                      refine wp_region_st S3 (by kernel_rfl) (by kernel_rfl) ?_
                      haveI : Nonempty (Cls _ _) := ⟨⟨_, S3⟩⟩
                      repeat (first | (go_big_quiet_want; (with_reducible refine quiet_cell 3 _ rfl _ _ rfl (.int .i64 y.f1) _ (fun x => x.st.cell (b := ⟨gb, (cs44 y).toArray, 44⟩) (by simp) hc29) Try.underlying3 rfl ?_); go_big_quiet_on; (try simp only [Act.put, List.setIfInBounds_toArray, List.set_cons_zero, List.set_cons_succ])) | (go_big_quiet_want; (with_reducible refine quiet_cell 3 _ rfl _ _ rfl (.int .i64 y.f2) _ (fun x => x.st.cell (b := ⟨gb, (cs44 y).toArray, 44⟩) (by simp) hc30) Try.underlying3 rfl ?_); go_big_quiet_on; (try simp only [Act.put, List.setIfInBounds_toArray, List.set_cons_zero, List.set_cons_succ])) | (go_big_quiet_want; (with_reducible refine quiet_load 23 _ rfl g1 rfl 23 cf.cs.toArray _ (fun x => x.st.heap ⟨g1, cf.cs.toArray, 23⟩ (by simp)) Try.underlying23 rfl (cf.size) ?_); go_big_quiet_on; (try simp only [Act.put, List.setIfInBounds_toArray, List.set_cons_zero, List.set_cons_succ])) | go_big_quiet_step ((first | (go_at_call 8; exact quiet_st (lat cf u _)))))
                      refine wpQuiet_nil ?_
                      rintro ⟨w9, S9⟩
                      go_wp2
                      go_ret
                      have HQ := Aside0.mk (And.intro HYB.out HGB.out)
                      exact ⟨by rw [← HRR.out]; have h_ : (l.any fun f => f.f1 == u && (u == 3 || f.f2 == latX m d u)) = true := (by rw [← List.take_append_drop x.toNat l, HM.out.2.2]; simp [HQ.out, c3b]); rw [h_]; rfl, S9.below⟩
                · have cb : decide (x < (l.length : Int)) = false := decide_eq_false c
                  have CC := Aside0.mk c
                  clear c
                  go_wp2
                  go_ret
                  exact ⟨by rw [← HRR.out]; have e : x.toNat = l.length := (by have := HX.out; have := CC.out; omega); have h_ := HG.out; rw [e, List.take_length] at h_; rw [h_]; rfl, HS.out.below⟩
            · have c3b : (u == 3) = false := beq_eq_false_iff_ne.mpr c3
              have e : roomX m d l u = false := by unfold roomX; simp [c1, c4, c5, c6, c2, c3]
              rw [e]
              clear c1 c4 c5 c6 c2 c3 e
              go_enter Try.func10, Try.ntmps10
              go_wp2_with (first | ((with_reducible refine gate_dst (N := 3) rfl ?_); refine box_event ?hg (N := 3) ?hd (cs := cf.cs.toArray) (t := 23) ?hr ?_; (case hd => rfl); (case hg => rfl); (case hr => first | (go_simp; done) | (go_simp; rfl)); intro g1 hg w1 hbox hb; have S1 := S0.box hg hbox hb; clear hg hbox hb; clear S0))
              go_ret
              exact ⟨rfl, S1.below⟩

set_option maxHeartbeats 16000000 in
set_option maxRecDepth 100000 in
theorem rroom {m d : Int} (cf : Cf m d) (A0 : Option Addr) (c0 : Nat) (l : List S44) (u : Int) (w : World) (hr0 : Kd.C k44 w A0 l.length l) (hc0 : l.length ≤ c0) (hl : l.length ≤ 1000) :
    Calls Try.prog 11 #[.agg cf.cs.toArray, .slice A0 l.length c0, .int .i64 u] w fun e w' => e = .returned (.bool (roomX m d l u)) ∧ Below w.heap.size w w' := by
  have HR0 := Aside0.mk hr0
  have HL := Aside0.mk hl
  clear hr0 hl
  have S0 := St.start w
  have HB := Aside0.mk (Below.refl w.heap.size w)
  by_cases c1 : u = 1
  · have c1b : (u == 1) = true := beq_iff_eq.mpr c1
    have e : roomX m d l u = true := by unfold roomX; simp [c1]
    rw [e]
    clear c1 e
    go_enter Try.func11, Try.ntmps11
    go_wp2_with (first | ((with_reducible refine gate_dst (N := 3) rfl ?_); refine box_event ?hg (N := 3) ?hd (cs := cf.cs.toArray) (t := 23) ?hr ?_; (case hd => rfl); (case hg => rfl); (case hr => first | (go_simp; done) | (go_simp; rfl)); intro g1 hg w1 hbox hb; have S1 := S0.box hg hbox hb; clear hg hbox hb; clear S0))
    go_ret
    exact ⟨rfl, S1.below⟩
  · have c1b : (u == 1) = false := beq_eq_false_iff_ne.mpr c1
    by_cases c4 : u = 4
    · have c4b : (u == 4) = true := beq_iff_eq.mpr c4
      have e : roomX m d l u = true := by unfold roomX; simp [c4]
      rw [e]
      clear c1 c4 e
      go_enter Try.func11, Try.ntmps11
      go_wp2_with (first | ((with_reducible refine gate_dst (N := 3) rfl ?_); refine box_event ?hg (N := 3) ?hd (cs := cf.cs.toArray) (t := 23) ?hr ?_; (case hd => rfl); (case hg => rfl); (case hr => first | (go_simp; done) | (go_simp; rfl)); intro g1 hg w1 hbox hb; have S1 := S0.box hg hbox hb; clear hg hbox hb; clear S0))
      go_ret
      exact ⟨rfl, S1.below⟩
    · have c4b : (u == 4) = false := beq_eq_false_iff_ne.mpr c4
      by_cases c5 : u = 5
      · have c5b : (u == 5) = true := beq_iff_eq.mpr c5
        have e : roomX m d l u = true := by unfold roomX; simp [c5]
        rw [e]
        clear c1 c4 c5 e
        go_enter Try.func11, Try.ntmps11
        go_wp2_with (first | ((with_reducible refine gate_dst (N := 3) rfl ?_); refine box_event ?hg (N := 3) ?hd (cs := cf.cs.toArray) (t := 23) ?hr ?_; (case hd => rfl); (case hg => rfl); (case hr => first | (go_simp; done) | (go_simp; rfl)); intro g1 hg w1 hbox hb; have S1 := S0.box hg hbox hb; clear hg hbox hb; clear S0))
        go_ret
        exact ⟨rfl, S1.below⟩
      · have c5b : (u == 5) = false := beq_eq_false_iff_ne.mpr c5
        by_cases c6 : u = 6
        · have c6b : (u == 6) = true := beq_iff_eq.mpr c6
          have e : roomX m d l u = true := by unfold roomX; simp [c6]
          rw [e]
          clear c1 c4 c5 c6 e
          go_enter Try.func11, Try.ntmps11
          go_wp2_with (first | ((with_reducible refine gate_dst (N := 3) rfl ?_); refine box_event ?hg (N := 3) ?hd (cs := cf.cs.toArray) (t := 23) ?hr ?_; (case hd => rfl); (case hg => rfl); (case hr => first | (go_simp; done) | (go_simp; rfl)); intro g1 hg w1 hbox hb; have S1 := S0.box hg hbox hb; clear hg hbox hb; clear S0))
          go_ret
          exact ⟨rfl, S1.below⟩
        · have c6b : (u == 6) = false := beq_eq_false_iff_ne.mpr c6
          by_cases c2 : u = 2
          · have c2b : (u == 2) = true := beq_iff_eq.mpr c2
            have c3b : (u == 3) = false := by rw [c2]; rfl
            have e : roomX m d l u = !(l.any fun f => f.f1 == u && (u == 3 || f.f2 == latX m d u)) := by unfold roomX; simp [c1, c4, c5, c6, c2]
            rw [e]
            clear c1 c4 c5 c6 c2 e
            obtain ⟨r, hr⟩ : ∃ r_ : Bool, (!(l.any fun f => f.f1 == u && (u == 3 || f.f2 == latX m d u))) = r_ := ⟨_, rfl⟩
            rw [hr]
            have HRR := Aside0.mk hr
            clear hr
            go_enter Try.func11, Try.ntmps11
            go_wp2_with (first | ((with_reducible refine gate_dst (N := 3) rfl ?_); refine box_event ?hg (N := 3) ?hd (cs := cf.cs.toArray) (t := 23) ?hr ?_; (case hd => rfl); (case hg => rfl); (case hr => first | (go_simp; done) | (go_simp; rfl)); intro g1 hg w1 hbox hb; have S1 := S0.box hg hbox hb; clear hg hbox hb; clear S0))
            clear HB
            go_loopg [7] l.length (fun kq v20 w' => ∃ (x : Int), v20 = .int .i64 x ∧ Aside0 (0 ≤ x ∧ x + kq = (l.length : Int)) ∧ Aside0 (((l.take x.toNat).any fun f => f.f1 == u && (u == 3 || f.f2 == latX m d u)) = false) ∧ Aside0 (St w w' [⟨g1, cf.cs.toArray, 23⟩]))
            case atStart => exact ⟨0, (by first | rfl | (simp; done)), ⟨by simp⟩, ⟨by simp⟩, ⟨S1⟩⟩
            case round =>
              clear S1
              obtain ⟨x, rfl, HX, HG, HS⟩ := hrel
              have HB := Aside0.mk HS.out.below
              by_cases c : x < (l.length : Int)
              · have cb : decide (x < (l.length : Int)) = true := decide_eq_true c
                have p1 : 0 ≤ x := HX.out.1
                obtain ⟨ad, e1, hE, h23, h29, h30⟩ := row44 HR0.out x p1 c
                cases e1
                have HE := Aside0.mk (hE.below HB.out)
                obtain ⟨y, hy⟩ : ∃ y_, rd_T44 l x = y_ := ⟨_, rfl⟩
                rw [hy] at HE h23 h29 h30
                have H29 := Aside0.mk h29
                have H30 := Aside0.mk h30
                replace h23 := (HB.out.cell (World.block_lt_of_cell? w _ h23)).trans h23
                replace h29 := (HB.out.cell (World.block_lt_of_cell? w _ h29)).trans h29
                replace h30 := (HB.out.cell (World.block_lt_of_cell? w _ h30)).trans h30
                clear hE
                have HN : wrap64 (x + 1) = x + 1 := wrap_i (by omega) (by have := HL.out; omega)
                have HT := take_succ' l p1 c
                have HD := drop_at' l p1 c
                rw [hy] at HT HD
                have HY := Aside0.mk hy
                have HM := Aside0.mk (And.intro HN (And.intro HT HD))
                have p1' := decide_eq_true p1
                have CC := Aside0.mk c
                clear hy HN HT HD
                replace p1 := eq_true p1
                replace c := eq_true c
                have S2 := HS.out
                clear HB HS
                cases e1 : (y.f1 == u)
                · have HYB := Aside0.mk e1
                  cases e2 : (y.f2 == latX m d u)
                  · have HGB := Aside0.mk e2
                    try go_wp2
                    refine wp_region_st S2 (by kernel_rfl) (by kernel_rfl) ?_
                    haveI : Nonempty (Cls _ _) := ⟨⟨_, S2⟩⟩
                    repeat (first | (go_big_quiet_want; (with_reducible refine quiet_cell 3 _ rfl _ _ rfl (.int .i64 y.f1) _ (fun x => (x.st.below.cell (World.block_lt_of_cell? w _ H29.out)).trans H29.out) Try.underlying3 rfl ?_); go_big_quiet_on; (try simp only [Act.put, List.setIfInBounds_toArray, List.set_cons_zero, List.set_cons_succ])) | (go_big_quiet_want; (with_reducible refine quiet_cell 3 _ rfl _ _ rfl (.int .i64 y.f2) _ (fun x => (x.st.below.cell (World.block_lt_of_cell? w _ H30.out)).trans H30.out) Try.underlying3 rfl ?_); go_big_quiet_on; (try simp only [Act.put, List.setIfInBounds_toArray, List.set_cons_zero, List.set_cons_succ])) | (go_big_quiet_want; (with_reducible refine quiet_load 23 _ rfl g1 rfl 23 cf.cs.toArray _ (fun x => x.st.heap ⟨g1, cf.cs.toArray, 23⟩ (by simp)) Try.underlying23 rfl (cf.size) ?_); go_big_quiet_on; (try simp only [Act.put, List.setIfInBounds_toArray, List.set_cons_zero, List.set_cons_succ])) | go_big_quiet_step ((first | (go_at_call 9; exact quiet_st (rlat cf u _)))))
                    refine wpQuiet_nil ?_
                    rintro ⟨w9, S9⟩
                    go_wp2
                    go_roundg (gk - 1)
                    case measure => have := HX.out; have := CC.out; omega
                    case rel => exact ⟨x + 1, (by first | rfl | (simp; done) | (simp [HM.out.1]; done)), ⟨by have := HX.out; have := CC.out; omega⟩, ⟨by rw [HM.out.2.1, List.any_append, HG.out]; simp [HYB.out, HGB.out, c3b]⟩, ⟨S9⟩⟩
                  · have HGB := Aside0.mk e2
                    try go_wp2
                    refine wp_region_st S2 (by kernel_rfl) (by kernel_rfl) ?_
                    haveI : Nonempty (Cls _ _) := ⟨⟨_, S2⟩⟩
                    repeat (first | (go_big_quiet_want; (with_reducible refine quiet_cell 3 _ rfl _ _ rfl (.int .i64 y.f1) _ (fun x => (x.st.below.cell (World.block_lt_of_cell? w _ H29.out)).trans H29.out) Try.underlying3 rfl ?_); go_big_quiet_on; (try simp only [Act.put, List.setIfInBounds_toArray, List.set_cons_zero, List.set_cons_succ])) | (go_big_quiet_want; (with_reducible refine quiet_cell 3 _ rfl _ _ rfl (.int .i64 y.f2) _ (fun x => (x.st.below.cell (World.block_lt_of_cell? w _ H30.out)).trans H30.out) Try.underlying3 rfl ?_); go_big_quiet_on; (try simp only [Act.put, List.setIfInBounds_toArray, List.set_cons_zero, List.set_cons_succ])) | (go_big_quiet_want; (with_reducible refine quiet_load 23 _ rfl g1 rfl 23 cf.cs.toArray _ (fun x => x.st.heap ⟨g1, cf.cs.toArray, 23⟩ (by simp)) Try.underlying23 rfl (cf.size) ?_); go_big_quiet_on; (try simp only [Act.put, List.setIfInBounds_toArray, List.set_cons_zero, List.set_cons_succ])) | go_big_quiet_step ((first | (go_at_call 9; exact quiet_st (rlat cf u _)))))
                    refine wpQuiet_nil ?_
                    rintro ⟨w9, S9⟩
                    go_wp2
                    go_roundg (gk - 1)
                    case measure => have := HX.out; have := CC.out; omega
                    case rel => exact ⟨x + 1, (by first | rfl | (simp; done) | (simp [HM.out.1]; done)), ⟨by have := HX.out; have := CC.out; omega⟩, ⟨by rw [HM.out.2.1, List.any_append, HG.out]; simp [HYB.out, HGB.out, c3b]⟩, ⟨S9⟩⟩
                · have HYB := Aside0.mk e1
                  cases e2 : (y.f2 == latX m d u)
                  · have HGB := Aside0.mk e2
                    try go_wp2
                    refine wp_region_st S2 (by kernel_rfl) (by kernel_rfl) ?_
                    haveI : Nonempty (Cls _ _) := ⟨⟨_, S2⟩⟩
                    repeat (first | (go_big_quiet_want; (with_reducible refine quiet_cell 3 _ rfl _ _ rfl (.int .i64 y.f1) _ (fun x => (x.st.below.cell (World.block_lt_of_cell? w _ H29.out)).trans H29.out) Try.underlying3 rfl ?_); go_big_quiet_on; (try simp only [Act.put, List.setIfInBounds_toArray, List.set_cons_zero, List.set_cons_succ])) | (go_big_quiet_want; (with_reducible refine quiet_cell 3 _ rfl _ _ rfl (.int .i64 y.f2) _ (fun x => (x.st.below.cell (World.block_lt_of_cell? w _ H30.out)).trans H30.out) Try.underlying3 rfl ?_); go_big_quiet_on; (try simp only [Act.put, List.setIfInBounds_toArray, List.set_cons_zero, List.set_cons_succ])) | (go_big_quiet_want; (with_reducible refine quiet_load 23 _ rfl g1 rfl 23 cf.cs.toArray _ (fun x => x.st.heap ⟨g1, cf.cs.toArray, 23⟩ (by simp)) Try.underlying23 rfl (cf.size) ?_); go_big_quiet_on; (try simp only [Act.put, List.setIfInBounds_toArray, List.set_cons_zero, List.set_cons_succ])) | go_big_quiet_step ((first | (go_at_call 9; exact quiet_st (rlat cf u _)))))
                    refine wpQuiet_nil ?_
                    rintro ⟨w9, S9⟩
                    go_wp2
                    go_roundg (gk - 1)
                    case measure => have := HX.out; have := CC.out; omega
                    case rel => exact ⟨x + 1, (by first | rfl | (simp; done) | (simp [HM.out.1]; done)), ⟨by have := HX.out; have := CC.out; omega⟩, ⟨by rw [HM.out.2.1, List.any_append, HG.out]; simp [HYB.out, HGB.out, c3b]⟩, ⟨S9⟩⟩
                  · have HGB := Aside0.mk e2
                    try go_wp2
                    refine wp_region_st S2 (by kernel_rfl) (by kernel_rfl) ?_
                    haveI : Nonempty (Cls _ _) := ⟨⟨_, S2⟩⟩
                    repeat (first | (go_big_quiet_want; (with_reducible refine quiet_cell 3 _ rfl _ _ rfl (.int .i64 y.f1) _ (fun x => (x.st.below.cell (World.block_lt_of_cell? w _ H29.out)).trans H29.out) Try.underlying3 rfl ?_); go_big_quiet_on; (try simp only [Act.put, List.setIfInBounds_toArray, List.set_cons_zero, List.set_cons_succ])) | (go_big_quiet_want; (with_reducible refine quiet_cell 3 _ rfl _ _ rfl (.int .i64 y.f2) _ (fun x => (x.st.below.cell (World.block_lt_of_cell? w _ H30.out)).trans H30.out) Try.underlying3 rfl ?_); go_big_quiet_on; (try simp only [Act.put, List.setIfInBounds_toArray, List.set_cons_zero, List.set_cons_succ])) | (go_big_quiet_want; (with_reducible refine quiet_load 23 _ rfl g1 rfl 23 cf.cs.toArray _ (fun x => x.st.heap ⟨g1, cf.cs.toArray, 23⟩ (by simp)) Try.underlying23 rfl (cf.size) ?_); go_big_quiet_on; (try simp only [Act.put, List.setIfInBounds_toArray, List.set_cons_zero, List.set_cons_succ])) | go_big_quiet_step ((first | (go_at_call 9; exact quiet_st (rlat cf u _)))))
                    refine wpQuiet_nil ?_
                    rintro ⟨w9, S9⟩
                    go_wp2
                    go_ret
                    have HQ := Aside0.mk (And.intro HYB.out HGB.out)
                    exact ⟨by rw [← HRR.out]; have h_ : (l.any fun f => f.f1 == u && (u == 3 || f.f2 == latX m d u)) = true := (by rw [← List.take_append_drop x.toNat l, HM.out.2.2]; simp [HQ.out, c3b]); rw [h_]; rfl, S9.below⟩
              · have cb : decide (x < (l.length : Int)) = false := decide_eq_false c
                have CC := Aside0.mk c
                clear c
                go_wp2
                go_ret
                exact ⟨by rw [← HRR.out]; have e : x.toNat = l.length := (by have := HX.out; have := CC.out; omega); have h_ := HG.out; rw [e, List.take_length] at h_; rw [h_]; rfl, HS.out.below⟩
          · have c2b : (u == 2) = false := beq_eq_false_iff_ne.mpr c2
            by_cases c3 : u = 3
            · have c3b : (u == 3) = true := beq_iff_eq.mpr c3
              have e : roomX m d l u = !(l.any fun f => f.f1 == u && (u == 3 || f.f2 == latX m d u)) := by unfold roomX; simp [c1, c4, c5, c6, c2, c3]
              rw [e]
              clear c1 c4 c5 c6 c2 c3 e
              obtain ⟨r, hr⟩ : ∃ r_ : Bool, (!(l.any fun f => f.f1 == u && (u == 3 || f.f2 == latX m d u))) = r_ := ⟨_, rfl⟩
              rw [hr]
              have HRR := Aside0.mk hr
              clear hr
              go_enter Try.func11, Try.ntmps11
              go_wp2_with (first | ((with_reducible refine gate_dst (N := 3) rfl ?_); refine box_event ?hg (N := 3) ?hd (cs := cf.cs.toArray) (t := 23) ?hr ?_; (case hd => rfl); (case hg => rfl); (case hr => first | (go_simp; done) | (go_simp; rfl)); intro g1 hg w1 hbox hb; have S1 := S0.box hg hbox hb; clear hg hbox hb; clear S0))
              clear HB
              go_loopg [7] l.length (fun kq v20 w' => ∃ (x : Int), v20 = .int .i64 x ∧ Aside0 (0 ≤ x ∧ x + kq = (l.length : Int)) ∧ Aside0 (((l.take x.toNat).any fun f => f.f1 == u && (u == 3 || f.f2 == latX m d u)) = false) ∧ Aside0 (St w w' [⟨g1, cf.cs.toArray, 23⟩]))
              case atStart => exact ⟨0, (by first | rfl | (simp; done)), ⟨by simp⟩, ⟨by simp⟩, ⟨S1⟩⟩
              case round =>
                clear S1
                obtain ⟨x, rfl, HX, HG, HS⟩ := hrel
                have HB := Aside0.mk HS.out.below
                by_cases c : x < (l.length : Int)
                · have cb : decide (x < (l.length : Int)) = true := decide_eq_true c
                  have p1 : 0 ≤ x := HX.out.1
                  obtain ⟨ad, e1, hE, h23, h29, h30⟩ := row44 HR0.out x p1 c
                  cases e1
                  have HE := Aside0.mk (hE.below HB.out)
                  obtain ⟨y, hy⟩ : ∃ y_, rd_T44 l x = y_ := ⟨_, rfl⟩
                  rw [hy] at HE h23 h29 h30
                  have H29 := Aside0.mk h29
                  have H30 := Aside0.mk h30
                  replace h23 := (HB.out.cell (World.block_lt_of_cell? w _ h23)).trans h23
                  replace h29 := (HB.out.cell (World.block_lt_of_cell? w _ h29)).trans h29
                  replace h30 := (HB.out.cell (World.block_lt_of_cell? w _ h30)).trans h30
                  clear hE
                  have HN : wrap64 (x + 1) = x + 1 := wrap_i (by omega) (by have := HL.out; omega)
                  have HT := take_succ' l p1 c
                  have HD := drop_at' l p1 c
                  rw [hy] at HT HD
                  have HY := Aside0.mk hy
                  have HM := Aside0.mk (And.intro HN (And.intro HT HD))
                  have p1' := decide_eq_true p1
                  have CC := Aside0.mk c
                  clear hy HN HT HD
                  replace p1 := eq_true p1
                  replace c := eq_true c
                  have S2 := HS.out
                  clear HB HS
                  cases e1 : (y.f1 == u)
                  · have HYB := Aside0.mk e1
                    cases e2 : (y.f2 == latX m d u)
                    · have HGB := Aside0.mk e2
                      try go_wp2
                      refine wp_region_st S2 (by kernel_rfl) (by kernel_rfl) ?_
                      haveI : Nonempty (Cls _ _) := ⟨⟨_, S2⟩⟩
                      repeat (first | (go_big_quiet_want; (with_reducible refine quiet_cell 3 _ rfl _ _ rfl (.int .i64 y.f1) _ (fun x => (x.st.below.cell (World.block_lt_of_cell? w _ H29.out)).trans H29.out) Try.underlying3 rfl ?_); go_big_quiet_on; (try simp only [Act.put, List.setIfInBounds_toArray, List.set_cons_zero, List.set_cons_succ])) | (go_big_quiet_want; (with_reducible refine quiet_cell 3 _ rfl _ _ rfl (.int .i64 y.f2) _ (fun x => (x.st.below.cell (World.block_lt_of_cell? w _ H30.out)).trans H30.out) Try.underlying3 rfl ?_); go_big_quiet_on; (try simp only [Act.put, List.setIfInBounds_toArray, List.set_cons_zero, List.set_cons_succ])) | (go_big_quiet_want; (with_reducible refine quiet_load 23 _ rfl g1 rfl 23 cf.cs.toArray _ (fun x => x.st.heap ⟨g1, cf.cs.toArray, 23⟩ (by simp)) Try.underlying23 rfl (cf.size) ?_); go_big_quiet_on; (try simp only [Act.put, List.setIfInBounds_toArray, List.set_cons_zero, List.set_cons_succ])) | go_big_quiet_step ((first | (go_at_call 9; exact quiet_st (rlat cf u _)))))
                      refine wpQuiet_nil ?_
                      rintro ⟨w9, S9⟩
                      go_wp2
                      go_roundg (gk - 1)
                      case measure => have := HX.out; have := CC.out; omega
                      case rel => exact ⟨x + 1, (by first | rfl | (simp; done) | (simp [HM.out.1]; done)), ⟨by have := HX.out; have := CC.out; omega⟩, ⟨by rw [HM.out.2.1, List.any_append, HG.out]; simp [HYB.out, HGB.out, c3b]⟩, ⟨S9⟩⟩
                    · have HGB := Aside0.mk e2
                      try go_wp2
                      refine wp_region_st S2 (by kernel_rfl) (by kernel_rfl) ?_
                      haveI : Nonempty (Cls _ _) := ⟨⟨_, S2⟩⟩
                      repeat (first | (go_big_quiet_want; (with_reducible refine quiet_cell 3 _ rfl _ _ rfl (.int .i64 y.f1) _ (fun x => (x.st.below.cell (World.block_lt_of_cell? w _ H29.out)).trans H29.out) Try.underlying3 rfl ?_); go_big_quiet_on; (try simp only [Act.put, List.setIfInBounds_toArray, List.set_cons_zero, List.set_cons_succ])) | (go_big_quiet_want; (with_reducible refine quiet_cell 3 _ rfl _ _ rfl (.int .i64 y.f2) _ (fun x => (x.st.below.cell (World.block_lt_of_cell? w _ H30.out)).trans H30.out) Try.underlying3 rfl ?_); go_big_quiet_on; (try simp only [Act.put, List.setIfInBounds_toArray, List.set_cons_zero, List.set_cons_succ])) | (go_big_quiet_want; (with_reducible refine quiet_load 23 _ rfl g1 rfl 23 cf.cs.toArray _ (fun x => x.st.heap ⟨g1, cf.cs.toArray, 23⟩ (by simp)) Try.underlying23 rfl (cf.size) ?_); go_big_quiet_on; (try simp only [Act.put, List.setIfInBounds_toArray, List.set_cons_zero, List.set_cons_succ])) | go_big_quiet_step ((first | (go_at_call 9; exact quiet_st (rlat cf u _)))))
                      refine wpQuiet_nil ?_
                      rintro ⟨w9, S9⟩
                      go_wp2
                      go_roundg (gk - 1)
                      case measure => have := HX.out; have := CC.out; omega
                      case rel => exact ⟨x + 1, (by first | rfl | (simp; done) | (simp [HM.out.1]; done)), ⟨by have := HX.out; have := CC.out; omega⟩, ⟨by rw [HM.out.2.1, List.any_append, HG.out]; simp [HYB.out, HGB.out, c3b]⟩, ⟨S9⟩⟩
                  · have HYB := Aside0.mk e1
                    cases e2 : (y.f2 == latX m d u)
                    · have HGB := Aside0.mk e2
                      try go_wp2
                      refine wp_region_st S2 (by kernel_rfl) (by kernel_rfl) ?_
                      haveI : Nonempty (Cls _ _) := ⟨⟨_, S2⟩⟩
                      repeat (first | (go_big_quiet_want; (with_reducible refine quiet_cell 3 _ rfl _ _ rfl (.int .i64 y.f1) _ (fun x => (x.st.below.cell (World.block_lt_of_cell? w _ H29.out)).trans H29.out) Try.underlying3 rfl ?_); go_big_quiet_on; (try simp only [Act.put, List.setIfInBounds_toArray, List.set_cons_zero, List.set_cons_succ])) | (go_big_quiet_want; (with_reducible refine quiet_cell 3 _ rfl _ _ rfl (.int .i64 y.f2) _ (fun x => (x.st.below.cell (World.block_lt_of_cell? w _ H30.out)).trans H30.out) Try.underlying3 rfl ?_); go_big_quiet_on; (try simp only [Act.put, List.setIfInBounds_toArray, List.set_cons_zero, List.set_cons_succ])) | (go_big_quiet_want; (with_reducible refine quiet_load 23 _ rfl g1 rfl 23 cf.cs.toArray _ (fun x => x.st.heap ⟨g1, cf.cs.toArray, 23⟩ (by simp)) Try.underlying23 rfl (cf.size) ?_); go_big_quiet_on; (try simp only [Act.put, List.setIfInBounds_toArray, List.set_cons_zero, List.set_cons_succ])) | go_big_quiet_step ((first | (go_at_call 9; exact quiet_st (rlat cf u _)))))
                      refine wpQuiet_nil ?_
                      rintro ⟨w9, S9⟩
                      go_wp2
                      go_ret
                      have HQ := Aside0.mk (And.intro HYB.out HGB.out)
                      exact ⟨by rw [← HRR.out]; have h_ : (l.any fun f => f.f1 == u && (u == 3 || f.f2 == latX m d u)) = true := (by rw [← List.take_append_drop x.toNat l, HM.out.2.2]; simp [HQ.out, c3b]); rw [h_]; rfl, S9.below⟩
                    · have HGB := Aside0.mk e2
                      try go_wp2
                      refine wp_region_st S2 (by kernel_rfl) (by kernel_rfl) ?_
                      haveI : Nonempty (Cls _ _) := ⟨⟨_, S2⟩⟩
                      repeat (first | (go_big_quiet_want; (with_reducible refine quiet_cell 3 _ rfl _ _ rfl (.int .i64 y.f1) _ (fun x => (x.st.below.cell (World.block_lt_of_cell? w _ H29.out)).trans H29.out) Try.underlying3 rfl ?_); go_big_quiet_on; (try simp only [Act.put, List.setIfInBounds_toArray, List.set_cons_zero, List.set_cons_succ])) | (go_big_quiet_want; (with_reducible refine quiet_cell 3 _ rfl _ _ rfl (.int .i64 y.f2) _ (fun x => (x.st.below.cell (World.block_lt_of_cell? w _ H30.out)).trans H30.out) Try.underlying3 rfl ?_); go_big_quiet_on; (try simp only [Act.put, List.setIfInBounds_toArray, List.set_cons_zero, List.set_cons_succ])) | (go_big_quiet_want; (with_reducible refine quiet_load 23 _ rfl g1 rfl 23 cf.cs.toArray _ (fun x => x.st.heap ⟨g1, cf.cs.toArray, 23⟩ (by simp)) Try.underlying23 rfl (cf.size) ?_); go_big_quiet_on; (try simp only [Act.put, List.setIfInBounds_toArray, List.set_cons_zero, List.set_cons_succ])) | go_big_quiet_step ((first | (go_at_call 9; exact quiet_st (rlat cf u _)))))
                      refine wpQuiet_nil ?_
                      rintro ⟨w9, S9⟩
                      go_wp2
                      go_ret
                      have HQ := Aside0.mk (And.intro HYB.out HGB.out)
                      exact ⟨by rw [← HRR.out]; have h_ : (l.any fun f => f.f1 == u && (u == 3 || f.f2 == latX m d u)) = true := (by rw [← List.take_append_drop x.toNat l, HM.out.2.2]; simp [HQ.out, c3b]); rw [h_]; rfl, S9.below⟩
                · have cb : decide (x < (l.length : Int)) = false := decide_eq_false c
                  have CC := Aside0.mk c
                  clear c
                  go_wp2
                  go_ret
                  exact ⟨by rw [← HRR.out]; have e : x.toNat = l.length := (by have := HX.out; have := CC.out; omega); have h_ := HG.out; rw [e, List.take_length] at h_; rw [h_]; rfl, HS.out.below⟩
            · have c3b : (u == 3) = false := beq_eq_false_iff_ne.mpr c3
              have e : roomX m d l u = false := by unfold roomX; simp [c1, c4, c5, c6, c2, c3]
              rw [e]
              clear c1 c4 c5 c6 c2 c3 e
              go_enter Try.func11, Try.ntmps11
              go_wp2_with (first | ((with_reducible refine gate_dst (N := 3) rfl ?_); refine box_event ?hg (N := 3) ?hd (cs := cf.cs.toArray) (t := 23) ?hr ?_; (case hd => rfl); (case hg => rfl); (case hr => first | (go_simp; done) | (go_simp; rfl)); intro g1 hg w1 hbox hb; have S1 := S0.box hg hbox hb; clear hg hbox hb; clear S0))
              go_ret
              exact ⟨rfl, S1.below⟩

end Go.Proofs.Ytbkjdikiepnhbaa.Fl
