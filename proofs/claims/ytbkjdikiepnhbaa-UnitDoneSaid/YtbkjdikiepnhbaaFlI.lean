/- What the document's Start comes to: a walk of the code. The conditions are those that each theorem names. -/
import Derived.Test.YtbkjdikiepnhbaaFlH
namespace Go.Proofs.Ytbkjdikiepnhbaa.Fl
open Go Go.Proofs Go.RowKit Go.Proofs.YtbkjdikiepnhbaaW.PrintWords Go.Proofs.YtbkjdikiepnhbaaW.PrintLast Go.Proofs.YtbkjdikiepnhbaaW.PrintMore Go.Proofs.Ytbkjdikiepnhbaa.Boxes
attribute [local go_sem] max2_int min2_int max_two min_two max_three min_three max_four min_four   -- for this text's walks alone
set_option linter.unusedVariables false
set_option linter.unusedSimpArgs false

set_option maxHeartbeats 8000000 in
set_option maxRecDepth 100000 in
theorem rstart {m d : Int} (cf : Cf m d) (A0 : Option Addr) (c0 : Nat) (l : List S44) (f : S44) (w : World) (hr0 : Kd.C k44 w A0 l.length l) (hc0 : l.length ≤ c0) (hl : l.length ≤ 1000) :
    Calls Try.prog 13 #[.agg cf.cs.toArray, .slice A0 l.length c0, .agg (cs44 f).toArray] w fun e w' => (∃ v, e = .returned (.tuple #[v, .bool (roomX m d l f.f1)]) ∧ Kd.R k44 44 w' w.heap.size (fun _ => True) v (if roomX m d l f.f1 = true then l ++ [begX m d f] else l)) ∧ Below w.heap.size w w' := by
  have HR0 := Aside0.mk hr0
  have HC0 := Aside0.mk hc0
  have HL := Aside0.mk hl
  clear hr0 hc0 hl
  have S0 := St.start w
  have hc29 : (cs44 f).toArray[29]? = some (.int .i64 f.f1) := rfl
  have hc30 : (cs44 f).toArray[30]? = some (.int .i64 f.f2) := rfl
  obtain ⟨r, hr⟩ : ∃ r_, roomX m d l f.f1 = r_ := ⟨_, rfl⟩
  have HRR := Aside0.mk (fun w_ (hC_ : Kd.C k44 w_ A0 l.length l) => rroom cf A0 c0 l f.f1 w_ hC_ HC0.out HL.out)
  rw [hr] at HRR ⊢
  clear hr
  go_enter Try.func13, Try.ntmps13
  go_wp2_with (first | ((with_reducible refine gate_dst (N := 3) rfl ?_); refine box_event ?hg (N := 3) ?hd (cs := cf.cs.toArray) (t := 23) ?hr ?_; (case hd => rfl); (case hg => rfl); (case hr => first | (go_simp; done) | (go_simp; rfl)); intro g1 hg w1 hbox hb; have S1 := S0.box hg hbox hb; clear hg hbox hb; clear S0) | ((with_reducible refine gate_dst (N := 5) rfl ?_); refine box_event ?hg (N := 5) ?hd (cs := (cs44 f).toArray) (t := 44) ?hr ?_; (case hd => rfl); (case hg => rfl); (case hr => first | (go_simp; done) | (go_simp; rfl)); intro g2 hg w2 hbox hb; have S2 := S1.box hg hbox hb; clear hg hbox hb; clear S1) | ((with_reducible refine gate_dst (N := 10) rfl ?_); refine Kd.R_lit k44 _ 44 ?hg (N := 10) ?hd (xs := ([] : List S44)) (inner := []) (ok := fun _ => True) (okp := fun _ => True) ?hr ?hp (fun _ hk => hk) trivial (Below.refl _ _) (Nat.le_refl _) (by simp) ?_; (case hd => rfl); (case hg => rfl); (case hr => first | (go_simp; done) | (go_simp; rfl)); (case hp => exact (Reps.none _ _)); intro v3 w3 ho4 hb hg_ hnew_; have HO := Aside0.mk ho4; have HB := Aside0.mk hb; have HS2 := Aside0.mk S2; clear hg_ hnew_ hb ho4 S2))
  go_loopg [8, 9] l.length (fun kq v8 v9 w' => ∃ (x : Int), v9 = .int .i64 x ∧ Aside0 (0 ≤ x ∧ x + kq = (l.length : Int)) ∧ Aside0 (Kd.R k44 44 w' w2.heap.size (fun _ => True) v8 (l.take x.toNat)) ∧ Aside0 (Below w2.heap.size w2 w'))
  case atStart => exact ⟨0, (by first | rfl | (simp; done)), ⟨by simp⟩, HO, HB⟩
  case round =>
    clear HO HB
    obtain ⟨x, rfl, HX, HO, HB⟩ := hrel
    by_cases c : x < (l.length : Int)
    · have cb : decide (x < (l.length : Int)) = true := decide_eq_true c
      have HBB := Aside0.mk HB
      have HBw := Aside0.mk (below_step HS2.out.below HB.out)
      clear HB
      have HB := HBw
      clear HBw
      have p1 : 0 ≤ x := HX.out.1
      obtain ⟨ad, e1, hE, h23, h29, h30⟩ := row44 HR0.out x p1 c
      cases e1
      have HE := Aside0.mk (hE.below HB.out)
      obtain ⟨y, hy⟩ : ∃ y_, rd_T44 l x = y_ := ⟨_, rfl⟩
      rw [hy] at HE h23 h29 h30
      replace h23 := (HB.out.cell (World.block_lt_of_cell? w _ h23)).trans h23
      replace h29 := (HB.out.cell (World.block_lt_of_cell? w _ h29)).trans h29
      replace h30 := (HB.out.cell (World.block_lt_of_cell? w _ h30)).trans h30
      clear hE
      have HN : wrap64 (x + 1) = x + 1 := wrap_i (by omega) (by have := HL.out; omega)
      have HT := take_succ' l p1 c
      have HD := drop_at' l p1 c
      rw [hy] at HT HD
      have HY := Aside0.mk hy
      have HM := Aside0.mk (And.intro HN (And.intro HT HD))
      have p1' := decide_eq_true p1
      have CC := Aside0.mk c
      clear hy HN HT HD
      replace p1 := eq_true p1
      replace c := eq_true c
      clear h23 h29 h30
      go_wp2_with (first | ((with_reducible refine gate_dst (N := 21) rfl ?_); refine ld_elt rfl 44 _ rfl _ rfl (y) _ HE.out Try.underlying44 rfl (by kernel_rfl) ?_) | ((with_reducible refine gate_dst (N := 22) rfl ?_); refine app44 rfl rfl _ _ _ 24 44 rfl rfl 256 _ Try.underlying24 info44 rfl (by decide) (xs := _) (p := y) rfl (fun _ => rfl) (fun _ => rfl) HO.out HBB.out.out (HBB.out.out).size ?aL22 ?_; (case aL22 => have := HL.out; rw [List.length_take]; omega); intro u9 v9 w9 hR_ hB_ hg_; have HO2 := Aside0.mk hR_; have HB2 := Aside0.mk hB_; clear hR_ hB_ hg_))
      go_roundg (gk - 1)
      case measure => have := HX.out; have := CC.out; omega
      case rel => exact ⟨x + 1, (by first | rfl | (simp; done) | (simp [HM.out.1]; done)), ⟨by have := HX.out; have := CC.out; omega⟩, ⟨by rw [HM.out.2.1]; exact HO2.out⟩, HB2⟩
    · have cb : decide (x < (l.length : Int)) = false := decide_eq_false c
      have e : x.toNat = l.length := by have := HX.out; omega
      have h_ := HO.out
      rw [e, List.take_length] at h_
      clear HO
      have HO := Aside0.mk h_
      clear c h_ e
      have S3 := HS2.out.call HB.out
      have c29 := S3.cell (b := ⟨g2, (cs44 f).toArray, 44⟩) (by simp) hc29
      cases r with
      | false =>
        go_wp2_with (first | ((with_reducible refine gate_dst (N := 24) rfl ?_); refine wpList_load_row rfl 23 _ rfl g1 rfl 23 cf.cs.toArray (0, 0) _ (S3.heap ⟨g1, cf.cs.toArray, 23⟩ (by simp)) Try.underlying23 rfl cf.size ?_) | (go_at_call 11; (with_reducible refine (HRR.out _ (Kd.C_below HR0.out S3.below)).mono ?_); rintro e_ w4 ⟨rfl, hb⟩; have S4 := S3.call hb; have hbK := Aside0.mk hb; clear hb; clear S3; have c29 := S4.cell (b := ⟨g2, (cs44 f).toArray, 44⟩) (by simp) hc29; have c30 := S4.cell (b := ⟨g2, (cs44 f).toArray, 44⟩) (by simp) hc30; have z30 := S4.frozen (b := ⟨g2, (cs44 f).toArray, 44⟩) (by simp) 30; have HOr := Aside0.mk (Kd.R_below HO.out hbK.out); have HBr := Aside0.mk (below_step HB.out hbK.out)))
        go_ret2
        have hX_ := Kd.R_lower HOr.out (below_size HS2.out.below)
        exact ⟨⟨_, rfl, by simpa using hX_⟩, S4.below⟩
      | true =>
        by_cases e5 : f.f1 = 5
        · have e5b : (f.f1 == 5) = true := beq_iff_eq.mpr e5
          have HE5 := Aside0.mk e5
          clear e5
          go_upto_region 11 with (first | ((with_reducible refine gate_dst (N := 24) rfl ?_); refine wpList_load_row rfl 23 _ rfl g1 rfl 23 cf.cs.toArray (0, 0) _ (S3.heap ⟨g1, cf.cs.toArray, 23⟩ (by simp)) Try.underlying23 rfl cf.size ?_) | (go_at_call 11; (with_reducible refine (HRR.out _ (Kd.C_below HR0.out S3.below)).mono ?_); rintro e_ w4 ⟨rfl, hb⟩; have S4 := S3.call hb; have hbK := Aside0.mk hb; clear hb; clear S3; have c29 := S4.cell (b := ⟨g2, (cs44 f).toArray, 44⟩) (by simp) hc29; have c30 := S4.cell (b := ⟨g2, (cs44 f).toArray, 44⟩) (by simp) hc30; have z30 := S4.frozen (b := ⟨g2, (cs44 f).toArray, 44⟩) (by simp) 30; have HOr := Aside0.mk (Kd.R_below HO.out hbK.out); have HBr := Aside0.mk (below_step HB.out hbK.out)) | (go_at_call 25; (with_reducible refine (rwithin _ _).mono ?_); rintro e_ w5 ⟨rfl, hb⟩; have S5 := S4.call hb; have HO5 := Aside0.mk (Kd.R_below HOr.out hb); have HB5 := Aside0.mk (below_step HBr.out hb); clear hb; clear S4; have z30 := S5.frozen (b := ⟨g2, (cs44 f).toArray, 44⟩) (by simp) 30; have c30 := S5.cell (b := ⟨g2, (cs44 f).toArray, 44⟩) (by simp) hc30))
          have S6 : St w (w5.setCell ⟨g2, 30, none⟩ (.int .i64 (wi f.f2))) [⟨g2, (cs44 {f with f2 := wi f.f2}).toArray, 44⟩, ⟨g1, cf.cs.toArray, 23⟩] := St.set (L1 := []) (b := ⟨g2, (cs44 f).toArray, 44⟩) S5 30 _
          have MV := moved_set w5 g2 30 (.int .i64 (wi f.f2))
          have hok : Kd.R k44 44 w5 w2.heap.size (fun k => k ≠ g2) _ l := Kd.R_mono (Kd.R_bound HO5.out) (fun k hk => by have := hk.2.1; have := blk_lt (HS2.out.heap ⟨g2, (cs44 f).toArray, 44⟩ (by simp)); simp at this; omega)
          have HO6 := Aside0.mk (Kd.R_mono (MV.R hok) (fun _ _ => trivial))
          have HG6 := Aside0.mk S6
          clear S5 z30 c30 c29 MV hok
          generalize World.setCell _ _ _ = w6 at S6 HG6 HO6 ⊢
          go_wp2_with (first | ((with_reducible refine gate_dst (N := 44) rfl ?_); refine wpList_load_row rfl 44 _ rfl g2 rfl 44 (cs44 ({f with f2 := wi f.f2})).toArray (0, 0) _ (S6.heap ⟨g2, (cs44 ({f with f2 := wi f.f2})).toArray, 44⟩ (by simp)) Try.underlying44 rfl (by kernel_rfl) ?_) | ((with_reducible refine gate_dst (N := 45) rfl ?_); refine app44 rfl rfl _ _ _ 24 44 rfl rfl 256 _ Try.underlying24 info44 rfl (by decide) (xs := l) (p := {f with f2 := wi f.f2}) rfl (fun _ => rfl) (fun _ => rfl) (Kd.R_lower HO6.out (below_size HS2.out.below)) HG6.out.below HG6.out.below.size ?aL ?_; (case aL => have := HL.out; omega); intro u7 v7 w7 hR_ hB_ hg_; have HO7 := Aside0.mk hR_; have HB7 := Aside0.mk hB_; clear hR_ hB_ hg_))
          go_ret2
          have hX_ : Kd.R k44 44 w7 w.heap.size (fun _ => True) v7 (l ++ [begX m d f]) := by unfold begX; rw [if_pos HE5.out]; exact HO7.out
          exact ⟨⟨v7, by first | rfl | (simp; done), by simpa using hX_⟩, HB7.out⟩
        · have e5b : (f.f1 == 5) = false := beq_eq_false_iff_ne.mpr e5
          have HE5 := Aside0.mk e5
          clear e5
          go_upto_region 11 with (first | ((with_reducible refine gate_dst (N := 24) rfl ?_); refine wpList_load_row rfl 23 _ rfl g1 rfl 23 cf.cs.toArray (0, 0) _ (S3.heap ⟨g1, cf.cs.toArray, 23⟩ (by simp)) Try.underlying23 rfl cf.size ?_) | (go_at_call 11; (with_reducible refine (HRR.out _ (Kd.C_below HR0.out S3.below)).mono ?_); rintro e_ w4 ⟨rfl, hb⟩; have S4 := S3.call hb; have hbK := Aside0.mk hb; clear hb; clear S3; have c29 := S4.cell (b := ⟨g2, (cs44 f).toArray, 44⟩) (by simp) hc29; have c30 := S4.cell (b := ⟨g2, (cs44 f).toArray, 44⟩) (by simp) hc30; have z30 := S4.frozen (b := ⟨g2, (cs44 f).toArray, 44⟩) (by simp) 30; have HOr := Aside0.mk (Kd.R_below HO.out hbK.out); have HBr := Aside0.mk (below_step HB.out hbK.out)) | ((with_reducible refine gate_dst (N := 38) rfl ?_); refine wpList_load_row rfl 23 _ rfl g1 rfl 23 cf.cs.toArray (0, 0) _ (S4.heap ⟨g1, cf.cs.toArray, 23⟩ (by simp)) Try.underlying23 rfl cf.size ?_) | (go_at_call 9; (with_reducible refine (rlat cf f.f1 _).mono ?_); rintro e_ w5 ⟨rfl, hb⟩; have S5 := S4.call hb; have HO5 := Aside0.mk (Kd.R_below HOr.out hb); have HB5 := Aside0.mk (below_step HBr.out hb); clear hb; clear S4; have z30 := S5.frozen (b := ⟨g2, (cs44 f).toArray, 44⟩) (by simp) 30; have c30 := S5.cell (b := ⟨g2, (cs44 f).toArray, 44⟩) (by simp) hc30))
          have S6 : St w (w5.setCell ⟨g2, 30, none⟩ (.int .i64 (latX m d f.f1))) [⟨g2, (cs44 {f with f2 := latX m d f.f1}).toArray, 44⟩, ⟨g1, cf.cs.toArray, 23⟩] := St.set (L1 := []) (b := ⟨g2, (cs44 f).toArray, 44⟩) S5 30 _
          have MV := moved_set w5 g2 30 (.int .i64 (latX m d f.f1))
          have hok : Kd.R k44 44 w5 w2.heap.size (fun k => k ≠ g2) _ l := Kd.R_mono (Kd.R_bound HO5.out) (fun k hk => by have := hk.2.1; have := blk_lt (HS2.out.heap ⟨g2, (cs44 f).toArray, 44⟩ (by simp)); simp at this; omega)
          have HO6 := Aside0.mk (Kd.R_mono (MV.R hok) (fun _ _ => trivial))
          have HG6 := Aside0.mk S6
          clear S5 z30 c30 c29 MV hok
          generalize World.setCell _ _ _ = w6 at S6 HG6 HO6 ⊢
          go_wp2_with (first | ((with_reducible refine gate_dst (N := 44) rfl ?_); refine wpList_load_row rfl 44 _ rfl g2 rfl 44 (cs44 ({f with f2 := latX m d f.f1})).toArray (0, 0) _ (S6.heap ⟨g2, (cs44 ({f with f2 := latX m d f.f1})).toArray, 44⟩ (by simp)) Try.underlying44 rfl (by kernel_rfl) ?_) | ((with_reducible refine gate_dst (N := 45) rfl ?_); refine app44 rfl rfl _ _ _ 24 44 rfl rfl 256 _ Try.underlying24 info44 rfl (by decide) (xs := l) (p := {f with f2 := latX m d f.f1}) rfl (fun _ => rfl) (fun _ => rfl) (Kd.R_lower HO6.out (below_size HS2.out.below)) HG6.out.below HG6.out.below.size ?aL ?_; (case aL => have := HL.out; omega); intro u7 v7 w7 hR_ hB_ hg_; have HO7 := Aside0.mk hR_; have HB7 := Aside0.mk hB_; clear hR_ hB_ hg_))
          go_ret2
          have hX_ : Kd.R k44 44 w7 w.heap.size (fun _ => True) v7 (l ++ [begX m d f]) := by unfold begX; rw [if_neg HE5.out]; exact HO7.out
          exact ⟨⟨v7, by first | rfl | (simp; done), by simpa using hX_⟩, HB7.out⟩

end Go.Proofs.Ytbkjdikiepnhbaa.Fl
