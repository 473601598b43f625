/- The law's walk. The condition: at most 60 deeds, each of a number of its type. -/
import Derived.Test.YtmpnnppgppoliaaLdL
namespace Go.Proofs.Ytmpnnppgppoliaa.Ld
open Go Go.Proofs Go.RowKit Go.Proofs.YtmpnnppgppoliaaW.PrintWords Go.Proofs.YtmpnnppgppoliaaW.PrintLast Go.Proofs.YtmpnnppgppoliaaW.PrintMore Go.Proofs.Ytmpnnppgppoliaa.Boxes Go.Proofs.Ytmpnnppgppoliaa.PFwd
attribute [local go_sem] max2_int min2_int max_two min_two max_three min_three max_four min_four   -- for this text's walks alone
set_option linter.unusedVariables false
set_option linter.unusedSimpArgs false

theorem drain_len {x : Int} {flat m : List Int} {q : List S37} {b : List S48} (h : InvS x flat m q b) : (drainX m b).length = 64 := by
  have g : ∀ (b : List S48) (m : List Int), m.length = 64 → (∀ e ∈ b, Okm 64 e.f0 e.f2) → (drainX m b).length = 64 := by
    intro b
    induction b with
    | nil => exact fun m h _ => h
    | cons e r ih => exact fun m h hb => ih _ (by rw [wrX_len e.f1 (by rw [h]; exact hb e (by simp))]; exact h) (fun y hy => hb y (by simp [hy]))
  exact g b m h.lm (fun e he => (h.hb e he).1)
theorem memD (l : List Dd) {i : Int} (h0 : 0 ≤ i) (h1 : i < (l.length : Int)) : rdD l i ∈ l := by
  have hk : i.toNat < l.length := by omega
  unfold rdD
  rw [List.getD_eq_getElem?_getD, List.getElem?_eq_getElem hk]
  exact List.getElem_mem hk
set_option maxHeartbeats 32000000 in
set_option maxRecDepth 100000 in
theorem short (A0 : Option Addr) (c0 : Nat) (l : List Dd) (w : World) (hr0 : Kd.C kD w A0 l.length l) (hl : ¬ (l.length : Int) > 60) (hgd : ∀ y ∈ l, GoodD y) :
    Calls Try.prog 4 #[.slice A0 l.length c0] w fun e w' => e = .returned (.bool true) ∧ Below w.heap.size w w' := by
  have HR0 := Aside0.mk hr0
  have HGD := Aside0.mk hgd
  have HB := Aside0.mk (Below.refl w.heap.size w)
  have cb : decide (60 < (l.length : Int)) = false := decide_eq_false hl
  clear hr0 hgd
  go_enter Try.func4, Try.ntmps4
  go_wp2
  refine start_ (n := 4) (S := fun w_ => True) (ds := []) #[false, false, false, false] (by kernel_rfl) rfl rfl trivial (fun hHeld => ?_)
  have HB1 := Aside0.mk (below_drew HB.out)
  generalize World.drew _ = w1 at HB1 hHeld ⊢
  refine join_ 0 #[true, true, true, true] (fun s : Value × Value => [(32, s.1), (33, s.2), (3, s.1), (4, s.2)]) (fun s w' => Kd.R (Kd.int .u8) 5 w' w.heap.size (fun _ => True) s.1 (List.replicate 64 0) ∧ Kd.R (Kd.int .u8) 5 w' w.heap.size (fun _ => True) s.2 (List.replicate 64 0) ∧ Below w.heap.size w w') ?_ ?_
  rotate_left
  · intro hcont
    refine two_ (i := 0) (j := 1) #[true, false, false, false] #[false, true, false, false] rfl rfl rfl rfl (by kernel_rfl) (by decide) (by decide) (fun K hK => ?_) (fun K hK => ?_)
    · refine Kd.R_make_step (Kd.int .u8) w.heap.size 5 rfl (N := 32) rfl 23 _ _ rfl 64 rfl rfl Try.underlying23 (.int .u8 0) 1 info5 rfl (by decide) (by omega) 0 (ok := fun _ => True) (okp := fun _ => True) rfl (fun _ hk => hk) trivial (by decide) (by decide) HB1.out (HB1.out).size ?_
      intro v1 w2 hR1 hB1 hg1 hn1
      refine hK.out _ _ trivial (fun _ => ?_)
      refine pure_ (i := 2) (N := some 3) (v := ?_) (a' := ?_) #[true, false, true, false] rfl rfl (by kernel_rfl) (fun _ _ _ h => h) (Or.inl ⟨by rfl, ?_⟩) ?_ ?_
      rotate_left
      · intro w'
        go_simp
        with_reducible rfl
      rotate_left
      · simp only [Act.put, List.setIfInBounds_toArray, List.set_cons_zero, List.set_cons_succ]
        rfl
      refine one_ (i := 1) (N := some 33) #[true, true, true, false] rfl rfl (by kernel_rfl) (by decide) (fun K2 hK2 => ?_)
      refine Kd.R_make_step (Kd.int .u8) w.heap.size 5 rfl (N := 33) rfl 23 _ _ rfl 64 rfl rfl Try.underlying23 (.int .u8 0) 1 info5 rfl (by decide) (by omega) 0 (ok := fun _ => True) (okp := fun _ => True) rfl (fun _ hk => hk) trivial (by decide) (by decide) hB1 (hB1).size ?_
      intro v2 w3 hR2 hB2 hg2 hn2
      refine hK2.out _ _ trivial (fun _ => ?_)
      refine pure_ (i := 3) (N := some 4) (v := ?_) (a' := ?_) #[true, true, true, true] rfl rfl (by kernel_rfl) (fun _ _ _ h => h) (Or.inl ⟨by rfl, ?_⟩) ?_ ?_
      rotate_left
      · intro w'
        go_simp
        with_reducible rfl
      rotate_left
      · simp only [Act.put, List.setIfInBounds_toArray, List.set_cons_zero, List.set_cons_succ]
        rfl
      exact norm_ rfl (hcont (v1, v2) w3 ⟨Kd.R_below hR1 (hg_below hg2), hR2, hB2⟩)
    · refine Kd.R_make_step (Kd.int .u8) w.heap.size 5 rfl (N := 33) rfl 23 _ _ rfl 64 rfl rfl Try.underlying23 (.int .u8 0) 1 info5 rfl (by decide) (by omega) 0 (ok := fun _ => True) (okp := fun _ => True) rfl (fun _ hk => hk) trivial (by decide) (by decide) HB1.out (HB1.out).size ?_
      intro v1 w2 hR1 hB1 hg1 hn1
      refine hK.out _ _ trivial (fun _ => ?_)
      refine one_ (i := 0) (N := some 32) #[true, true, false, false] rfl rfl (by kernel_rfl) (by decide) (fun K2 hK2 => ?_)
      refine Kd.R_make_step (Kd.int .u8) w.heap.size 5 rfl (N := 32) rfl 23 _ _ rfl 64 rfl rfl Try.underlying23 (.int .u8 0) 1 info5 rfl (by decide) (by omega) 0 (ok := fun _ => True) (okp := fun _ => True) rfl (fun _ hk => hk) trivial (by decide) (by decide) hB1 (hB1).size ?_
      intro v2 w3 hR2 hB2 hg2 hn2
      refine hK2.out _ _ trivial (fun _ => ?_)
      refine pure_ (i := 2) (N := some 3) (v := ?_) (a' := ?_) #[true, true, true, false] rfl rfl (by kernel_rfl) (fun _ _ _ h => h) (Or.inl ⟨by rfl, ?_⟩) ?_ ?_
      rotate_left
      · intro w'
        go_simp
        with_reducible rfl
      rotate_left
      · simp only [Act.put, List.setIfInBounds_toArray, List.set_cons_zero, List.set_cons_succ]
        rfl
      refine pure_ (i := 3) (N := some 4) (v := ?_) (a' := ?_) #[true, true, true, true] rfl rfl (by kernel_rfl) (fun _ _ _ h => h) (Or.inl ⟨by rfl, ?_⟩) ?_ ?_
      rotate_left
      · intro w'
        go_simp
        with_reducible rfl
      rotate_left
      · simp only [Act.put, List.setIfInBounds_toArray, List.set_cons_zero, List.set_cons_succ]
        rfl
      exact norm_ rfl (hcont (v2, v1) w3 ⟨hR2, Kd.R_below hR1 (hg_below hg2), hB2⟩)
  rintro ⟨v1, v2⟩ w2 ⟨hR1, hR2, hB2⟩
  refine norm_ (a' := ?_) ?_ ?_
  rotate_left
  · simp only [putAll]
    simp only [Act.put, List.setIfInBounds_toArray, List.set_cons_zero, List.set_cons_succ]
    rfl
  obtain ⟨A3, c3, e3⟩ := Kd.R_slice hR1
  obtain ⟨A4, c4, e4⟩ := Kd.R_slice hR2
  rw [List.length_replicate] at e3 e4
  subst e3
  subst e4
  have HC3 := Aside0.mk (Kd.R_reads' hR1).2
  have HC4 := Aside0.mk (Kd.R_reads' hR2).2
  rw [List.length_replicate] at HC3 HC4
  have HB2 := Aside0.mk hB2
  clear hR1 hR2 hB2 HB1 hHeld
  refine done_ (by kernel_rfl) ?_
  
  clear HB
  go_wp2
  go_loopg [3, 4, 5, 6, 7] l.length (fun kq v3 v4 v5 v6 v7 w' => ∃ (x : Int) (flat m : List Int) (q : List S37) (b : List S48) (A3 A4 A5 A6 : Option Addr) (c3 c4 c5 c6 : Nat), v7 = .int .i64 x ∧ v3 = .slice A3 flat.length c3 ∧ v4 = .slice A4 m.length c4 ∧ v5 = .slice A5 q.length c5 ∧ v6 = .slice A6 b.length c6 ∧ Aside0 (0 ≤ x ∧ x + kq = (l.length : Int)) ∧ Aside0 (InvS x flat m q b) ∧ Aside0 (QF w' flat m q b A3 A4 A5 A6 c3 c4 c5 c6) ∧ Aside0 (Below w.heap.size w w'))
  case atStart => exact ⟨0, List.replicate 64 0, List.replicate 64 0, [], [], A3, A4, none, none, c3, c4, 0, 0, (by first | rfl | (simp; done)), (by first | rfl | (simp; done)), (by first | rfl | (simp; done)), (by first | rfl | (simp; done)), (by first | rfl | (simp; done)), ⟨by simp⟩, ⟨inv_start⟩, ⟨QF.start HC3.out HC4.out⟩, HB2⟩
  clear HB2
  case round =>
    obtain ⟨x, flat, m, q, b, A3, A4, A5, A6, c3, c4, c5, c6, rfl, rfl, rfl, rfl, rfl, HX, HI, HQ, HB⟩ := hrel
    by_cases c : x < (l.length : Int)
    · have cb : decide (x < (l.length : Int)) = true := decide_eq_true c
      have p1 : 0 ≤ x := HX.out.1
      obtain ⟨ad, e1, h0, h1, h2, h3⟩ := atD HR0.out x p1 c
      cases e1
      obtain ⟨y, hy⟩ : ∃ y_, rdD l x = y_ := ⟨_, rfl⟩
      have HG := Aside0.mk (show GoodD y by rw [← hy]; exact HGD.out _ (memD l p1 c))
      rw [hy] at h0 h1 h2 h3
      have HF3 := Aside0.mk (fun (w_ : World) (hb_ : Below w.heap.size w w_) => (hb_.cell (World.block_lt_of_cell? w _ h3)).trans h3)
      replace h0 := (HB.out.cell (World.block_lt_of_cell? w _ h0)).trans h0
      replace h1 := (HB.out.cell (World.block_lt_of_cell? w _ h1)).trans h1
      replace h2 := (HB.out.cell (World.block_lt_of_cell? w _ h2)).trans h2
      replace h3 := HF3.out _ HB.out
      have HN := Aside0.mk (wrap_i (x := x + 1) (by omega) (by have := hl; omega))
      have hx1 : IntKind.u64.wrap x = x := wrap_u p1 (by have := hl; omega)
      have hx2 : IntKind.u64.wrap (x + 1) = x + 1 := wrap_u (by omega) (by have := hl; omega)
      have CC := Aside0.mk c
      have p1' := decide_eq_true p1
      clear hy
      replace p1 := eq_true p1
      replace c := eq_true c
      obtain ⟨s, n, t, z, a, hs, s0, s1, hn, hn0, hw2, ht, hz, ha, ha2, hok⟩ := deed HG.out
      have HOK := Aside0.mk hok
      obtain ⟨k, hk⟩ : ∃ k_, y.f0.tmod 4 = k_ := ⟨_, rfl⟩
      clear hok
      cases k0 : (k == 0) with
      | true =>
        by_cases d : q.length < 16
        · have DQ := Aside0.mk d
          clear d
          obtain ⟨q1, hq1⟩ : ∃ q_, q ++ [(⟨x + 1, 0, 0, 0, false⟩ : S37)] = q_ := ⟨_, rfl⟩
          obtain ⟨q2, hq2⟩ : ∃ q_, q ++ [(⟨x + 1, a, y.f3, n, true⟩ : S37)] = q_ := ⟨_, rfl⟩
          obtain ⟨f2, hf2⟩ : ∃ q_, wrX flat a n y.f3 = q_ := ⟨_, rfl⟩
          have HIN := Aside0.mk (show InvS (x + 1) f2 m q2 b by rw [← hf2, ← hq2]; exact inv_store HI.out DQ.out HOK.out HG.out.2.2.2)
          go_wp2_with (first | (go_at_call 8; (with_reducible refine (cPut HI.out DQ.out hq1 HQ.out).mono ?_); rintro e_ w1 ⟨A7, c7, rfl, hC_, hB_⟩; have HS := Aside0.mk hC_; have HB1 := Aside0.mk (below_step HB.out hB_); have HQ1 := Aside0.mk (HQ.out.below hB_); clear hC_ hB_; have h31 := HF3.out _ HB1.out) | (go_at_call 13; (with_reducible refine (cSet HI.out DQ.out hq1 hq2 HS.out).mono ?_); rintro e_ w2 ⟨A8, c8, rfl, hc_, hC_, hB_⟩; have HS2 := Aside0.mk hC_; have HC2 := Aside0.mk hc_; have HB2 := Aside0.mk (below_step HB1.out hB_); have HQ2 := Aside0.mk (HQ1.out.below hB_); clear hc_ hC_ hB_; have h32 := HF3.out _ HB2.out) | (go_at_call 7; (with_reducible refine (cWrite (by rw [HI.out.lf]; exact HOK.out) hf2 HQ2.out.f3 HQ2.out.g3).mono ?_); rintro e_ w3 ⟨A9, c9, rfl, hc_, hC_, hB_⟩; have HS3 := Aside0.mk hC_; have HC3 := Aside0.mk hc_; have HB3 := Aside0.mk (below_step HB2.out hB_); have HQ3 := Aside0.mk (HQ2.out.below hB_); have HS4 := Aside0.mk (Kd.C_below HS2.out hB_); clear hc_ hC_ hB_))
          go_roundg (gk - 1)
          case measure => have := HX.out; have := CC.out; omega
          case rel => exact ⟨x + 1, f2, m, q2, b, A9, A4, A8, A6, c9, c4, c8, c6, (by first | rfl | (simp; done) | (simp [HN.out]; done)), (by first | rfl | (simp; done)), (by first | rfl | (simp; done)), (by first | rfl | (simp; done)), (by first | rfl | (simp; done)), ⟨by have := HX.out; have := CC.out; omega⟩, ⟨HIN.out⟩, ⟨⟨HS3.out, HQ3.out.f4, HS4.out, HQ3.out.f6, HC3.out, HQ3.out.g4, HC2.out, HQ3.out.g6⟩⟩, HB3⟩
        · have DQ := Aside0.mk d
          clear d
          go_wp2_with (first | (go_at_call 8; (with_reducible refine (cFull DQ.out).mono ?_); rintro e_ w1 ⟨rfl, hB_⟩; have HB1 := Aside0.mk (below_step HB.out hB_); have HQ1 := Aside0.mk (HQ.out.below hB_); clear hB_))
          go_roundg (gk - 1)
          case measure => have := HX.out; have := CC.out; omega
          case rel => exact ⟨x + 1, flat, m, q, b, A3, A4, A5, A6, c3, c4, c5, c6, (by first | rfl | (simp; done) | (simp [HN.out]; done)), (by first | rfl | (simp; done)), (by first | rfl | (simp; done)), (by first | rfl | (simp; done)), (by first | rfl | (simp; done)), ⟨by have := HX.out; have := CC.out; omega⟩, ⟨inv_next HI.out⟩, ⟨HQ1.out⟩, HB1⟩
      | false =>
        cases k1 : (k == 1) with
        | true =>
          obtain ⟨kd, v, fr, hfd⟩ : ∃ kd_ v_ fr_, findX a n (old (x + 1) q b) = (kd_, v_, fr_) := ⟨_, _, _, rfl⟩
          obtain ⟨wt, hwt⟩ : ∃ w_, rdX flat a n = w_ := ⟨_, rfl⟩
          have HL1 : kd = 2 ∨ (if kd = 0 then rdX m a n else v) = wt := by have h_ := inv_load HI.out HOK.out; rw [hfd, hwt] at h_; exact h_
          cases e0 : (kd == 0) with
          | true =>
            have hm : rdX m a n = wt := by
              rw [beq_iff_eq] at e0
              subst e0
              rcases HL1 with h_ | h_
              · omega
              · exact h_
            have e2 : (kd != 2) = true := by rw [beq_iff_eq] at e0; rw [e0]; rfl
            have es : (wt != wt) = false := by simp
            clear HL1
            go_wp2_with (first | (go_at_call 14; (with_reducible refine (cFind hfd HQ.out).mono ?_); rintro e_ w1 ⟨rfl, hB_⟩; have HB1 := Aside0.mk (below_step HB.out hB_); have HQ1 := Aside0.mk (HQ.out.below hB_); clear hB_) | (go_at_call 6; (with_reducible refine (cRead (by rw [HI.out.lf]; exact HOK.out) hwt HQ1.out.f3 HQ1.out.g3).mono ?_); rintro e_ w2 ⟨rfl, hB_⟩; have HB2 := Aside0.mk (below_step HB1.out hB_); have HQ2 := Aside0.mk (HQ1.out.below hB_); clear hB_) | (go_at_call 6; (with_reducible refine (cRead (by rw [HI.out.lm]; exact HOK.out) hm HQ2.out.f4 HQ2.out.g4).mono ?_); rintro e_ w3 ⟨rfl, hB_⟩; have HB3 := Aside0.mk (below_step HB2.out hB_); have HQ3 := Aside0.mk (HQ2.out.below hB_); clear hB_))
            go_roundg (gk - 1)
            case measure => have := HX.out; have := CC.out; omega
            case rel => exact ⟨x + 1, flat, m, q, b, A3, A4, A5, A6, c3, c4, c5, c6, (by first | rfl | (simp; done) | (simp [HN.out]; done)), (by first | rfl | (simp; done)), (by first | rfl | (simp; done)), (by first | rfl | (simp; done)), (by first | rfl | (simp; done)), ⟨by have := HX.out; have := CC.out; omega⟩, ⟨inv_next HI.out⟩, ⟨HQ3.out⟩, HB3⟩
          | false =>
            cases e2 : (kd != 2) with
            | true =>
              have hv : v = wt := by
                rw [beq_eq_false_iff_ne] at e0
                rw [bne_iff_ne] at e2
                rcases HL1 with h_ | h_
                · exact absurd h_ e2
                · rw [if_neg e0] at h_; exact h_
              have es : (wt != wt) = false := by simp
              clear HL1
              subst hv
              go_wp2_with (first | (go_at_call 14; (with_reducible refine (cFind hfd HQ.out).mono ?_); rintro e_ w1 ⟨rfl, hB_⟩; have HB1 := Aside0.mk (below_step HB.out hB_); have HQ1 := Aside0.mk (HQ.out.below hB_); clear hB_) | (go_at_call 6; (with_reducible refine (cRead (by rw [HI.out.lf]; exact HOK.out) hwt HQ1.out.f3 HQ1.out.g3).mono ?_); rintro e_ w2 ⟨rfl, hB_⟩; have HB2 := Aside0.mk (below_step HB1.out hB_); have HQ2 := Aside0.mk (HQ1.out.below hB_); clear hB_))
              go_roundg (gk - 1)
              case measure => have := HX.out; have := CC.out; omega
              case rel => exact ⟨x + 1, flat, m, q, b, A3, A4, A5, A6, c3, c4, c5, c6, (by first | rfl | (simp; done) | (simp [HN.out]; done)), (by first | rfl | (simp; done)), (by first | rfl | (simp; done)), (by first | rfl | (simp; done)), (by first | rfl | (simp; done)), ⟨by have := HX.out; have := CC.out; omega⟩, ⟨inv_next HI.out⟩, ⟨HQ2.out⟩, HB2⟩
            | false =>
              clear HL1
              go_wp2_with (first | (go_at_call 14; (with_reducible refine (cFind hfd HQ.out).mono ?_); rintro e_ w1 ⟨rfl, hB_⟩; have HB1 := Aside0.mk (below_step HB.out hB_); have HQ1 := Aside0.mk (HQ.out.below hB_); clear hB_) | (go_at_call 6; (with_reducible refine (cRead (by rw [HI.out.lf]; exact HOK.out) hwt HQ1.out.f3 HQ1.out.g3).mono ?_); rintro e_ w2 ⟨rfl, hB_⟩; have HB2 := Aside0.mk (below_step HB1.out hB_); have HQ2 := Aside0.mk (HQ1.out.below hB_); clear hB_))
              go_roundg (gk - 1)
              case measure => have := HX.out; have := CC.out; omega
              case rel => exact ⟨x + 1, flat, m, q, b, A3, A4, A5, A6, c3, c4, c5, c6, (by first | rfl | (simp; done) | (simp [HN.out]; done)), (by first | rfl | (simp; done)), (by first | rfl | (simp; done)), (by first | rfl | (simp; done)), (by first | rfl | (simp; done)), ⟨by have := HX.out; have := CC.out; omega⟩, ⟨inv_next HI.out⟩, ⟨HQ2.out⟩, HB2⟩
        | false =>
          cases k2 : (k == 2) with
          | true =>
            by_cases d : 0 < q.length
            · have DQ := Aside0.mk d
              obtain ⟨aq, eA, g0, _, _, _, _⟩ := at_T37 HQ.out.f5 0 (by decide) (by omega)
              subst eA
              have e0 : aq.add ((0 : Int).toNat * 5) = aq := by unfold Addr.add; rfl
              rw [e0] at g0
              obtain ⟨e, he⟩ : ∃ y_, rd_T37 q 0 = y_ := ⟨_, rfl⟩
              rw [he] at g0
              obtain ⟨q1, hq1⟩ : ∃ q_, q.drop 1 = q_ := ⟨_, rfl⟩
              have b1' : (0 : Int) < (q.length : Int) := by omega
              have b1d := decide_eq_true b1'
              clear d e0
              by_cases d2 : b.length < 8
              · have DB := Aside0.mk d2
                obtain ⟨b1, hb1⟩ : ∃ b_, b ++ [(⟨e.f1, e.f2, e.f3⟩ : S48)] = b_ := ⟨_, rfl⟩
                have HIN := Aside0.mk (show InvS (x + 1) flat m q1 b1 by rw [← hq1, ← hb1, ← he]; exact inv_retire HI.out DQ.out DB.out)
                clear d2
                go_wp2_with (first | (go_at_call 15; (with_reducible refine (cPop HI.out DQ.out he hq1 HQ.out).mono ?_); rintro e_ w1 ⟨A7, c7, rfl, hc_, hC_, hB_⟩; have HS := Aside0.mk hC_; have HC := Aside0.mk hc_; have HB1 := Aside0.mk (below_step HB.out hB_); have HQ1 := Aside0.mk (HQ.out.below hB_); have T0 := St.start w1; clear hc_ hC_ hB_) | ((with_reducible refine gate_dst (N := 19) rfl ?_); refine box_event ?hg (N := 19) ?hd (cs := #[.int .u64 0, .int .u32 0, .int .u32 0, .int .i64 0, .bool false]) (t := 56) ?hr ?_; (case hd => rfl); (case hg => rfl); (case hr => first | (go_simp; done) | (go_simp; rfl)); intro gb hg w2 hbox hb; have T1 := T0.box hg hbox hb; clear hg hbox hb; clear T0) | ((with_reducible refine gate_store (t := 56) (p := 19) rfl ?_); refine wpList_store_row rfl 56 _ _ rfl gb _ rfl rfl 56 _ (T1.heap ⟨gb, #[.int .u64 0, .int .u32 0, .int .u32 0, .int .i64 0, .bool false], 56⟩ (by simp)) (by kernel_rfl) (rfl) (by simp [Value.oneCell']) ?_; have n_ : St w1 _ [⟨gb, #[.int .u64 e.f0, .int .u32 e.f1, .int .u32 e.f2, .int .i64 e.f3, .bool e.f4], 56⟩] := St.row (L1 := []) (b := ⟨gb, #[.int .u64 0, .int .u32 0, .int .u32 0, .int .i64 0, .bool false], 56⟩) T1 #[.int .u64 e.f0, .int .u32 e.f1, .int .u32 e.f2, .int .i64 e.f3, .bool e.f4]; clear T1; have T2 := n_; clear n_; generalize World.setRow _ _ _ = w3 at T2 ⊢) | ((with_reducible refine gate_dst (N := 171) rfl ?_); refine wpList_load_row rfl 56 _ rfl gb rfl 56 #[.int .u64 e.f0, .int .u32 e.f1, .int .u32 e.f2, .int .i64 e.f3, .bool e.f4] (0, 0) _ (T2.heap ⟨gb, #[.int .u64 e.f0, .int .u32 e.f1, .int .u32 e.f2, .int .i64 e.f3, .bool e.f4], 56⟩ (by simp)) Try.underlying56 rfl (by kernel_rfl) ?_) | (go_at_call 16; (with_reducible refine (cPutB DB.out hb1 (HQ1.out.below T2.below)).mono ?_); rintro e_ w4 ⟨A8, c8, rfl, hc_, hC_, hB_⟩; have T3 := T2.call hB_; clear T2; have HS8 := Aside0.mk hC_; have HC8 := Aside0.mk hc_; have HB4 := Aside0.mk (below_step HB1.out T3.below); have HQ4 := Aside0.mk (HQ1.out.below T3.below); have HS7 := Aside0.mk (Kd.C_below HS.out T3.below); clear hc_ hC_ hB_))
                go_roundg (gk - 1)
                case measure => have := HX.out; have := CC.out; omega
                case rel => exact ⟨x + 1, flat, m, q1, b1, A3, A4, A7, A8, c3, c4, c7, c8, (by first | rfl | (simp; done) | (simp [HN.out]; done)), (by first | rfl | (simp; done)), (by first | rfl | (simp; done)), (by first | rfl | (simp; done)), (by first | rfl | (simp; done)), ⟨by have := HX.out; have := CC.out; omega⟩, ⟨HIN.out⟩, ⟨⟨HQ4.out.f3, HQ4.out.f4, HS7.out, HS8.out, HQ4.out.g3, HQ4.out.g4, HC.out, HC8.out⟩⟩, HB4⟩
              · have DB := Aside0.mk d2
                clear d2
                go_wp2_with (first | (go_at_call 15; (with_reducible refine (cPop HI.out DQ.out he hq1 HQ.out).mono ?_); rintro e_ w1 ⟨A7, c7, rfl, hc_, hC_, hB_⟩; have HS := Aside0.mk hC_; have HC := Aside0.mk hc_; have HB1 := Aside0.mk (below_step HB.out hB_); have HQ1 := Aside0.mk (HQ.out.below hB_); have T0 := St.start w1; clear hc_ hC_ hB_) | ((with_reducible refine gate_dst (N := 19) rfl ?_); refine box_event ?hg (N := 19) ?hd (cs := #[.int .u64 0, .int .u32 0, .int .u32 0, .int .i64 0, .bool false]) (t := 56) ?hr ?_; (case hd => rfl); (case hg => rfl); (case hr => first | (go_simp; done) | (go_simp; rfl)); intro gb hg w2 hbox hb; have T1 := T0.box hg hbox hb; clear hg hbox hb; clear T0) | ((with_reducible refine gate_store (t := 56) (p := 19) rfl ?_); refine wpList_store_row rfl 56 _ _ rfl gb _ rfl rfl 56 _ (T1.heap ⟨gb, #[.int .u64 0, .int .u32 0, .int .u32 0, .int .i64 0, .bool false], 56⟩ (by simp)) (by kernel_rfl) (rfl) (by simp [Value.oneCell']) ?_; have n_ : St w1 _ [⟨gb, #[.int .u64 e.f0, .int .u32 e.f1, .int .u32 e.f2, .int .i64 e.f3, .bool e.f4], 56⟩] := St.row (L1 := []) (b := ⟨gb, #[.int .u64 0, .int .u32 0, .int .u32 0, .int .i64 0, .bool false], 56⟩) T1 #[.int .u64 e.f0, .int .u32 e.f1, .int .u32 e.f2, .int .i64 e.f3, .bool e.f4]; clear T1; have T2 := n_; clear n_; generalize World.setRow _ _ _ = w3 at T2 ⊢) | ((with_reducible refine gate_dst (N := 171) rfl ?_); refine wpList_load_row rfl 56 _ rfl gb rfl 56 #[.int .u64 e.f0, .int .u32 e.f1, .int .u32 e.f2, .int .i64 e.f3, .bool e.f4] (0, 0) _ (T2.heap ⟨gb, #[.int .u64 e.f0, .int .u32 e.f1, .int .u32 e.f2, .int .i64 e.f3, .bool e.f4], 56⟩ (by simp)) Try.underlying56 rfl (by kernel_rfl) ?_) | (go_at_call 16; (with_reducible refine (cFullB DB.out).mono ?_); rintro e_ w4 ⟨rfl, hB_⟩; have T3 := T2.call hB_; clear T2; have HB4 := Aside0.mk (below_step HB1.out T3.below); have HQ4 := Aside0.mk (HQ1.out.below T3.below); clear hB_))
                go_roundg (gk - 1)
                case measure => have := HX.out; have := CC.out; omega
                case rel => exact ⟨x + 1, flat, m, q, b, A3, A4, (some aq), A6, c3, c4, c5, c6, (by first | rfl | (simp; done) | (simp [HN.out]; done)), (by first | rfl | (simp; done)), (by first | rfl | (simp; done)), (by first | rfl | (simp; done)), (by first | rfl | (simp; done)), ⟨by have := HX.out; have := CC.out; omega⟩, ⟨inv_next HI.out⟩, ⟨HQ4.out⟩, HB4⟩
            · have DQ := Aside0.mk d
              have b1' : ¬ (0 : Int) < (q.length : Int) := by omega
              have b1d := decide_eq_false b1'
              clear d
              go_wp2
              go_roundg (gk - 1)
              case measure => have := HX.out; have := CC.out; omega
              case rel => exact ⟨x + 1, flat, m, q, b, A3, A4, A5, A6, c3, c4, c5, c6, (by first | rfl | (simp; done) | (simp [HN.out]; done)), (by first | rfl | (simp; done)), (by first | rfl | (simp; done)), (by first | rfl | (simp; done)), (by first | rfl | (simp; done)), ⟨by have := HX.out; have := CC.out; omega⟩, ⟨inv_next HI.out⟩, ⟨HQ.out⟩, HB⟩
          | false =>
            by_cases d : 0 < b.length
            · have DQ := Aside0.mk d
              obtain ⟨e, he⟩ : ∃ y_, rd_T48 b 0 = y_ := ⟨_, rfl⟩
              obtain ⟨b1, hb1⟩ : ∃ q_, b.drop 1 = q_ := ⟨_, rfl⟩
              obtain ⟨m2, hm2⟩ : ∃ q_, wrX m e.f0 e.f2 e.f1 = q_ := ⟨_, rfl⟩
              have HOB := Aside0.mk (show Okm m.length e.f0 e.f2 by rw [← he]; exact b_ok HI.out d)
              have HIN := Aside0.mk (show InvS (x + 1) flat m2 q b1 by rw [← hb1, ← hm2, ← he]; exact inv_memory HI.out d)
              clear d
              go_wp2_with (first | (go_at_call 17; (with_reducible refine (cPopB HI.out DQ.out he hb1 HQ.out).mono ?_); rintro e_ w1 ⟨A7, c7, rfl, hc_, hC_, hB_⟩; have HS := Aside0.mk hC_; have HC := Aside0.mk hc_; have HB1 := Aside0.mk (below_step HB.out hB_); have HQ1 := Aside0.mk (HQ.out.below hB_); have T0 := St.start w1; clear hc_ hC_ hB_) | ((with_reducible refine gate_dst (N := 24) rfl ?_); refine box_event ?hg (N := 24) ?hd (cs := #[.int .u32 0, .int .u32 0, .int .i64 0]) (t := 64) ?hr ?_; (case hd => rfl); (case hg => rfl); (case hr => first | (go_simp; done) | (go_simp; rfl)); intro gb hg w2 hbox hb; have T1 := T0.box hg hbox hb; clear hg hbox hb; clear T0) | ((with_reducible refine gate_store (t := 64) (p := 24) rfl ?_); refine wpList_store_row rfl 64 _ _ rfl gb _ rfl rfl 64 _ (T1.heap ⟨gb, #[.int .u32 0, .int .u32 0, .int .i64 0], 64⟩ (by simp)) (by kernel_rfl) (rfl) (by simp [Value.oneCell']) ?_; have n_ : St w1 _ [⟨gb, #[.int .u32 e.f0, .int .u32 e.f1, .int .i64 e.f2], 64⟩] := St.row (L1 := []) (b := ⟨gb, #[.int .u32 0, .int .u32 0, .int .i64 0], 64⟩) T1 #[.int .u32 e.f0, .int .u32 e.f1, .int .i64 e.f2]; clear T1; have T2 := n_; clear n_; generalize World.setRow _ _ _ = w3 at T2 ⊢; have c0_ := (blk_cell (T2.heap ⟨gb, #[.int .u32 e.f0, .int .u32 e.f1, .int .i64 e.f2], 64⟩ (by simp)) 0).trans (show _ = some (Value.int .u32 e.f0) from rfl); have c1_ := (blk_cell (T2.heap ⟨gb, #[.int .u32 e.f0, .int .u32 e.f1, .int .i64 e.f2], 64⟩ (by simp)) 1).trans (show _ = some (Value.int .u32 e.f1) from rfl); have c2_ := (blk_cell (T2.heap ⟨gb, #[.int .u32 e.f0, .int .u32 e.f1, .int .i64 e.f2], 64⟩ (by simp)) 2).trans (show _ = some (Value.int .i64 e.f2) from rfl)) | (go_at_call 7; (with_reducible refine (cWrite HOB.out hm2 (HQ1.out.below T2.below).f4 HQ1.out.g4).mono ?_); rintro e_ w4 ⟨A8, c8, rfl, hc_, hC_, hB_⟩; have T3 := T2.call hB_; clear T2; have HS8 := Aside0.mk hC_; have HC8 := Aside0.mk hc_; have HB4 := Aside0.mk (below_step HB1.out T3.below); have HQ4 := Aside0.mk (HQ1.out.below T3.below); have HS7 := Aside0.mk (Kd.C_below HS.out T3.below); clear hc_ hC_ hB_))
              go_roundg (gk - 1)
              case measure => have := HX.out; have := CC.out; omega
              case rel => exact ⟨x + 1, flat, m2, q, b1, A3, A8, A5, A7, c3, c8, c5, c7, (by first | rfl | (simp; done) | (simp [HN.out]; done)), (by first | rfl | (simp; done)), (by first | rfl | (simp; done)), (by first | rfl | (simp; done)), (by first | rfl | (simp; done)), ⟨by have := HX.out; have := CC.out; omega⟩, ⟨HIN.out⟩, ⟨⟨HQ4.out.f3, HS8.out, HQ4.out.f5, HS7.out, HQ4.out.g3, HC8.out, HQ4.out.g5, HC.out⟩⟩, HB4⟩
            · have DQ := Aside0.mk d
              clear d
              go_wp2_with (first | (go_at_call 17; (with_reducible refine (cNoneB DQ.out).mono ?_); rintro e_ w1 ⟨rfl, hB_⟩; have HB1 := Aside0.mk (below_step HB.out hB_); have HQ1 := Aside0.mk (HQ.out.below hB_); have T0 := St.start w1; clear hB_) | ((with_reducible refine gate_dst (N := 24) rfl ?_); refine box_event ?hg (N := 24) ?hd (cs := #[.int .u32 0, .int .u32 0, .int .i64 0]) (t := 64) ?hr ?_; (case hd => rfl); (case hg => rfl); (case hr => first | (go_simp; done) | (go_simp; rfl)); intro gb hg w2 hbox hb; have T1 := T0.box hg hbox hb; clear hg hbox hb; clear T0) | ((with_reducible refine gate_store (t := 64) (p := 24) rfl ?_); refine wpList_store_row rfl 64 _ _ rfl gb _ rfl rfl 64 _ (T1.heap ⟨gb, #[.int .u32 0, .int .u32 0, .int .i64 0], 64⟩ (by simp)) (by kernel_rfl) (rfl) (by simp [Value.oneCell']) ?_; have n_ : St w1 _ [⟨gb, #[.int .u32 0, .int .u32 0, .int .i64 0], 64⟩] := St.row (L1 := []) (b := ⟨gb, #[.int .u32 0, .int .u32 0, .int .i64 0], 64⟩) T1 #[.int .u32 0, .int .u32 0, .int .i64 0]; clear T1; have T2 := n_; clear n_; generalize World.setRow _ _ _ = w3 at T2 ⊢))
              have HB4 := Aside0.mk (below_step HB1.out T2.below)
              have HQ4 := Aside0.mk (HQ1.out.below T2.below)
              go_roundg (gk - 1)
              case measure => have := HX.out; have := CC.out; omega
              case rel => exact ⟨x + 1, flat, m, q, b, A3, A4, A5, A6, c3, c4, c5, c6, (by first | rfl | (simp; done) | (simp [HN.out]; done)), (by first | rfl | (simp; done)), (by first | rfl | (simp; done)), (by first | rfl | (simp; done)), (by first | rfl | (simp; done)), ⟨by have := HX.out; have := CC.out; omega⟩, ⟨inv_next HI.out⟩, ⟨HQ4.out⟩, HB4⟩
    · have cb : decide (x < (l.length : Int)) = false := decide_eq_false c
      obtain ⟨d, hd⟩ : ∃ d_, drainX m b = d_ := ⟨_, rfl⟩
      have HE := Aside0.mk (show outX d q = flat by rw [← hd]; exact inv_end HI.out)
      clear c
      go_wp2_with (first | (go_at_call 18; (with_reducible refine (cDrain HI.out hd HQ.out).mono ?_); rintro e_ w1 ⟨A7, c7, rfl, hc_, hC_, hB_⟩; have HS := Aside0.mk hC_; have HC := Aside0.mk hc_; have HB1 := Aside0.mk (below_step HB.out hB_); have HBr1 := Aside0.mk hB_; clear hc_ hC_ hB_))
      go_loopg [26, 27] q.length (fun kj v26 v27 w' => ∃ (j : Int) (M : List Int) (A : Option Addr) (c_ : Nat), v27 = .int .i64 j ∧ v26 = .slice A M.length c_ ∧ Aside0 (0 ≤ j ∧ j + kj = (q.length : Int)) ∧ Aside0 (M = outX d (q.take j.toNat)) ∧ Aside0 (M.length = 64) ∧ Aside0 (M.length ≤ c_) ∧ Aside0 (Kd.C (Kd.int .u8) w' A M.length M) ∧ Aside0 (Below w.heap.size w w') ∧ Aside0 (Below wr.heap.size wr w'))
      case atStart => exact ⟨0, d, A7, c7, (by first | rfl | (simp; done)), (by first | rfl | (simp; done)), ⟨by simp⟩, ⟨by simp [outX]⟩, ⟨by rw [← hd]; exact drain_len HI.out⟩, HC, HS, HB1, HBr1⟩
      case round =>
        clear HB HB1 HBr1 HS HC
        obtain ⟨j, M, A, c_, rfl, rfl, HJ, HM, HML0, HCL, HC, HB, HBr⟩ := hrel
        have HQr := Aside0.mk (HQ.out.below HBr.out)
        by_cases c : j < (q.length : Int)
        · have cb : decide (j < (q.length : Int)) = true := decide_eq_true c
          have p1 : 0 ≤ j := HJ.out.1
          obtain ⟨aq, eA, _, g1, g2, g3, _⟩ := at_T37 HQr.out.f5 j p1 c
          subst eA
          obtain ⟨e, he⟩ : ∃ y_, rd_T37 q j = y_ := ⟨_, rfl⟩
          rw [he] at g1 g2 g3
          have HSF := Aside0.mk (fun (w_ : World) (hb_ : Below wr.heap.size wr w_) => (⟨(hb_.cell (World.block_lt_of_cell? wr _ g1)).trans g1, (hb_.cell (World.block_lt_of_cell? wr _ g2)).trans g2, (hb_.cell (World.block_lt_of_cell? wr _ g3)).trans g3⟩ : w_.cell? ⟨(aq.add (j.toNat * 5)).block, (aq.add (j.toNat * 5)).off + 1, none⟩ = some (.int .u32 e.f1) ∧ w_.cell? ⟨(aq.add (j.toNat * 5)).block, (aq.add (j.toNat * 5)).off + 2, none⟩ = some (.int .u32 e.f2) ∧ w_.cell? ⟨(aq.add (j.toNat * 5)).block, (aq.add (j.toNat * 5)).off + 3, none⟩ = some (.int .i64 e.f3)))
          have HTK := Aside0.mk (take37 q p1 c)
          have HMq := Aside0.mk (HI.out.hq e (by rw [← he]; exact mem37 q p1 c))
          rw [he] at HTK
          have HML := Aside0.mk (show M.length = 64 from HML0.out)
          have HOB := Aside0.mk (show Okm M.length e.f1 e.f3 by rw [HML.out]; exact HMq.out.1)
          obtain ⟨M2, hM2⟩ : ∃ q_, wrX M e.f1 e.f3 e.f2 = q_ := ⟨_, rfl⟩
          have HN := Aside0.mk (wrap_i (x := j + 1) (by omega) (by have := HI.out.lq; omega))
          have CC := Aside0.mk c
          have p1' := decide_eq_true p1
          clear he g1 g2 g3
          replace p1 := eq_true p1
          replace c := eq_true c
          go_wp2
          refine start_ (n := 21) (S := fun w_ => w_.cell? ⟨(aq.add (j.toNat * 5)).block, (aq.add (j.toNat * 5)).off + 1, none⟩ = some (.int .u32 e.f1) ∧ w_.cell? ⟨(aq.add (j.toNat * 5)).block, (aq.add (j.toNat * 5)).off + 2, none⟩ = some (.int .u32 e.f2) ∧ w_.cell? ⟨(aq.add (j.toNat * 5)).block, (aq.add (j.toNat * 5)).off + 3, none⟩ = some (.int .i64 e.f3)) (ds := [16]) #[false, false, false, false, false, false, false, false, false, false, false, false, false, false, false, false, false, false, false, false, false] (by kernel_rfl) rfl rfl ((HSF.out _ (below_drew (Below.refl _ _)))) (fun hHeld => ?_)
          have HC10 := Aside0.mk (Kd.C_below HC.out (below_drew (Below.refl _ _)))
          have HB10 := Aside0.mk (below_step HB.out (below_drew (Below.refl _ _)))
          have HBr10 := Aside0.mk (below_step HBr.out (below_drew (Below.refl _ _)))
          generalize World.drew _ = w10 at HC10 HB10 HBr10 hHeld ⊢
          refine pure_ (i := 0) (N := some 190) (v := ?_) (a' := ?_) #[true, false, false, false, false, false, false, false, false, false, false, false, false, false, false, false, false, false, false, false, false] rfl rfl (by kernel_rfl) (fun _ _ _ h => h) (Or.inl ⟨by rfl, ?_⟩) ?_ ?_
          rotate_left
          · intro w'
            go_simp
            with_reducible rfl
          rotate_left
          · simp only [Act.put, List.setIfInBounds_toArray, List.set_cons_zero, List.set_cons_succ]
            rfl
          refine pure_ (i := 1) (N := some 191) (v := ?_) (a' := ?_) #[true, true, false, false, false, false, false, false, false, false, false, false, false, false, false, false, false, false, false, false, false] rfl rfl (by kernel_rfl) (fun _ _ _ h => h) (Or.inl ⟨by rfl, ?_⟩) ?_ ?_
          rotate_left
          · intro w'
            go_simp
            with_reducible rfl
          rotate_left
          · simp only [Act.put, List.setIfInBounds_toArray, List.set_cons_zero, List.set_cons_succ]
            rfl
          refine pure_ (i := 2) (N := some 192) (v := ?_) (a' := ?_) #[true, true, true, false, false, false, false, false, false, false, false, false, false, false, false, false, false, false, false, false, false] rfl rfl (by kernel_rfl) (fun _ _ _ h => h) (Or.inl ⟨by rfl, ?_⟩) ?_ ?_
          rotate_left
          · intro w'
            go_simp
            with_reducible rfl
          rotate_left
          · simp only [Act.put, List.setIfInBounds_toArray, List.set_cons_zero, List.set_cons_succ]
            rfl
          refine pure_ (i := 3) (N := some 193) (v := ?_) (a' := ?_) #[true, true, true, true, false, false, false, false, false, false, false, false, false, false, false, false, false, false, false, false, false] rfl rfl (by kernel_rfl) (fun _ _ _ h => h) (Or.inl ⟨by rfl, ?_⟩) ?_ ?_
          rotate_left
          · intro w'
            go_simp
            with_reducible rfl
          rotate_left
          · simp only [Act.put, List.setIfInBounds_toArray, List.set_cons_zero, List.set_cons_succ]
            rfl
          refine pure_ (i := 4) (N := some 194) (v := ?_) (a' := ?_) #[true, true, true, true, true, false, false, false, false, false, false, false, false, false, false, false, false, false, false, false, false] rfl rfl (by kernel_rfl) (fun _ _ _ h => h) (Or.inl ⟨by rfl, ?_⟩) ?_ ?_
          rotate_left
          · intro w'
            go_simp
            with_reducible rfl
          rotate_left
          · simp only [Act.put, List.setIfInBounds_toArray, List.set_cons_zero, List.set_cons_succ]
            rfl
          refine take_ (i := 5) (N := some 195) (v := ?_) (a' := ?_) #[true, true, true, true, true, true, false, false, false, false, false, false, false, false, false, false, false, false, false, false, false] rfl rfl (by kernel_rfl) (fun _ _ _ h => h) (Or.inl ⟨by rfl, ?_⟩) hHeld ?_ ?_
          rotate_left
          · rintro w' ⟨s1_, s2_, s3_⟩
            go_simp
            with_reducible rfl
          rotate_left
          · simp only [Act.put, List.setIfInBounds_toArray, List.set_cons_zero, List.set_cons_succ]
            rfl
          refine pure_ (i := 6) (N := some 196) (v := ?_) (a' := ?_) #[true, true, true, true, true, true, true, false, false, false, false, false, false, false, false, false, false, false, false, false, false] rfl rfl (by kernel_rfl) (fun _ _ _ h => h) (Or.inl ⟨by rfl, ?_⟩) ?_ ?_
          rotate_left
          · intro w'
            go_simp
            with_reducible rfl
          rotate_left
          · simp only [Act.put, List.setIfInBounds_toArray, List.set_cons_zero, List.set_cons_succ]
            rfl
          refine pure_ (i := 7) (N := some 197) (v := ?_) (a' := ?_) #[true, true, true, true, true, true, true, true, false, false, false, false, false, false, false, false, false, false, false, false, false] rfl rfl (by kernel_rfl) (fun _ _ _ h => h) (Or.inl ⟨by rfl, ?_⟩) ?_ ?_
          rotate_left
          · intro w'
            go_simp
            with_reducible rfl
          rotate_left
          · simp only [Act.put, List.setIfInBounds_toArray, List.set_cons_zero, List.set_cons_succ]
            rfl
          refine pure_ (i := 8) (N := some 198) (v := ?_) (a' := ?_) #[true, true, true, true, true, true, true, true, true, false, false, false, false, false, false, false, false, false, false, false, false] rfl rfl (by kernel_rfl) (fun _ _ _ h => h) (Or.inl ⟨by rfl, ?_⟩) ?_ ?_
          rotate_left
          · intro w'
            go_simp
            with_reducible rfl
          rotate_left
          · simp only [Act.put, List.setIfInBounds_toArray, List.set_cons_zero, List.set_cons_succ]
            rfl
          refine pure_ (i := 9) (N := some 199) (v := ?_) (a' := ?_) #[true, true, true, true, true, true, true, true, true, true, false, false, false, false, false, false, false, false, false, false, false] rfl rfl (by kernel_rfl) (fun _ _ _ h => h) (Or.inl ⟨by rfl, ?_⟩) ?_ ?_
          rotate_left
          · intro w'
            go_simp
            with_reducible rfl
          rotate_left
          · simp only [Act.put, List.setIfInBounds_toArray, List.set_cons_zero, List.set_cons_succ]
            rfl
          refine take_ (i := 10) (N := some 200) (v := ?_) (a' := ?_) #[true, true, true, true, true, true, true, true, true, true, true, false, false, false, false, false, false, false, false, false, false] rfl rfl (by kernel_rfl) (fun _ _ _ h => h) (Or.inl ⟨by rfl, ?_⟩) hHeld ?_ ?_
          rotate_left
          · rintro w' ⟨s1_, s2_, s3_⟩
            go_simp
            with_reducible rfl
          rotate_left
          · simp only [Act.put, List.setIfInBounds_toArray, List.set_cons_zero, List.set_cons_succ]
            rfl
          refine pure_ (i := 11) (N := some 201) (v := ?_) (a' := ?_) #[true, true, true, true, true, true, true, true, true, true, true, true, false, false, false, false, false, false, false, false, false] rfl rfl (by kernel_rfl) (fun _ _ _ h => h) (Or.inl ⟨by rfl, ?_⟩) ?_ ?_
          rotate_left
          · intro w'
            go_simp
            with_reducible rfl
          rotate_left
          · simp only [Act.put, List.setIfInBounds_toArray, List.set_cons_zero, List.set_cons_succ]
            rfl
          refine pure_ (i := 12) (N := some 202) (v := ?_) (a' := ?_) #[true, true, true, true, true, true, true, true, true, true, true, true, true, false, false, false, false, false, false, false, false] rfl rfl (by kernel_rfl) (fun _ _ _ h => h) (Or.inl ⟨by rfl, ?_⟩) ?_ ?_
          rotate_left
          · intro w'
            go_simp
            with_reducible rfl
          rotate_left
          · simp only [Act.put, List.setIfInBounds_toArray, List.set_cons_zero, List.set_cons_succ]
            rfl
          refine pure_ (i := 13) (N := some 203) (v := ?_) (a' := ?_) #[true, true, true, true, true, true, true, true, true, true, true, true, true, true, false, false, false, false, false, false, false] rfl rfl (by kernel_rfl) (fun _ _ _ h => h) (Or.inl ⟨by rfl, ?_⟩) ?_ ?_
          rotate_left
          · intro w'
            go_simp
            with_reducible rfl
          rotate_left
          · simp only [Act.put, List.setIfInBounds_toArray, List.set_cons_zero, List.set_cons_succ]
            rfl
          refine pure_ (i := 14) (N := some 204) (v := ?_) (a' := ?_) #[true, true, true, true, true, true, true, true, true, true, true, true, true, true, true, false, false, false, false, false, false] rfl rfl (by kernel_rfl) (fun _ _ _ h => h) (Or.inl ⟨by rfl, ?_⟩) ?_ ?_
          rotate_left
          · intro w'
            go_simp
            with_reducible rfl
          rotate_left
          · simp only [Act.put, List.setIfInBounds_toArray, List.set_cons_zero, List.set_cons_succ]
            rfl
          refine take_ (i := 15) (N := some 205) (v := ?_) (a' := ?_) #[true, true, true, true, true, true, true, true, true, true, true, true, true, true, true, true, false, false, false, false, false] rfl rfl (by kernel_rfl) (fun _ _ _ h => h) (Or.inl ⟨by rfl, ?_⟩) hHeld ?_ ?_
          rotate_left
          · rintro w' ⟨s1_, s2_, s3_⟩
            go_simp
            with_reducible rfl
          rotate_left
          · simp only [Act.put, List.setIfInBounds_toArray, List.set_cons_zero, List.set_cons_succ]
            rfl
          refine last_ (i := 16) (N := some 206) #[true, true, true, true, true, true, true, true, true, true, true, true, true, true, true, true, true, false, false, false, false] rfl rfl (by kernel_rfl) (by decide) (fun K hK => ?_)
          refine goes_ Try.func7 (by kernel_rfl) rfl #[.slice A M.length c_, .int .u32 e.f1, .int .i64 e.f3, .int .u32 e.f2] rfl rfl rfl (by (try simp only [List.map_toArray, List.map_cons, List.map_nil]); first | done | rfl) ?_
          refine (cWrite HOB.out hM2 HC10.out HCL.out).mono ?_
          rintro e_ w11 ⟨A8, c8, rfl, hc_, hC_, hB_⟩
          refine ⟨_, rfl, ?_⟩
          have HS8 := Aside0.mk hC_
          have HC8 := Aside0.mk hc_
          have HB11 := Aside0.mk (below_step HB10.out hB_)
          have HBr11 := Aside0.mk (below_step HBr10.out hB_)
          clear hc_ hC_ hB_
          refine hK.out _ _ ?_
          clear hK K
          simp only [Act.put, List.setIfInBounds_toArray, List.set_cons_zero, List.set_cons_succ]
          refine pure_ (i := 17) (N := some 189) (v := ?_) (a' := ?_) #[true, true, true, true, true, true, true, true, true, true, true, true, true, true, true, true, true, true, false, false, false] rfl rfl (by kernel_rfl) (fun _ _ _ h => h) (Or.inl ⟨by rfl, ?_⟩) ?_ ?_
          rotate_left
          · intro w'
            go_simp
            with_reducible rfl
          rotate_left
          · simp only [Act.put, List.setIfInBounds_toArray, List.set_cons_zero, List.set_cons_succ]
            rfl
          refine pure_ (i := 18) (N := some 207) (v := ?_) (a' := ?_) #[true, true, true, true, true, true, true, true, true, true, true, true, true, true, true, true, true, true, true, false, false] rfl rfl (by kernel_rfl) (fun _ _ _ h => h) (Or.inl ⟨by rfl, ?_⟩) ?_ ?_
          rotate_left
          · intro w'
            go_simp
            with_reducible rfl
          rotate_left
          · simp only [Act.put, List.setIfInBounds_toArray, List.set_cons_zero, List.set_cons_succ]
            rfl
          refine pure_ (i := 19) (N := some 208) (v := ?_) (a' := ?_) #[true, true, true, true, true, true, true, true, true, true, true, true, true, true, true, true, true, true, true, true, false] rfl rfl (by kernel_rfl) (fun _ _ _ h => h) (Or.inl ⟨by rfl, ?_⟩) ?_ ?_
          rotate_left
          · intro w'
            go_simp
            with_reducible rfl
          rotate_left
          · simp only [Act.put, List.setIfInBounds_toArray, List.set_cons_zero, List.set_cons_succ]
            rfl
          refine pure_ (i := 20) (N := some 26) (v := ?_) (a' := ?_) #[true, true, true, true, true, true, true, true, true, true, true, true, true, true, true, true, true, true, true, true, true] rfl rfl (by kernel_rfl) (fun _ _ _ h => h) (Or.inl ⟨by rfl, ?_⟩) ?_ ?_
          rotate_left
          · intro w'
            go_simp
            with_reducible rfl
          rotate_left
          · simp only [Act.put, List.setIfInBounds_toArray, List.set_cons_zero, List.set_cons_succ]
            rfl
          refine done_ (by kernel_rfl) ?_
          go_wp2
          go_roundg (gk - 1)
          case measure => have := HJ.out; have := CC.out; omega
          case rel => exact ⟨j + 1, M2, A8, c8, (by first | rfl | (simp; done) | (simp [HN.out]; done)), (by first | rfl | (simp; done)), ⟨by have := HJ.out; have := CC.out; omega⟩, ⟨by rw [HTK.out, outX_snoc, ← HM.out]; exact hM2.symm⟩, ⟨by rw [← hM2, wrX_len e.f2 HOB.out]; exact HML.out⟩, HC8, HS8, HB11, HBr11⟩
        · have cb : decide (j < (q.length : Int)) = false := decide_eq_false c
          have e : j.toNat = q.length := by have := HJ.out; omega
          have hm := HM.out
          rw [e, List.take_length, HE.out] at hm
          subst hm
          clear c e
          go_wp2_with (first | (go_at_call 19; (with_reducible refine (bytesSame A A3 c_ c3 M _ HC.out HQr.out.f3 (by rw [HI.out.lf]; exact Nat.le_refl _)).mono ?_); rintro e_ w11 ⟨rfl, hB_⟩; have HB11 := Aside0.mk (below_step HB.out hB_); clear hB_) | (go_at_call 5; (with_reducible refine (awake _).mono ?_); rintro e_ w12 ⟨rfl, hB_⟩; have HB12 := Aside0.mk (below_step HB11.out hB_); clear hB_))
          go_ret
          exact ⟨rfl, HB12.out⟩

end Go.Proofs.Ytmpnnppgppoliaa.Ld
