/- What the document's latency, the order of what is done, and Cut come to: walks of the code. The conditions are those that each theorem names. -/
import Derived.Test.YtbkjdikiepnhbaaFlA
namespace Go.Proofs.Ytbkjdikiepnhbaa.Fl
open Go Go.Proofs Go.RowKit Go.Proofs.YtbkjdikiepnhbaaW.PrintWords Go.Proofs.YtbkjdikiepnhbaaW.PrintLast Go.Proofs.YtbkjdikiepnhbaaW.PrintMore Go.Proofs.Ytbkjdikiepnhbaa.Boxes
attribute [local go_sem] max2_int min2_int max_two min_two max_three min_three max_four min_four   -- for this text's walks alone
set_option linter.unusedVariables false
set_option linter.unusedSimpArgs false

theorem lat_else {m d u : Int} (h2 : u ≠ 2) (h3 : u ≠ 3) : latX m d u = if u < 1 ∨ u > 7 then 0 else 1 := by
  unfold latX
  rw [if_neg h2, if_neg h3]
  (repeat' split) <;> omega
set_option maxHeartbeats 4000000 in
theorem rlat {m d : Int} (cf : Cf m d) (u : Int) (w : World) : Calls Try.prog 9 #[.agg cf.cs.toArray, .int .i64 u] w fun e w' => e = .returned (.int .i64 (latX m d u)) ∧ Below w.heap.size w w' := by
  have S0 := St.start w

  by_cases c2 : u = 2
  · have e : latX m d u = wi m := by unfold latX; rw [if_pos c2]
    rw [e]
    have c2b : (u == 2) = true := beq_iff_eq.mpr c2
    clear c2 e
    go_enter Try.func9, Try.ntmps9
    go_wp2_with (first | ((with_reducible refine gate_dst (N := 2) rfl ?_); refine box_event ?hg (N := 2) ?hd (cs := cf.cs.toArray) (t := 23) ?hr ?_; (case hd => rfl); (case hg => rfl); (case hr => first | (go_simp; done) | (go_simp; rfl)); intro g1 hg w1 hbox hb; have S1 := S0.box hg hbox hb; clear hg hbox hb; clear S0; have c16 := S1.cell (b := ⟨g1, cf.cs.toArray, 23⟩) (by simp) cf.mul'; have c17 := S1.cell (b := ⟨g1, cf.cs.toArray, 23⟩) (by simp) cf.dv') | (go_at_call 25; (with_reducible refine (rwithin _ _).mono ?_); rintro e w2 ⟨rfl, hb⟩; have S2 := S1.call hb; clear hb; clear S1))
    go_ret
    exact ⟨rfl, (by first | exact S2.below | exact S1.below)⟩
  · have c2b : (u == 2) = false := beq_eq_false_iff_ne.mpr c2
    by_cases c3 : u = 3
    · have e : latX m d u = wi d := by unfold latX; rw [if_neg c2, if_pos c3]
      rw [e]
      have c3b : (u == 3) = true := beq_iff_eq.mpr c3
      clear c2 c3 e
      go_enter Try.func9, Try.ntmps9
      go_wp2_with (first | ((with_reducible refine gate_dst (N := 2) rfl ?_); refine box_event ?hg (N := 2) ?hd (cs := cf.cs.toArray) (t := 23) ?hr ?_; (case hd => rfl); (case hg => rfl); (case hr => first | (go_simp; done) | (go_simp; rfl)); intro g1 hg w1 hbox hb; have S1 := S0.box hg hbox hb; clear hg hbox hb; clear S0; have c16 := S1.cell (b := ⟨g1, cf.cs.toArray, 23⟩) (by simp) cf.mul'; have c17 := S1.cell (b := ⟨g1, cf.cs.toArray, 23⟩) (by simp) cf.dv') | (go_at_call 25; (with_reducible refine (rwithin _ _).mono ?_); rintro e w2 ⟨rfl, hb⟩; have S2 := S1.call hb; clear hb; clear S1))
      go_ret
      exact ⟨rfl, (by first | exact S2.below | exact S1.below)⟩
    · have c3b : (u == 3) = false := beq_eq_false_iff_ne.mpr c3
      rw [lat_else c2 c3]
      clear c2 c3
      by_cases c1 : u < 1
      · have c1b : decide (u < 1) = true := decide_eq_true c1
        rw [if_pos (Or.inl c1)]
        clear c1
        go_enter Try.func9, Try.ntmps9
        go_wp2_with (first | ((with_reducible refine gate_dst (N := 2) rfl ?_); refine box_event ?hg (N := 2) ?hd (cs := cf.cs.toArray) (t := 23) ?hr ?_; (case hd => rfl); (case hg => rfl); (case hr => first | (go_simp; done) | (go_simp; rfl)); intro g1 hg w1 hbox hb; have S1 := S0.box hg hbox hb; clear hg hbox hb; clear S0; have c16 := S1.cell (b := ⟨g1, cf.cs.toArray, 23⟩) (by simp) cf.mul'; have c17 := S1.cell (b := ⟨g1, cf.cs.toArray, 23⟩) (by simp) cf.dv') | (go_at_call 25; (with_reducible refine (rwithin _ _).mono ?_); rintro e w2 ⟨rfl, hb⟩; have S2 := S1.call hb; clear hb; clear S1))
        go_ret
        exact ⟨rfl, (by first | exact S2.below | exact S1.below)⟩
      · have c1b : decide (u < 1) = false := decide_eq_false c1
        by_cases c7 : u > 7
        · have c7b : decide (7 < u) = true := decide_eq_true c7
          rw [if_pos (Or.inr c7)]
          clear c1 c7
          go_enter Try.func9, Try.ntmps9
          go_wp2_with (first | ((with_reducible refine gate_dst (N := 2) rfl ?_); refine box_event ?hg (N := 2) ?hd (cs := cf.cs.toArray) (t := 23) ?hr ?_; (case hd => rfl); (case hg => rfl); (case hr => first | (go_simp; done) | (go_simp; rfl)); intro g1 hg w1 hbox hb; have S1 := S0.box hg hbox hb; clear hg hbox hb; clear S0; have c16 := S1.cell (b := ⟨g1, cf.cs.toArray, 23⟩) (by simp) cf.mul'; have c17 := S1.cell (b := ⟨g1, cf.cs.toArray, 23⟩) (by simp) cf.dv') | (go_at_call 25; (with_reducible refine (rwithin _ _).mono ?_); rintro e w2 ⟨rfl, hb⟩; have S2 := S1.call hb; clear hb; clear S1))
          go_ret
          exact ⟨rfl, (by first | exact S2.below | exact S1.below)⟩
        · have c7b : decide (7 < u) = false := decide_eq_false c7
          rw [if_neg (by omega)]
          clear c1 c7
          go_enter Try.func9, Try.ntmps9
          go_wp2_with (first | ((with_reducible refine gate_dst (N := 2) rfl ?_); refine box_event ?hg (N := 2) ?hd (cs := cf.cs.toArray) (t := 23) ?hr ?_; (case hd => rfl); (case hg => rfl); (case hr => first | (go_simp; done) | (go_simp; rfl)); intro g1 hg w1 hbox hb; have S1 := S0.box hg hbox hb; clear hg hbox hb; clear S0; have c16 := S1.cell (b := ⟨g1, cf.cs.toArray, 23⟩) (by simp) cf.mul'; have c17 := S1.cell (b := ⟨g1, cf.cs.toArray, 23⟩) (by simp) cf.dv') | (go_at_call 25; (with_reducible refine (rwithin _ _).mono ?_); rintro e w2 ⟨rfl, hb⟩; have S2 := S1.call hb; clear hb; clear S1))
          go_ret
          exact ⟨rfl, (by first | exact S2.below | exact S1.below)⟩

theorem less (x y : S44) (w : World) : Calls Try.prog 27 #[.agg (cs44 x).toArray, .agg (cs44 y).toArray] w fun e w' => e = .returned (.bool (decide (x.f0.f1 < y.f0.f1))) ∧ Below w.heap.size w w' := by
  have S0 := St.start w
  go_enter Try.func27, Try.ntmps27
  go_wp2_with (first | ((with_reducible refine gate_dst (N := 2) rfl ?_); refine box_event ?hg (N := 2) ?hd (cs := (cs44 x).toArray) (t := 44) ?hr ?_; (case hd => rfl); (case hg => rfl); (case hr => first | (go_simp; done) | (go_simp; rfl)); intro g1 hg w1 hbox hb; have S1 := S0.box hg hbox hb; clear hg hbox hb; clear S0) | ((with_reducible refine gate_dst (N := 3) rfl ?_); refine box_event ?hg (N := 3) ?hd (cs := (cs44 y).toArray) (t := 44) ?hr ?_; (case hd => rfl); (case hg => rfl); (case hr => first | (go_simp; done) | (go_simp; rfl)); intro g2 hg w2 hbox hb; have S2 := S1.box hg hbox hb; clear hg hbox hb; clear S1; have c1 := S2.cell (b := ⟨g1, (cs44 x).toArray, 44⟩) (j := 23) (by simp) (v := .int .u64 x.f0.f1) rfl; have c2 := S2.cell (b := ⟨g2, (cs44 y).toArray, 44⟩) (j := 23) (by simp) (v := .int .u64 y.f0.f1) rfl))
  go_ret
  exact ⟨rfl, S2.below⟩

theorem take_succ' (l : List S44) {i : Int} (h0 : 0 ≤ i) (h1 : i < (l.length : Int)) : l.take (i + 1).toNat = l.take i.toNat ++ [rd_T44 l i] := by
  have hk : i.toNat < l.length := by omega
  rw [show (i + 1).toNat = i.toNat + 1 by omega, List.take_succ_eq_append_getElem hk]
  unfold rd_T44
  rw [List.getD_eq_getElem?_getD, List.getElem?_eq_getElem hk]
  rfl
theorem wrap_i {x : Int} (h0 : -9223372036854775808 ≤ x) (h1 : x ≤ 9223372036854775807) : wrap64 x = x := by unfold wrap64; omega
theorem ln_take (l : List S44) (i : Nat) (p : S44 → Bool) : ((l.take i).filter p).length ≤ l.length := Nat.le_trans (List.length_filter_le _ _) (by rw [List.length_take]; omega)
/-- Those that are not younger. -/
def cutX (l : List S44) (s : Int) : List S44 := l.filter fun x => decide (x.f0.f1 ≤ s)

set_option maxHeartbeats 8000000 in
set_option maxRecDepth 100000 in
theorem cut (A0 : Option Addr) (c0 : Nat) (l : List S44) (s : Int) (w : World) (hr0 : Kd.C k44 w A0 l.length l) (hc0 : l.length ≤ c0) (hl : l.length ≤ 1000) :
    Calls Try.prog 22 #[.slice A0 l.length c0, .int .u64 s] w fun e w' => ∃ v, e = .returned v ∧ Kd.R k44 44 w' w.heap.size (fun _ => True) v (cutX l s) ∧ Below w.heap.size w w' := by
  have HR0 := Aside0.mk hr0
  have HL := Aside0.mk hl
  clear hr0 hl
  have HB := Aside0.mk (Below.refl w.heap.size w)
  go_enter Try.func22, Try.ntmps22
  go_wp2
  go_loopg [5, 10] l.length (fun kq v5 v10 w' => ∃ (x : Int), v10 = .int .i64 x ∧ Aside0 (0 ≤ x ∧ x + kq = (l.length : Int)) ∧ Aside0 (Kd.R k44 44 w' w.heap.size (fun _ => True) v5 ((l.take x.toNat).filter fun x => decide (x.f0.f1 ≤ s))) ∧ Aside0 (Below w.heap.size w w'))
  case atStart => exact ⟨0, (by first | rfl | (simp; done)), ⟨by simp⟩, ⟨Kd.R_nil _ _ _ _ _⟩, HB⟩
  case round =>
    obtain ⟨x, rfl, HX, HO, HB⟩ := hrel
    by_cases c : x < (l.length : Int)
    · have cb : decide (x < (l.length : Int)) = true := decide_eq_true c
      have p1 : 0 ≤ x := HX.out.1
      obtain ⟨ad, e1, hE, h23, h29, h30⟩ := row44 HR0.out x p1 c
      cases e1
      have HE := Aside0.mk (hE.below HB.out)
      clear hE h23 h29 h30
      obtain ⟨y, hy⟩ : ∃ y, rd_T44 l x = y := ⟨_, rfl⟩
      rw [hy] at HE
      have HY := Aside0.mk hy
      have HN : wrap64 (x + 1) = x + 1 := wrap_i (by omega) (by have := HL.out; omega)
      have HT := take_succ' l p1 c
      rw [hy] at HT
      have HM := Aside0.mk (And.intro HN HT)
      have p1' := decide_eq_true p1
      have CC := Aside0.mk c
      clear hy HN HT
      replace p1 := eq_true p1
      replace c := eq_true c
      by_cases d : y.f0.f1 ≤ s
      · have db : decide (y.f0.f1 ≤ s) = true := decide_eq_true d
        have DD := Aside0.mk d
        clear d
        go_wp2_with (first | ((with_reducible refine gate_dst (N := 13) rfl ?_); refine ld_elt rfl 44 _ rfl _ rfl (y) _ HE.out Try.underlying44 rfl (by kernel_rfl) ?_) | ((with_reducible refine gate_dst (N := 7) rfl ?_); refine box_fill rfl rfl (N := 7) rfl rfl _ _ rfl (by kernel_rfl) ?hr (y) (fun _ => rfl) (fun _ => rfl) ?_; (case hr => first | (go_simp; done) | (go_simp; rfl)); intro gb hg w7 hbox hb; have HO1 := Aside0.mk (Kd.R_below HO.out hb); have HB1 := Aside0.mk (below_step HB.out hb); have BK := Aside0.mk hbox; have c23 : w7.cell? ⟨gb, 23, none⟩ = some (.int .u64 y.f0.f1) := (blk_cell hbox 23).trans rfl; clear hb hbox hg) | ((with_reducible refine gate_dst (N := 20) rfl ?_); refine wpList_load_row rfl 44 _ rfl gb rfl 44 (cs44 (y)).toArray (0, 0) _ BK.out Try.underlying44 rfl (by kernel_rfl) ?_) | ((with_reducible refine gate_dst (N := 21) rfl ?_); refine app44 rfl rfl _ _ _ 24 44 rfl rfl 256 _ Try.underlying24 info44 rfl (by decide) (xs := _) (p := y) rfl (fun _ => rfl) (fun _ => rfl) HO1.out HB1.out (below_size HB1.out) ?aL ?_; (case aL => have := HL.out; have := ln_take l x.toNat (fun x => decide (x.f0.f1 ≤ s)); omega); intro u9 v9 w9 hR_ hB_ hg_; have HO2 := Aside0.mk hR_; have HB2 := Aside0.mk hB_; clear hR_ hB_ hg_))
        go_roundg (gk - 1)
        case measure => have := HX.out; have := CC.out; omega
        case rel => exact ⟨x + 1, (by first | rfl | (simp; done) | (simp [HM.out.1]; done)), ⟨by have := HX.out; have := CC.out; omega⟩, ⟨by rw [HM.out.2, List.filter_append]; simpa [DD.out] using HO2.out⟩, HB2⟩
      · have db : decide (y.f0.f1 ≤ s) = false := decide_eq_false d
        have DD := Aside0.mk d
        clear d
        go_wp2_with (first | ((with_reducible refine gate_dst (N := 13) rfl ?_); refine ld_elt rfl 44 _ rfl _ rfl (y) _ HE.out Try.underlying44 rfl (by kernel_rfl) ?_) | ((with_reducible refine gate_dst (N := 7) rfl ?_); refine box_fill rfl rfl (N := 7) rfl rfl _ _ rfl (by kernel_rfl) ?hr (y) (fun _ => rfl) (fun _ => rfl) ?_; (case hr => first | (go_simp; done) | (go_simp; rfl)); intro gb hg w7 hbox hb; have HO1 := Aside0.mk (Kd.R_below HO.out hb); have HB1 := Aside0.mk (below_step HB.out hb); have BK := Aside0.mk hbox; have c23 : w7.cell? ⟨gb, 23, none⟩ = some (.int .u64 y.f0.f1) := (blk_cell hbox 23).trans rfl; clear hb hbox hg))
        go_roundg (gk - 1)
        case measure => have := HX.out; have := CC.out; omega
        case rel => exact ⟨x + 1, (by first | rfl | (simp; done) | (simp [HM.out.1]; done)), ⟨by have := HX.out; have := CC.out; omega⟩, ⟨by rw [HM.out.2, List.filter_append]; simpa [DD.out] using HO1.out⟩, HB1⟩
    · have cb : decide (x < (l.length : Int)) = false := decide_eq_false c
      have CC := Aside0.mk c
      clear c
      go_wp2
      go_ret
      refine ⟨_, rfl, ?_, HB.out⟩
      have e : x.toNat = l.length := by have := HX.out; have := CC.out; omega
      have := HO.out
      rw [e, List.take_length] at this
      exact this

end Go.Proofs.Ytbkjdikiepnhbaa.Fl
