/- What the document's Cut, Take and Tick come to: walks of the code. The conditions are those that each theorem names. -/
import Derived.Test.YtbkjdikiepnhbaaFlB
namespace Go.Proofs.Ytbkjdikiepnhbaa.Fl
open Go Go.Proofs Go.RowKit Go.Proofs.YtbkjdikiepnhbaaW.PrintWords Go.Proofs.YtbkjdikiepnhbaaW.PrintLast Go.Proofs.YtbkjdikiepnhbaaW.PrintMore Go.Proofs.Ytbkjdikiepnhbaa.Boxes
attribute [local go_sem] max2_int min2_int max_two min_two max_three min_three max_four min_four   -- for this text's walks alone
set_option linter.unusedVariables false
set_option linter.unusedSimpArgs false

theorem drop_at' (l : List S44) {i : Int} (h0 : 0 ≤ i) (h1 : i < (l.length : Int)) : l.drop i.toNat = rd_T44 l i :: l.drop (i + 1).toNat := by
  have hk : i.toNat < l.length := by omega
  rw [show (i + 1).toNat = i.toNat + 1 by omega]
  unfold rd_T44
  rw [List.getD_eq_getElem?_getD, List.getElem?_eq_getElem hk]
  exact List.drop_eq_getElem_cons hk

set_option maxHeartbeats 8000000 in
set_option maxRecDepth 100000 in
theorem rcut (A0 : Option Addr) (c0 : Nat) (l : List S44) (s : Int) (w : World) (hr0 : Kd.C k44 w A0 l.length l) (hc0 : l.length ≤ c0) (hl : l.length ≤ 1000) :
    Calls Try.prog 23 #[.slice A0 l.length c0, .int .u64 s] w fun e w' => ∃ v, e = .returned v ∧ Kd.R k44 44 w' w.heap.size (fun _ => True) v (cutX l s) ∧ Below w.heap.size w w' := by
  have HR0 := Aside0.mk hr0
  have HL := Aside0.mk hl
  clear hr0 hl
  have HB := Aside0.mk (Below.refl w.heap.size w)
  go_enter Try.func23, Try.ntmps23
  go_wp2_with (first | ((with_reducible refine gate_dst (N := 7) rfl ?_); refine Kd.R_lit k44 _ 44 ?hg (N := 7) ?hd (xs := ([] : List S44)) (inner := []) (ok := fun _ => True) (okp := fun _ => True) ?hr ?hp (fun _ hk => hk) trivial (Below.refl _ _) (Nat.le_refl _) (by simp) ?_; (case hd => rfl); (case hg => rfl); (case hr => first | (go_simp; done) | (go_simp; rfl)); (case hp => exact (Reps.none _ _)); intro v3 w3 ho4 hb hg_ hnew_; have HO := Aside0.mk (Kd.R_lower ho4 (below_size HB.out)); have HB1 := Aside0.mk (below_step HB.out hb); clear HB hg_ hnew_ hb ho4; have HB := HB1; clear HB1))
  go_loopg [5, 6] l.length (fun kq v5 v10 w' => ∃ (x : Int), v10 = .int .i64 x ∧ Aside0 (0 ≤ x ∧ x + kq = (l.length : Int)) ∧ Aside0 (Kd.R k44 44 w' w.heap.size (fun _ => True) v5 ((l.take x.toNat).filter fun x => decide (x.f0.f1 ≤ s))) ∧ Aside0 (Below w.heap.size w w'))
  case atStart => exact ⟨0, (by first | rfl | (simp; done)), ⟨by simp⟩, HO, HB⟩
  case round =>
    clear HO HB
    obtain ⟨x, rfl, HX, HO, HB⟩ := hrel
    by_cases c : x < (l.length : Int)
    · have cb : decide (x < (l.length : Int)) = true := decide_eq_true c
      have p1 : 0 ≤ x := HX.out.1
      obtain ⟨ad, e1, hE, h23, h29, h30⟩ := row44 HR0.out x p1 c
      cases e1
      have HE := Aside0.mk (hE.below HB.out)
      obtain ⟨y, hy⟩ : ∃ y_, rd_T44 l x = y_ := ⟨_, rfl⟩
      rw [hy] at HE h23 h29 h30
      replace h23 := (HB.out.cell (World.block_lt_of_cell? w _ h23)).trans h23
      replace h29 := (HB.out.cell (World.block_lt_of_cell? w _ h29)).trans h29
      replace h30 := (HB.out.cell (World.block_lt_of_cell? w _ h30)).trans h30
      clear hE
      have HN : wrap64 (x + 1) = x + 1 := wrap_i (by omega) (by have := HL.out; omega)
      have HT := take_succ' l p1 c
      have HD := drop_at' l p1 c
      rw [hy] at HT HD
      have HY := Aside0.mk hy
      have HM := Aside0.mk (And.intro HN (And.intro HT HD))
      have p1' := decide_eq_true p1
      have CC := Aside0.mk c
      clear hy HN HT HD
      replace p1 := eq_true p1
      replace c := eq_true c
      by_cases d : y.f0.f1 ≤ s
      · have db : decide (y.f0.f1 ≤ s) = true := decide_eq_true d
        have DD := Aside0.mk d
        clear d
        go_wp2_with (first | ((with_reducible refine gate_dst (N := 26) rfl ?_); refine ld_elt rfl 44 _ rfl _ rfl (y) _ HE.out Try.underlying44 rfl (by kernel_rfl) ?_) | ((with_reducible refine gate_dst (N := 27) rfl ?_); refine app44 rfl rfl _ _ _ 24 44 rfl rfl 256 _ Try.underlying24 info44 rfl (by decide) (xs := _) (p := y) rfl (fun _ => rfl) (fun _ => rfl) HO.out HB.out (below_size HB.out) ?aL ?_; (case aL => have := HL.out; have := ln_take l x.toNat (fun x => decide (x.f0.f1 ≤ s)); omega); intro u9 v9 w9 hR_ hB_ hg_; have HO2 := Aside0.mk hR_; have HB2 := Aside0.mk hB_; clear hR_ hB_ hg_))
        go_roundg (gk - 1)
        case measure => have := HX.out; have := CC.out; omega
        case rel => exact ⟨x + 1, (by first | rfl | (simp; done) | (simp [HM.out.1]; done)), ⟨by have := HX.out; have := CC.out; omega⟩, ⟨by rw [HM.out.2.1, List.filter_append]; simpa [DD.out] using HO2.out⟩, HB2⟩
      · have db : decide (y.f0.f1 ≤ s) = false := decide_eq_false d
        have DD := Aside0.mk d
        clear d
        go_wp2
        go_roundg (gk - 1)
        case measure => have := HX.out; have := CC.out; omega
        case rel => exact ⟨x + 1, (by first | rfl | (simp; done) | (simp [HM.out.1]; done)), ⟨by have := HX.out; have := CC.out; omega⟩, ⟨by rw [HM.out.2.1, List.filter_append]; simpa [DD.out] using HO.out⟩, HB⟩
    · have cb : decide (x < (l.length : Int)) = false := decide_eq_false c
      have CC := Aside0.mk c
      clear c
      go_wp2
      go_ret
      refine ⟨_, rfl, ?_, HB.out⟩
      have e : x.toNat = l.length := by have := HX.out; have := CC.out; omega
      have := HO.out
      rw [e, List.take_length] at this
      exact this

/-- All but the first of a Seq. -/
def takeX : List S44 → Int → List S44
  | [], _ => []
  | y :: r, s => if y.f0.f1 = s then r else y :: takeX r s
theorem takeX_len (s : Int) : ∀ l : List S44, (takeX l s).length ≤ l.length
  | [] => Nat.le_refl _
  | y :: r => by
    have := takeX_len s r
    unfold takeX
    split <;> simp <;> omega
set_option maxHeartbeats 8000000 in
set_option maxRecDepth 100000 in
theorem rtake (A0 : Option Addr) (c0 : Nat) (l : List S44) (s : Int) (w : World) (hr0 : Kd.C k44 w A0 l.length l) (hc0 : l.length ≤ c0) (hl : l.length ≤ 1000) :
    Calls Try.prog 21 #[.slice A0 l.length c0, .int .u64 s] w fun e w' => ∃ v, e = .returned v ∧ Kd.R k44 44 w' w.heap.size (fun _ => True) v (takeX l s) ∧ Below w.heap.size w w' := by
  have HR0 := Aside0.mk hr0
  have HL := Aside0.mk hl
  clear hr0 hl
  have HB := Aside0.mk (Below.refl w.heap.size w)
  go_enter Try.func21, Try.ntmps21
  go_wp2_with (first | ((with_reducible refine gate_dst (N := 8) rfl ?_); refine Kd.R_lit k44 _ 44 ?hg (N := 8) ?hd (xs := ([] : List S44)) (inner := []) (ok := fun _ => True) (okp := fun _ => True) ?hr ?hp (fun _ hk => hk) trivial (Below.refl _ _) (Nat.le_refl _) (by simp) ?_; (case hd => rfl); (case hg => rfl); (case hr => first | (go_simp; done) | (go_simp; rfl)); (case hp => exact (Reps.none _ _)); intro v3 w3 ho4 hb hg_ hnew_; have HO := Aside0.mk (Kd.R_lower ho4 (below_size HB.out)); have HB1 := Aside0.mk (below_step HB.out hb); clear HB hg_ hnew_ hb ho4; have HB := HB1; clear HB1))
  go_loopg [5, 6, 7] l.length (fun kq v5 v6 v7 w' => ∃ (x : Int) (b : Bool) (out : List S44), v7 = .int .i64 x ∧ v6 = .bool b ∧ Aside0 (0 ≤ x ∧ x + kq = (l.length : Int) ∧ out.length ≤ x.toNat) ∧ Aside0 (out ++ (if b = true then l.drop x.toNat else takeX (l.drop x.toNat) s) = takeX l s) ∧ Aside0 (Kd.R k44 44 w' w.heap.size (fun _ => True) v5 out) ∧ Aside0 (Below w.heap.size w w'))
  case atStart => exact ⟨0, false, [], (by first | rfl | (simp; done)), (by first | rfl | (simp; done)), ⟨by simp⟩, ⟨by simp⟩, HO, HB⟩
  case round =>
    clear HO HB
    obtain ⟨x, b, out, rfl, rfl, HX, HG, HO, HB⟩ := hrel
    by_cases c : x < (l.length : Int)
    · have cb : decide (x < (l.length : Int)) = true := decide_eq_true c
      have p1 : 0 ≤ x := HX.out.1
      obtain ⟨ad, e1, hE, h23, h29, h30⟩ := row44 HR0.out x p1 c
      cases e1
      have HE := Aside0.mk (hE.below HB.out)
      obtain ⟨y, hy⟩ : ∃ y_, rd_T44 l x = y_ := ⟨_, rfl⟩
      rw [hy] at HE h23 h29 h30
      replace h23 := (HB.out.cell (World.block_lt_of_cell? w _ h23)).trans h23
      replace h29 := (HB.out.cell (World.block_lt_of_cell? w _ h29)).trans h29
      replace h30 := (HB.out.cell (World.block_lt_of_cell? w _ h30)).trans h30
      clear hE
      have HN : wrap64 (x + 1) = x + 1 := wrap_i (by omega) (by have := HL.out; omega)
      have HT := take_succ' l p1 c
      have HD := drop_at' l p1 c
      rw [hy] at HT HD
      have HY := Aside0.mk hy
      have HM := Aside0.mk (And.intro HN (And.intro HT HD))
      have p1' := decide_eq_true p1
      have CC := Aside0.mk c
      clear hy HN HT HD
      replace p1 := eq_true p1
      replace c := eq_true c
      cases b with
      | true =>
        go_wp2_with (first | ((with_reducible refine gate_dst (N := 31) rfl ?_); refine ld_elt rfl 44 _ rfl _ rfl (y) _ HE.out Try.underlying44 rfl (by kernel_rfl) ?_) | ((with_reducible refine gate_dst (N := 32) rfl ?_); refine app44 rfl rfl _ _ _ 24 44 rfl rfl 256 _ Try.underlying24 info44 rfl (by decide) (xs := _) (p := y) rfl (fun _ => rfl) (fun _ => rfl) HO.out HB.out (below_size HB.out) ?aL ?_; (case aL => have := HL.out; have := HX.out; have := CC.out; omega); intro u9 v9 w9 hR_ hB_ hg_; have HO2 := Aside0.mk hR_; have HB2 := Aside0.mk hB_; clear hR_ hB_ hg_))
        go_roundg (gk - 1)
        case measure => have := HX.out; have := CC.out; omega
        case rel => exact ⟨x + 1, true, out ++ [y], (by first | rfl | (simp; done) | (simp [HM.out.1]; done)), (by first | rfl | (simp; done) | (simp [HM.out.1]; done)), ⟨by have := HX.out; have := CC.out; simp; omega⟩, ⟨by have := HG.out; rw [HM.out.2.2] at this; simpa using this⟩, HO2, HB2⟩
      | false =>
        by_cases d : y.f0.f1 = s
        · have db : (y.f0.f1 == s) = true := beq_iff_eq.mpr d
          have DD := Aside0.mk d
          clear d
          go_wp2
          go_roundg (gk - 1)
          case measure => have := HX.out; have := CC.out; omega
          case rel => exact ⟨x + 1, true, out, (by first | rfl | (simp; done) | (simp [HM.out.1]; done)), (by first | rfl | (simp; done) | (simp [HM.out.1]; done)), ⟨by have := HX.out; have := CC.out; omega⟩, ⟨by have := HG.out; rw [HM.out.2.2] at this; simpa [takeX, DD.out] using this⟩, HO, HB⟩
        · have db : (y.f0.f1 == s) = false := beq_eq_false_iff_ne.mpr d
          have DD := Aside0.mk d
          clear d
          go_wp2_with (first | ((with_reducible refine gate_dst (N := 31) rfl ?_); refine ld_elt rfl 44 _ rfl _ rfl (y) _ HE.out Try.underlying44 rfl (by kernel_rfl) ?_) | ((with_reducible refine gate_dst (N := 32) rfl ?_); refine app44 rfl rfl _ _ _ 24 44 rfl rfl 256 _ Try.underlying24 info44 rfl (by decide) (xs := _) (p := y) rfl (fun _ => rfl) (fun _ => rfl) HO.out HB.out (below_size HB.out) ?aL ?_; (case aL => have := HL.out; have := HX.out; have := CC.out; omega); intro u9 v9 w9 hR_ hB_ hg_; have HO2 := Aside0.mk hR_; have HB2 := Aside0.mk hB_; clear hR_ hB_ hg_))
          go_roundg (gk - 1)
          case measure => have := HX.out; have := CC.out; omega
          case rel => exact ⟨x + 1, false, out ++ [y], (by first | rfl | (simp; done) | (simp [HM.out.1]; done)), (by first | rfl | (simp; done) | (simp [HM.out.1]; done)), ⟨by have := HX.out; have := CC.out; simp; omega⟩, ⟨by have := HG.out; rw [HM.out.2.2] at this; simpa [takeX, DD.out] using this⟩, HO2, HB2⟩
    · have cb : decide (x < (l.length : Int)) = false := decide_eq_false c
      have CC := Aside0.mk c
      clear c
      go_wp2
      go_ret
      refine ⟨_, rfl, ?_, HB.out⟩
      have e : l.drop x.toNat = [] := List.drop_eq_nil_of_le (by have := HX.out; have := CC.out; omega)
      have e2 := HG.out
      rw [e] at e2
      have e3 : out = takeX l s := by cases b <;> simpa [takeX] using e2
      rw [← e3]
      exact HO.out

/-- A cycle later. -/
def tick1 (x : S44) : S44 := {x with f2 := if x.f2 < 1 then 0 else wrap64 (x.f2 - 1)}
def tickX (l : List S44) : List S44 := l.map tick1
set_option maxHeartbeats 8000000 in
set_option maxRecDepth 100000 in
theorem rtick (A0 : Option Addr) (c0 : Nat) (l : List S44) (w : World) (hr0 : Kd.C k44 w A0 l.length l) (hc0 : l.length ≤ c0) (hl : l.length ≤ 1000) :
    Calls Try.prog 16 #[.slice A0 l.length c0] w fun e w' => ∃ v, e = .returned v ∧ Kd.R k44 44 w' w.heap.size (fun _ => True) v (tickX l) ∧ Below w.heap.size w w' := by
  have HR0 := Aside0.mk hr0
  have HL := Aside0.mk hl
  clear hr0 hl
  have HB := Aside0.mk (Below.refl w.heap.size w)
  go_enter Try.func16, Try.ntmps16
  go_wp2_with (first | ((with_reducible refine gate_dst (N := 6) rfl ?_); refine Kd.R_lit k44 _ 44 ?hg (N := 6) ?hd (xs := ([] : List S44)) (inner := []) (ok := fun _ => True) (okp := fun _ => True) ?hr ?hp (fun _ hk => hk) trivial (Below.refl _ _) (Nat.le_refl _) (by simp) ?_; (case hd => rfl); (case hg => rfl); (case hr => first | (go_simp; done) | (go_simp; rfl)); (case hp => exact (Reps.none _ _)); intro v3 w3 ho4 hb hg_ hnew_; have HO := Aside0.mk (Kd.R_lower ho4 (below_size HB.out)); have HB1 := Aside0.mk (below_step HB.out hb); clear HB hg_ hnew_ hb ho4; have HB := HB1; clear HB1))
  go_loopg [3, 4] l.length (fun kq v5 v10 w' => ∃ (x : Int), v10 = .int .i64 x ∧ Aside0 (0 ≤ x ∧ x + kq = (l.length : Int)) ∧ Aside0 (Kd.R k44 44 w' w.heap.size (fun _ => True) v5 ((l.take x.toNat).map tick1)) ∧ Aside0 (Below w.heap.size w w'))
  case atStart => exact ⟨0, (by first | rfl | (simp; done)), ⟨by simp⟩, HO, HB⟩
  case round =>
    clear HO HB
    obtain ⟨x, rfl, HX, HO, HB⟩ := hrel
    by_cases c : x < (l.length : Int)
    · have cb : decide (x < (l.length : Int)) = true := decide_eq_true c
      have p1 : 0 ≤ x := HX.out.1
      obtain ⟨ad, e1, hE, h23, h29, h30⟩ := row44 HR0.out x p1 c
      cases e1
      have HE := Aside0.mk (hE.below HB.out)
      obtain ⟨y, hy⟩ : ∃ y_, rd_T44 l x = y_ := ⟨_, rfl⟩
      rw [hy] at HE h23 h29 h30
      replace h23 := (HB.out.cell (World.block_lt_of_cell? w _ h23)).trans h23
      replace h29 := (HB.out.cell (World.block_lt_of_cell? w _ h29)).trans h29
      replace h30 := (HB.out.cell (World.block_lt_of_cell? w _ h30)).trans h30
      clear hE
      have HN : wrap64 (x + 1) = x + 1 := wrap_i (by omega) (by have := HL.out; omega)
      have HT := take_succ' l p1 c
      have HD := drop_at' l p1 c
      rw [hy] at HT HD
      have HY := Aside0.mk hy
      have HM := Aside0.mk (And.intro HN (And.intro HT HD))
      have p1' := decide_eq_true p1
      have CC := Aside0.mk c
      clear hy HN HT HD
      replace p1 := eq_true p1
      replace c := eq_true c
      by_cases d : y.f2 < 1
      · have db : decide (y.f2 < 1) = true := decide_eq_true d
        have DD := Aside0.mk d
        clear d
        go_wp2_with (first | ((with_reducible refine gate_dst (N := 16) rfl ?_); refine ld_elt rfl 44 _ rfl _ rfl (y) _ HE.out Try.underlying44 rfl (by kernel_rfl) ?_) | ((with_reducible refine gate_dst (N := 5) rfl ?_); refine box_fill rfl rfl (N := 5) rfl rfl _ _ rfl (by kernel_rfl) ?hr (y) (fun _ => rfl) (fun _ => rfl) ?_; (case hr => first | (go_simp; done) | (go_simp; rfl)); intro gb hg w7 hbox hb; have HO1 := Aside0.mk (Kd.R_below (Kd.R_elderB HO.out gb (Nat.le_of_eq hg.symm)) hb); have HB1 := Aside0.mk (below_step HB.out hb); have GE := Aside0.mk ((by rw [hg]; exact below_size HB.out) : w.heap.size ≤ gb); have BK := Aside0.mk hbox; have c30 : w7.cell? ⟨gb, 30, none⟩ = some (.int .i64 y.f2) := (blk_cell hbox 30).trans rfl; have fz30 := blk_frozen hbox 30; clear hb hbox hg) | ((with_reducible refine gate_store (t := 3) (p := 20) rfl ?_); refine store_event (t := 3) (p := 20) (v := ?vo20_) (w1 := w7.setCell ⟨gb, 30, none⟩ (.int .i64 (1))) ?hg ?ho ?hn ?hr ?_; (case ho => rfl); (case hg => rfl); (case hn => rfl); (case hr => first | (go_simp; done) | (go_simp; rfl)); intro w8 hw; obtain ⟨MV8, BK8, c30w8, fzw8⟩ := st_left BK.out hw; clear hw; obtain ⟨y1, hy1⟩ : ∃ q_, ({y with f2 := 1} : S44) = q_ := ⟨_, rfl⟩; rw [hy1] at BK8) | ((with_reducible refine gate_store (t := 3) (p := 24) rfl ?_); refine store_event (t := 3) (p := 24) (v := ?vo24_) (w1 := w8.setCell ⟨gb, 30, none⟩ (.int .i64 (0))) ?hg ?ho ?hn ?hr ?_; (case ho => rfl); (case hg => rfl); (case hn => rfl); (case hr => first | (go_simp; done) | (go_simp; rfl)); intro w8b hw; obtain ⟨MV9, BK9, c30w8b, fzw8b⟩ := st_left BK8 hw; clear hw; obtain ⟨y2, hy2⟩ : ∃ q_, ({y1 with f2 := 0} : S44) = q_ := ⟨_, rfl⟩; rw [hy2] at BK9) | ((with_reducible refine gate_dst (N := 26) rfl ?_); refine wpList_load_row rfl 44 _ rfl gb rfl 44 (cs44 (y2)).toArray (0, 0) _ BK9 Try.underlying44 rfl (by kernel_rfl) ?_) | ((with_reducible refine gate_dst (N := 27) rfl ?_); refine app44 rfl rfl _ _ _ 24 44 rfl rfl 256 _ Try.underlying24 info44 rfl (by decide) (xs := _) (p := y2) rfl (fun _ => rfl) (fun _ => rfl) (Kd.R_mono (MV9.R (MV8.R (Kd.R_mono HO1.out (fun _ hk => hk.2)))) (fun _ _ => trivial)) (MV9.below (MV8.below HB1.out GE.out) GE.out) (below_size (MV9.below (MV8.below HB1.out GE.out) GE.out)) ?aL ?_; (case aL => have := HL.out; have := HX.out; have := CC.out; simp; omega); intro u9 v9 w9 hR_ hB_ hg_; have HO2 := Aside0.mk hR_; have HB2 := Aside0.mk hB_; clear hR_ hB_ hg_))
        go_roundg (gk - 1)
        case measure => have := HX.out; have := CC.out; omega
        case rel => exact ⟨x + 1, (by first | rfl | (simp; done) | (simp [HM.out.1]; done)), ⟨by have := HX.out; have := CC.out; omega⟩, ⟨by have e_ : tick1 y = y2 := (by rw [← hy2, ← hy1]; unfold tick1; rw [if_pos DD.out]); rw [HM.out.2.1, List.map_append, List.map_singleton, e_]; exact HO2.out⟩, HB2⟩
      · have db : decide (y.f2 < 1) = false := decide_eq_false d
        have DD := Aside0.mk d
        clear d
        go_wp2_with (first | ((with_reducible refine gate_dst (N := 16) rfl ?_); refine ld_elt rfl 44 _ rfl _ rfl (y) _ HE.out Try.underlying44 rfl (by kernel_rfl) ?_) | ((with_reducible refine gate_dst (N := 5) rfl ?_); refine box_fill rfl rfl (N := 5) rfl rfl _ _ rfl (by kernel_rfl) ?hr (y) (fun _ => rfl) (fun _ => rfl) ?_; (case hr => first | (go_simp; done) | (go_simp; rfl)); intro gb hg w7 hbox hb; have HO1 := Aside0.mk (Kd.R_below (Kd.R_elderB HO.out gb (Nat.le_of_eq hg.symm)) hb); have HB1 := Aside0.mk (below_step HB.out hb); have GE := Aside0.mk ((by rw [hg]; exact below_size HB.out) : w.heap.size ≤ gb); have BK := Aside0.mk hbox; have c30 : w7.cell? ⟨gb, 30, none⟩ = some (.int .i64 y.f2) := (blk_cell hbox 30).trans rfl; have fz30 := blk_frozen hbox 30; clear hb hbox hg) | ((with_reducible refine gate_store (t := 3) (p := 24) rfl ?_); refine store_event (t := 3) (p := 24) (v := ?vo24_) (w1 := w7.setCell ⟨gb, 30, none⟩ (.int .i64 (wrap64 (y.f2 - 1)))) ?hg ?ho ?hn ?hr ?_; (case ho => rfl); (case hg => rfl); (case hn => rfl); (case hr => first | (go_simp; done) | (go_simp; rfl)); intro w8 hw; obtain ⟨MV8, BK8, c30w8, fzw8⟩ := st_left BK.out hw; clear hw; obtain ⟨y1, hy1⟩ : ∃ q_, ({y with f2 := wrap64 (y.f2 - 1)} : S44) = q_ := ⟨_, rfl⟩; rw [hy1] at BK8) | ((with_reducible refine gate_dst (N := 26) rfl ?_); refine wpList_load_row rfl 44 _ rfl gb rfl 44 (cs44 (y1)).toArray (0, 0) _ BK8 Try.underlying44 rfl (by kernel_rfl) ?_) | ((with_reducible refine gate_dst (N := 27) rfl ?_); refine app44 rfl rfl _ _ _ 24 44 rfl rfl 256 _ Try.underlying24 info44 rfl (by decide) (xs := _) (p := y1) rfl (fun _ => rfl) (fun _ => rfl) (Kd.R_mono (MV8.R (Kd.R_mono HO1.out (fun _ hk => hk.2))) (fun _ _ => trivial)) (MV8.below HB1.out GE.out) (below_size (MV8.below HB1.out GE.out)) ?aL ?_; (case aL => have := HL.out; have := HX.out; have := CC.out; simp; omega); intro u9 v9 w9 hR_ hB_ hg_; have HO2 := Aside0.mk hR_; have HB2 := Aside0.mk hB_; clear hR_ hB_ hg_))
        go_roundg (gk - 1)
        case measure => have := HX.out; have := CC.out; omega
        case rel => exact ⟨x + 1, (by first | rfl | (simp; done) | (simp [HM.out.1]; done)), ⟨by have := HX.out; have := CC.out; omega⟩, ⟨by have e_ : tick1 y = y1 := (by rw [← hy1]; unfold tick1; rw [if_neg (by have := DD.out; omega)]); rw [HM.out.2.1, List.map_append, List.map_singleton, e_]; exact HO2.out⟩, HB2⟩
    · have cb : decide (x < (l.length : Int)) = false := decide_eq_false c
      have CC := Aside0.mk c
      clear c
      go_wp2
      go_ret
      refine ⟨_, rfl, ?_, HB.out⟩
      have e : x.toNat = l.length := by have := HX.out; have := CC.out; omega
      have := HO.out
      rw [e, List.take_length] at this
      exact this

end Go.Proofs.Ytbkjdikiepnhbaa.Fl
