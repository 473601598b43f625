/- What the small functions of units come to: walks of the code. No condition. -/
import Derived.Test.YtbkjdikiepnhbaaFlX2
namespace Go.Proofs.Ytbkjdikiepnhbaa.Fl
open Go Go.Proofs Go.RowKit Go.Proofs.YtbkjdikiepnhbaaW.PrintWords Go.Proofs.YtbkjdikiepnhbaaW.PrintLast Go.Proofs.YtbkjdikiepnhbaaW.PrintMore Go.Proofs.Ytbkjdikiepnhbaa.Boxes
attribute [local go_sem] max2_int min2_int max_two min_two max_three min_three max_four min_four   -- for this text's walks alone
set_option linter.unusedVariables false
set_option linter.unusedSimpArgs false

/-- The cells of a configuration: the two that count, the others as they are. -/
structure Cf (m d : Int) where
  cs : List Value
  len : cs.length = 22
  one : ∀ u ∈ cs, u.oneCell' = true
  mul : cs[16]? = some (.int .i64 m)
  dv : cs[17]? = some (.int .i64 d)
theorem Cf.size {m d : Int} (c : Cf m d) : (Try.prog.info? 23).map (·.size) = some c.cs.toArray.size := by
  rw [List.size_toArray, c.len]
  kernel_rfl
theorem Cf.mul' {m d : Int} (c : Cf m d) : c.cs.toArray[16]? = some (.int .i64 m) := by rw [List.getElem?_toArray]; exact c.mul
theorem Cf.dv' {m d : Int} (c : Cf m d) : c.cs.toArray[17]? = some (.int .i64 d) := by rw [List.getElem?_toArray]; exact c.dv
/-- A number from 1 to 32. -/
def wi (n : Int) : Int := mn (mx n 1) 32
theorem wi_rng (n : Int) : 1 ≤ wi n ∧ wi n ≤ 32 := by
  unfold wi mn mx
  (repeat' split) <;> omega
def latX (m d u : Int) : Int := if u = 2 then wi m else if u = 3 then wi d else if u = 1 then 1 else if u = 4 then 1 else if u = 5 then 1 else if u = 6 then 1 else if u = 7 then 1 else 0
theorem within (n : Int) (w : World) : Calls Try.prog 24 #[.int .i64 n] w fun e w' => e = .returned (.int .i64 (wi n)) ∧ Below w.heap.size w w' := by
  have HB := Aside0.mk (Below.refl w.heap.size w)
  unfold wi
  obtain ⟨j2, h2⟩ : ∃ j_ : Int, (mx n 1) = j_ := ⟨_, rfl⟩
  rw [h2]
  have h2_ : (if n < 1 then 1 else n) = j2 := h2
  obtain ⟨j3, h3⟩ : ∃ j_ : Int, (mn j2 32) = j_ := ⟨_, rfl⟩
  rw [h3]
  have h3_ : (if 32 < j2 then 32 else j2) = j3 := h3
  go_enter Try.func24, Try.ntmps24
  go_wp2
  go_ret
  exact ⟨by first | rfl | (simp only [← h2, ← h3]; rfl) | (simp [*]; done), by repeat (first | (with_reducible first | exact HB.out | apply below_alloc | apply pw_below_drewN | apply below_drew1) | exact HB.out)⟩
theorem rwithin_is (n lo hi : Int) (w : World) : Calls Try.prog 25 #[.int .i64 n, .int .i64 lo, .int .i64 hi] w fun e w' => e = .returned (.int .i64 (if n < lo then lo else if n > hi then hi else n)) ∧ Below w.heap.size w w' := by
  have HB := Aside0.mk (Below.refl w.heap.size w)
  by_cases c1 : n < lo
  · rw [if_pos c1]
    have c1b : decide (n < lo) = true := decide_eq_true c1
    clear c1
    go_enter Try.func25, Try.ntmps25
    go_wp2
    go_ret
    exact ⟨rfl, HB.out⟩
  · rw [if_neg c1]
    have c1b : decide (n < lo) = false := decide_eq_false c1
    clear c1
    by_cases c2 : n > hi
    · rw [if_pos c2]
      have c2b : decide (hi < n) = true := decide_eq_true c2
      clear c2
      go_enter Try.func25, Try.ntmps25
      go_wp2
      go_ret
      exact ⟨rfl, HB.out⟩
    · rw [if_neg c2]
      have c2b : decide (hi < n) = false := decide_eq_false c2
      clear c2
      go_enter Try.func25, Try.ntmps25
      go_wp2
      go_ret
      exact ⟨rfl, HB.out⟩
theorem rwithin (n : Int) (w : World) : Calls Try.prog 25 #[.int .i64 n, .int .i64 1, .int .i64 32] w fun e w' => e = .returned (.int .i64 (wi n)) ∧ Below w.heap.size w w' := by
  have e : (if n < 1 then (1 : Int) else if n > 32 then 32 else n) = wi n := by
    unfold wi mn mx
    (repeat' split) <;> omega
  exact e ▸ rwithin_is n 1 32 w

set_option maxHeartbeats 4000000 in
theorem lat {m d : Int} (cf : Cf m d) (u : Int) (w : World) : Calls Try.prog 8 #[.agg cf.cs.toArray, .int .i64 u] w fun e w' => e = .returned (.int .i64 (latX m d u)) ∧ Below w.heap.size w w' := by
  unfold latX
  have S0 := St.start w
  by_cases c2 : u = 2
  · rw [if_pos c2]
    have c2b : (u == 2) = true := beq_iff_eq.mpr c2
    clear c2
    go_enter Try.func8, Try.ntmps8
    go_wp2_with (first | ((with_reducible refine gate_dst (N := 2) rfl ?_); refine box_event ?hg (N := 2) ?hd (cs := cf.cs.toArray) (t := 23) ?hr ?_; (case hd => rfl); (case hg => rfl); (case hr => first | (go_simp; done) | (go_simp; rfl)); intro g1 hg w1 hbox hb; have S1 := S0.box hg hbox hb; clear hg hbox hb; clear S0; have c16 := S1.cell (b := ⟨g1, cf.cs.toArray, 23⟩) (by simp) cf.mul'; have c17 := S1.cell (b := ⟨g1, cf.cs.toArray, 23⟩) (by simp) cf.dv') | (go_at_call 24; (with_reducible refine (within _ _).mono ?_); rintro e w2 ⟨rfl, hb⟩; have S2 := S1.call hb; clear hb; clear S1))
    go_ret
    exact ⟨rfl, (by first | exact S2.below | exact S1.below)⟩
  · rw [if_neg c2]
    have c2b : (u == 2) = false := beq_eq_false_iff_ne.mpr c2
    clear c2
    by_cases c3 : u = 3
    · rw [if_pos c3]
      have c3b : (u == 3) = true := beq_iff_eq.mpr c3
      clear c3
      go_enter Try.func8, Try.ntmps8
      go_wp2_with (first | ((with_reducible refine gate_dst (N := 2) rfl ?_); refine box_event ?hg (N := 2) ?hd (cs := cf.cs.toArray) (t := 23) ?hr ?_; (case hd => rfl); (case hg => rfl); (case hr => first | (go_simp; done) | (go_simp; rfl)); intro g1 hg w1 hbox hb; have S1 := S0.box hg hbox hb; clear hg hbox hb; clear S0; have c16 := S1.cell (b := ⟨g1, cf.cs.toArray, 23⟩) (by simp) cf.mul'; have c17 := S1.cell (b := ⟨g1, cf.cs.toArray, 23⟩) (by simp) cf.dv') | (go_at_call 24; (with_reducible refine (within _ _).mono ?_); rintro e w2 ⟨rfl, hb⟩; have S2 := S1.call hb; clear hb; clear S1))
      go_ret
      exact ⟨rfl, (by first | exact S2.below | exact S1.below)⟩
    · rw [if_neg c3]
      have c3b : (u == 3) = false := beq_eq_false_iff_ne.mpr c3
      clear c3
      by_cases c1 : u = 1
      · rw [if_pos c1]
        have c1b : (u == 1) = true := beq_iff_eq.mpr c1
        clear c1
        go_enter Try.func8, Try.ntmps8
        go_wp2_with (first | ((with_reducible refine gate_dst (N := 2) rfl ?_); refine box_event ?hg (N := 2) ?hd (cs := cf.cs.toArray) (t := 23) ?hr ?_; (case hd => rfl); (case hg => rfl); (case hr => first | (go_simp; done) | (go_simp; rfl)); intro g1 hg w1 hbox hb; have S1 := S0.box hg hbox hb; clear hg hbox hb; clear S0; have c16 := S1.cell (b := ⟨g1, cf.cs.toArray, 23⟩) (by simp) cf.mul'; have c17 := S1.cell (b := ⟨g1, cf.cs.toArray, 23⟩) (by simp) cf.dv') | (go_at_call 24; (with_reducible refine (within _ _).mono ?_); rintro e w2 ⟨rfl, hb⟩; have S2 := S1.call hb; clear hb; clear S1))
        go_ret
        exact ⟨rfl, (by first | exact S2.below | exact S1.below)⟩
      · rw [if_neg c1]
        have c1b : (u == 1) = false := beq_eq_false_iff_ne.mpr c1
        clear c1
        by_cases c4 : u = 4
        · rw [if_pos c4]
          have c4b : (u == 4) = true := beq_iff_eq.mpr c4
          clear c4
          go_enter Try.func8, Try.ntmps8
          go_wp2_with (first | ((with_reducible refine gate_dst (N := 2) rfl ?_); refine box_event ?hg (N := 2) ?hd (cs := cf.cs.toArray) (t := 23) ?hr ?_; (case hd => rfl); (case hg => rfl); (case hr => first | (go_simp; done) | (go_simp; rfl)); intro g1 hg w1 hbox hb; have S1 := S0.box hg hbox hb; clear hg hbox hb; clear S0; have c16 := S1.cell (b := ⟨g1, cf.cs.toArray, 23⟩) (by simp) cf.mul'; have c17 := S1.cell (b := ⟨g1, cf.cs.toArray, 23⟩) (by simp) cf.dv') | (go_at_call 24; (with_reducible refine (within _ _).mono ?_); rintro e w2 ⟨rfl, hb⟩; have S2 := S1.call hb; clear hb; clear S1))
          go_ret
          exact ⟨rfl, (by first | exact S2.below | exact S1.below)⟩
        · rw [if_neg c4]
          have c4b : (u == 4) = false := beq_eq_false_iff_ne.mpr c4
          clear c4
          by_cases c5 : u = 5
          · rw [if_pos c5]
            have c5b : (u == 5) = true := beq_iff_eq.mpr c5
            clear c5
            go_enter Try.func8, Try.ntmps8
            go_wp2_with (first | ((with_reducible refine gate_dst (N := 2) rfl ?_); refine box_event ?hg (N := 2) ?hd (cs := cf.cs.toArray) (t := 23) ?hr ?_; (case hd => rfl); (case hg => rfl); (case hr => first | (go_simp; done) | (go_simp; rfl)); intro g1 hg w1 hbox hb; have S1 := S0.box hg hbox hb; clear hg hbox hb; clear S0; have c16 := S1.cell (b := ⟨g1, cf.cs.toArray, 23⟩) (by simp) cf.mul'; have c17 := S1.cell (b := ⟨g1, cf.cs.toArray, 23⟩) (by simp) cf.dv') | (go_at_call 24; (with_reducible refine (within _ _).mono ?_); rintro e w2 ⟨rfl, hb⟩; have S2 := S1.call hb; clear hb; clear S1))
            go_ret
            exact ⟨rfl, (by first | exact S2.below | exact S1.below)⟩
          · rw [if_neg c5]
            have c5b : (u == 5) = false := beq_eq_false_iff_ne.mpr c5
            clear c5
            by_cases c6 : u = 6
            · rw [if_pos c6]
              have c6b : (u == 6) = true := beq_iff_eq.mpr c6
              clear c6
              go_enter Try.func8, Try.ntmps8
              go_wp2_with (first | ((with_reducible refine gate_dst (N := 2) rfl ?_); refine box_event ?hg (N := 2) ?hd (cs := cf.cs.toArray) (t := 23) ?hr ?_; (case hd => rfl); (case hg => rfl); (case hr => first | (go_simp; done) | (go_simp; rfl)); intro g1 hg w1 hbox hb; have S1 := S0.box hg hbox hb; clear hg hbox hb; clear S0; have c16 := S1.cell (b := ⟨g1, cf.cs.toArray, 23⟩) (by simp) cf.mul'; have c17 := S1.cell (b := ⟨g1, cf.cs.toArray, 23⟩) (by simp) cf.dv') | (go_at_call 24; (with_reducible refine (within _ _).mono ?_); rintro e w2 ⟨rfl, hb⟩; have S2 := S1.call hb; clear hb; clear S1))
              go_ret
              exact ⟨rfl, (by first | exact S2.below | exact S1.below)⟩
            · rw [if_neg c6]
              have c6b : (u == 6) = false := beq_eq_false_iff_ne.mpr c6
              clear c6
              by_cases c7 : u = 7
              · rw [if_pos c7]
                have c7b : (u == 7) = true := beq_iff_eq.mpr c7
                clear c7
                go_enter Try.func8, Try.ntmps8
                go_wp2_with (first | ((with_reducible refine gate_dst (N := 2) rfl ?_); refine box_event ?hg (N := 2) ?hd (cs := cf.cs.toArray) (t := 23) ?hr ?_; (case hd => rfl); (case hg => rfl); (case hr => first | (go_simp; done) | (go_simp; rfl)); intro g1 hg w1 hbox hb; have S1 := S0.box hg hbox hb; clear hg hbox hb; clear S0; have c16 := S1.cell (b := ⟨g1, cf.cs.toArray, 23⟩) (by simp) cf.mul'; have c17 := S1.cell (b := ⟨g1, cf.cs.toArray, 23⟩) (by simp) cf.dv') | (go_at_call 24; (with_reducible refine (within _ _).mono ?_); rintro e w2 ⟨rfl, hb⟩; have S2 := S1.call hb; clear hb; clear S1))
                go_ret
                exact ⟨rfl, (by first | exact S2.below | exact S1.below)⟩
              · rw [if_neg c7]
                have c7b : (u == 7) = false := beq_eq_false_iff_ne.mpr c7
                clear c7
                go_enter Try.func8, Try.ntmps8
                go_wp2_with (first | ((with_reducible refine gate_dst (N := 2) rfl ?_); refine box_event ?hg (N := 2) ?hd (cs := cf.cs.toArray) (t := 23) ?hr ?_; (case hd => rfl); (case hg => rfl); (case hr => first | (go_simp; done) | (go_simp; rfl)); intro g1 hg w1 hbox hb; have S1 := S0.box hg hbox hb; clear hg hbox hb; clear S0; have c16 := S1.cell (b := ⟨g1, cf.cs.toArray, 23⟩) (by simp) cf.mul'; have c17 := S1.cell (b := ⟨g1, cf.cs.toArray, 23⟩) (by simp) cf.dv') | (go_at_call 24; (with_reducible refine (within _ _).mono ?_); rintro e w2 ⟨rfl, hb⟩; have S2 := S1.call hb; clear hb; clear S1))
                go_ret
                exact ⟨rfl, (by first | exact S2.below | exact S1.below)⟩
end Go.Proofs.Ytbkjdikiepnhbaa.Fl
