/- The laws UnitRoom and UnitStarts: walks of the code. The conditions are those that each theorem names. -/
import Derived.Test.YtbkjdikiepnhbaaFlJ
namespace Go.Proofs.Ytbkjdikiepnhbaa.Fl
open Go Go.Proofs Go.RowKit Go.Proofs.YtbkjdikiepnhbaaW.PrintWords Go.Proofs.YtbkjdikiepnhbaaW.PrintLast Go.Proofs.YtbkjdikiepnhbaaW.PrintMore Go.Proofs.Ytbkjdikiepnhbaa.Boxes
attribute [local go_sem] max2_int min2_int max_two min_two max_three min_three max_four min_four   -- for this text's walks alone
set_option linter.unusedVariables false
set_option linter.unusedSimpArgs false

set_option maxHeartbeats 8000000 in
set_option maxRecDepth 100000 in
theorem unitRoom {m d : Int} (cf : Cf m d) (A0 : Option Addr) (c0 : Nat) (l : List S44) (u : Int) (w : World) (hr0 : Kd.C k44 w A0 l.length l) (hc0 : l.length ≤ c0) :
    Calls Try.prog 3 #[.agg cf.cs.toArray, .slice A0 l.length c0, .int .i64 u] w fun e w' => e = .returned (.bool true) ∧ Below w.heap.size w w' := by
  have HR0 := Aside0.mk hr0
  have HC0 := Aside0.mk hc0
  clear hr0 hc0
  have S0 := St.start w
  by_cases c : (l.length : Int) > 60
  · have cb : decide (60 < (l.length : Int)) = true := decide_eq_true c
    clear c
    go_enter Try.func3, Try.ntmps3
    go_wp2_with (first | ((with_reducible refine gate_dst (N := 3) rfl ?_); refine box_event ?hg (N := 3) ?hd (cs := cf.cs.toArray) (t := 23) ?hr ?_; (case hd => rfl); (case hg => rfl); (case hr => first | (go_simp; done) | (go_simp; rfl)); intro g1 hg w1 hbox hb; have S1 := S0.box hg hbox hb; clear hg hbox hb; clear S0) | (go_at_call 7; (with_reducible refine (awake _).mono ?_); rintro e_ w2 ⟨rfl, hB_⟩; have S2 := S1.call hB_; clear hB_; clear S1))
    go_ret
    exact ⟨rfl, S2.below⟩
  · have cb : decide (60 < (l.length : Int)) = false := decide_eq_false c
    have HL := Aside0.mk (show l.length ≤ 1000 by omega)
    have hz : (latX m d u == latX m d u) = true := by simp
    have hy : (roomX m d l u == roomX m d l u) = true := by simp
    clear c
    go_enter Try.func3, Try.ntmps3
    go_upto_region 3 with (first | ((with_reducible refine gate_dst (N := 3) rfl ?_); refine box_event ?hg (N := 3) ?hd (cs := cf.cs.toArray) (t := 23) ?hr ?_; (case hd => rfl); (case hg => rfl); (case hr => first | (go_simp; done) | (go_simp; rfl)); intro g1 hg w1 hbox hb; have S1 := S0.box hg hbox hb; clear hg hbox hb; clear S0))
    refine wp_region_st S1 (by kernel_rfl) (by kernel_rfl) ?_
    haveI : Nonempty (Cls _ _) := ⟨⟨_, S1⟩⟩
    repeat (first | (go_big_quiet_want; (with_reducible refine quiet_load 23 _ rfl g1 rfl 23 cf.cs.toArray _ (fun x => x.st.heap ⟨g1, cf.cs.toArray, 23⟩ (by simp)) Try.underlying23 rfl (cf.size) ?_); go_big_quiet_on; (try simp only [Act.put, List.setIfInBounds_toArray, List.set_cons_zero, List.set_cons_succ])) | go_big_quiet_step ((first | (go_at_call 8; exact quiet_st (lat cf u _)) | (go_at_call 9; exact quiet_st (rlat cf u _)) | (go_at_call 10; exact quiet_st (room cf A0 c0 l u _ (Kd.C_below HR0.out (St.below (Cls.st _))) HC0.out HL.out)) | (go_at_call 11; exact quiet_st (rroom cf A0 c0 l u _ (Kd.C_below HR0.out (St.below (Cls.st _))) HC0.out HL.out)) | (go_at_call 7; exact quiet_st (awake _)))))
    refine wpQuiet_nil ?_
    rintro ⟨w9, S9⟩
    go_wp2
    go_ret
    exact ⟨rfl, S9.below⟩

set_option maxHeartbeats 8000000 in
set_option maxRecDepth 100000 in
theorem unitStarts {m d : Int} (cf : Cf m d) (A0 : Option Addr) (c0 : Nat) (l : List S44) (f : S44) (w : World) (hr0 : Kd.C k44 w A0 l.length l) (hc0 : l.length ≤ c0) :
    Calls Try.prog 4 #[.agg cf.cs.toArray, .slice A0 l.length c0, .agg (cs44 f).toArray] w fun e w' => e = .returned (.bool true) ∧ Below w.heap.size w w' := by
  have HR0 := Aside0.mk hr0
  have HC0 := Aside0.mk hc0
  clear hr0 hc0
  have S0 := St.start w
  by_cases c : (l.length : Int) > 60
  · have cb : decide (60 < (l.length : Int)) = true := decide_eq_true c
    clear c
    go_enter Try.func4, Try.ntmps4
    go_wp2_with (first | ((with_reducible refine gate_dst (N := 3) rfl ?_); refine box_event ?hg (N := 3) ?hd (cs := cf.cs.toArray) (t := 23) ?hr ?_; (case hd => rfl); (case hg => rfl); (case hr => first | (go_simp; done) | (go_simp; rfl)); intro g1 hg w1 hbox hb; have S1 := S0.box hg hbox hb; clear hg hbox hb; clear S0) | ((with_reducible refine gate_dst (N := 5) rfl ?_); refine box_event ?hg (N := 5) ?hd (cs := (cs44 f).toArray) (t := 44) ?hr ?_; (case hd => rfl); (case hg => rfl); (case hr => first | (go_simp; done) | (go_simp; rfl)); intro g2 hg w2 hbox hb; have S2 := S1.box hg hbox hb; clear hg hbox hb; clear S1) | (go_at_call 7; (with_reducible refine (awake _).mono ?_); rintro e_ w3 ⟨rfl, hB_⟩; have S3 := S2.call hB_; clear hB_; clear S2))
    go_ret
    exact ⟨rfl, S3.below⟩
  · have cb : decide (60 < (l.length : Int)) = false := decide_eq_false c
    have HL := Aside0.mk (show l.length ≤ 1000 by omega)
    clear c
    obtain ⟨r, hr⟩ : ∃ r_, roomX m d l f.f1 = r_ := ⟨_, rfl⟩
    cases r with
    | false =>
      have ST := Aside0.mk (fun w_ (hC_ : Kd.C k44 w_ A0 l.length l) => (start cf A0 c0 l f w_ hC_ HC0.out HL.out).mono (R' := fun e w' => e = .returned (.tuple #[.slice A0 l.length c0, .bool false]) ∧ Below w_.heap.size w_ w') fun e w' ⟨⟨v, h1, h2, _⟩, hb⟩ => by rw [hr] at h1; rw [h2 hr] at h1; exact ⟨h1, hb⟩)
      have SR := Aside0.mk (fun w_ (hC_ : Kd.C k44 w_ A0 l.length l) => (rstart cf A0 c0 l f w_ hC_ HC0.out HL.out).mono (R' := fun e w' => (∃ v, e = .returned (.tuple #[v, .bool false]) ∧ Kd.R k44 44 w' w_.heap.size (fun _ => True) v l) ∧ Below w_.heap.size w_ w') fun e w' ⟨⟨v, h1, h2⟩, hb⟩ => by rw [hr] at h1 h2; exact ⟨⟨v, h1, h2⟩, hb⟩)
      clear hr
      go_enter Try.func4, Try.ntmps4
      go_wp2_with (first | ((with_reducible refine gate_dst (N := 3) rfl ?_); refine box_event ?hg (N := 3) ?hd (cs := cf.cs.toArray) (t := 23) ?hr ?_; (case hd => rfl); (case hg => rfl); (case hr => first | (go_simp; done) | (go_simp; rfl)); intro g1 hg w1 hbox hb; have S1 := S0.box hg hbox hb; clear hg hbox hb; clear S0) | ((with_reducible refine gate_dst (N := 5) rfl ?_); refine box_event ?hg (N := 5) ?hd (cs := (cs44 f).toArray) (t := 44) ?hr ?_; (case hd => rfl); (case hg => rfl); (case hr => first | (go_simp; done) | (go_simp; rfl)); intro g2 hg w2 hbox hb; have S2 := S1.box hg hbox hb; clear hg hbox hb; clear S1) | ((with_reducible refine gate_dst (N := 16) rfl ?_); (try refine gate_guard (by first | rfl | decide | kernel_rfl) ?_); refine wpList_load_row rfl 23 _ rfl g1 rfl 23 cf.cs.toArray (0, 0) _ (S2.heap ⟨g1, cf.cs.toArray, 23⟩ (by simp)) Try.underlying23 rfl cf.size ?_) | ((with_reducible refine gate_dst (N := 18) rfl ?_); refine wpList_load_row rfl 44 _ rfl g2 rfl 44 (cs44 f).toArray (0, 0) _ (S2.heap ⟨g2, (cs44 f).toArray, 44⟩ (by simp)) Try.underlying44 rfl (by kernel_rfl) ?_) | (go_at_call 12; (with_reducible refine (ST.out _ (Kd.C_below HR0.out S2.below)).mono ?_); rintro e_ w3 ⟨rfl, hB_⟩; have S3 := S2.call hB_; clear hB_; clear S2) | ((with_reducible refine gate_dst (N := 23) rfl ?_); (try refine gate_guard (by first | rfl | decide | kernel_rfl) ?_); refine wpList_load_row rfl 23 _ rfl g1 rfl 23 cf.cs.toArray (0, 0) _ (S3.heap ⟨g1, cf.cs.toArray, 23⟩ (by simp)) Try.underlying23 rfl cf.size ?_) | ((with_reducible refine gate_dst (N := 25) rfl ?_); refine wpList_load_row rfl 44 _ rfl g2 rfl 44 (cs44 f).toArray (0, 0) _ (S3.heap ⟨g2, (cs44 f).toArray, 44⟩ (by simp)) Try.underlying44 rfl (by kernel_rfl) ?_) | (go_at_call 13; (with_reducible refine (SR.out _ (Kd.C_below HR0.out S3.below)).mono ?_); rintro e_ w4 ⟨⟨v4, rfl, hR_⟩, hB_⟩; have S4 := S3.call hB_; have HOb := Aside0.mk (Kd.R_lower hR_ (below_size S3.below)); obtain ⟨Ab, cb_, eb⟩ := Kd.R_slice HOb.out; subst eb; clear hR_ hB_; clear S3) | (go_at_call 14; (with_reducible refine (flights _ _ _ _ l _ (Kd.C_below HR0.out S4.below) (Kd.R_reads' HOb.out).2.2 (by have := HL.out; omega)).mono ?_); rintro e_ w5 ⟨rfl, hB_⟩; have S5 := S4.call hB_; clear hB_; clear S4) | (go_at_call 15; (with_reducible refine (tick A0 c0 l _ (Kd.C_below HR0.out S5.below) HC0.out HL.out).mono ?_); rintro e_ w6 ⟨vt, rfl, hR_, hB_⟩; have S6 := S5.call hB_; have HOt := Aside0.mk (Kd.R_lower hR_ (below_size S5.below)); obtain ⟨At, ct, et⟩ := Kd.R_slice HOt.out; subst et; clear hR_ hB_; clear S5) | (go_at_call 16; (with_reducible refine (rtick A0 c0 l _ (Kd.C_below HR0.out S6.below) HC0.out HL.out).mono ?_); rintro e_ w7 ⟨vs, rfl, hR_, hB_⟩; have S7 := S6.call hB_; have HOs := Aside0.mk (Kd.R_lower hR_ (below_size S6.below)); obtain ⟨As, cs, es⟩ := Kd.R_slice HOs.out; subst es; have HOt2 := Aside0.mk (Kd.R_below HOt.out hB_); clear hR_ hB_; clear S6) | (go_at_call 14; (with_reducible refine (flights _ _ _ _ (tickX l) _ (Kd.R_reads' HOt2.out).2.2 (Kd.R_reads' HOs.out).2.2 (by have := HL.out; rw [tick_len]; omega)).mono ?_); rintro e_ w8 ⟨rfl, hB_⟩; have S8 := S7.call hB_; clear hB_; clear S7) | (go_at_call 7; (with_reducible refine (awake _).mono ?_); rintro e_ w9 ⟨rfl, hB_⟩; have S9 := S8.call hB_; clear hB_; clear S8))
      go_ret
      exact ⟨rfl, S9.below⟩
    | true =>
      obtain ⟨LL, hLL⟩ : ∃ L_, l ++ [begX m d f] = L_ := ⟨_, rfl⟩
      have HLL := Aside0.mk (show LL.length ≤ 1001 by rw [← hLL]; have := HL.out; simp; omega)
      have ST := Aside0.mk (fun w_ (hC_ : Kd.C k44 w_ A0 l.length l) => (start cf A0 c0 l f w_ hC_ HC0.out HL.out).mono (R' := fun e w' => (∃ v, e = .returned (.tuple #[v, .bool true]) ∧ Kd.R k44 44 w' w_.heap.size (fun _ => True) v (l ++ [begX m d f])) ∧ Below w_.heap.size w_ w') fun e w' ⟨⟨v, h1, _, h3⟩, hb⟩ => by rw [hr] at h1; exact ⟨⟨v, h1, h3 hr⟩, hb⟩)
      have SR := Aside0.mk (fun w_ (hC_ : Kd.C k44 w_ A0 l.length l) => (rstart cf A0 c0 l f w_ hC_ HC0.out HL.out).mono (R' := fun e w' => (∃ v, e = .returned (.tuple #[v, .bool true]) ∧ Kd.R k44 44 w' w_.heap.size (fun _ => True) v (l ++ [begX m d f])) ∧ Below w_.heap.size w_ w') fun e w' ⟨⟨v, h1, h2⟩, hb⟩ => by rw [hr] at h1 h2; exact ⟨⟨v, h1, h2⟩, hb⟩)
      clear hr
      rw [hLL] at ST SR
      clear hLL
      go_enter Try.func4, Try.ntmps4
      go_wp2_with (first | ((with_reducible refine gate_dst (N := 3) rfl ?_); refine box_event ?hg (N := 3) ?hd (cs := cf.cs.toArray) (t := 23) ?hr ?_; (case hd => rfl); (case hg => rfl); (case hr => first | (go_simp; done) | (go_simp; rfl)); intro g1 hg w1 hbox hb; have S1 := S0.box hg hbox hb; clear hg hbox hb; clear S0) | ((with_reducible refine gate_dst (N := 5) rfl ?_); refine box_event ?hg (N := 5) ?hd (cs := (cs44 f).toArray) (t := 44) ?hr ?_; (case hd => rfl); (case hg => rfl); (case hr => first | (go_simp; done) | (go_simp; rfl)); intro g2 hg w2 hbox hb; have S2 := S1.box hg hbox hb; clear hg hbox hb; clear S1) | ((with_reducible refine gate_dst (N := 16) rfl ?_); (try refine gate_guard (by first | rfl | decide | kernel_rfl) ?_); refine wpList_load_row rfl 23 _ rfl g1 rfl 23 cf.cs.toArray (0, 0) _ (S2.heap ⟨g1, cf.cs.toArray, 23⟩ (by simp)) Try.underlying23 rfl cf.size ?_) | ((with_reducible refine gate_dst (N := 18) rfl ?_); refine wpList_load_row rfl 44 _ rfl g2 rfl 44 (cs44 f).toArray (0, 0) _ (S2.heap ⟨g2, (cs44 f).toArray, 44⟩ (by simp)) Try.underlying44 rfl (by kernel_rfl) ?_) | (go_at_call 12; (with_reducible refine (ST.out _ (Kd.C_below HR0.out S2.below)).mono ?_); rintro e_ w3 ⟨⟨v3, rfl, hR_⟩, hB_⟩; have S3 := S2.call hB_; have HOa := Aside0.mk (Kd.R_lower hR_ (below_size S2.below)); obtain ⟨Aa, ca, ea⟩ := Kd.R_slice HOa.out; subst ea; clear hR_ hB_; clear S2) | ((with_reducible refine gate_dst (N := 23) rfl ?_); (try refine gate_guard (by first | rfl | decide | kernel_rfl) ?_); refine wpList_load_row rfl 23 _ rfl g1 rfl 23 cf.cs.toArray (0, 0) _ (S3.heap ⟨g1, cf.cs.toArray, 23⟩ (by simp)) Try.underlying23 rfl cf.size ?_) | ((with_reducible refine gate_dst (N := 25) rfl ?_); refine wpList_load_row rfl 44 _ rfl g2 rfl 44 (cs44 f).toArray (0, 0) _ (S3.heap ⟨g2, (cs44 f).toArray, 44⟩ (by simp)) Try.underlying44 rfl (by kernel_rfl) ?_) | (go_at_call 13; (with_reducible refine (SR.out _ (Kd.C_below HR0.out S3.below)).mono ?_); rintro e_ w4 ⟨⟨v4, rfl, hR_⟩, hB_⟩; have S4 := S3.call hB_; have HOb := Aside0.mk (Kd.R_lower hR_ (below_size S3.below)); obtain ⟨Ab, cb_, eb⟩ := Kd.R_slice HOb.out; subst eb; have HOa2 := Aside0.mk (Kd.R_below HOa.out hB_); clear hR_ hB_; clear S3) | (go_at_call 14; (with_reducible refine (flights _ _ _ _ LL _ (Kd.R_reads' HOa2.out).2.2 (Kd.R_reads' HOb.out).2.2 HLL.out).mono ?_); rintro e_ w5 ⟨rfl, hB_⟩; have S5 := S4.call hB_; clear hB_; clear S4) | (go_at_call 15; (with_reducible refine (tick A0 c0 l _ (Kd.C_below HR0.out S5.below) HC0.out HL.out).mono ?_); rintro e_ w6 ⟨vt, rfl, hR_, hB_⟩; have S6 := S5.call hB_; have HOt := Aside0.mk (Kd.R_lower hR_ (below_size S5.below)); obtain ⟨At, ct, et⟩ := Kd.R_slice HOt.out; subst et; clear hR_ hB_; clear S5) | (go_at_call 16; (with_reducible refine (rtick A0 c0 l _ (Kd.C_below HR0.out S6.below) HC0.out HL.out).mono ?_); rintro e_ w7 ⟨vs, rfl, hR_, hB_⟩; have S7 := S6.call hB_; have HOs := Aside0.mk (Kd.R_lower hR_ (below_size S6.below)); obtain ⟨As, cs, es⟩ := Kd.R_slice HOs.out; subst es; have HOt2 := Aside0.mk (Kd.R_below HOt.out hB_); clear hR_ hB_; clear S6) | (go_at_call 14; (with_reducible refine (flights _ _ _ _ (tickX l) _ (Kd.R_reads' HOt2.out).2.2 (Kd.R_reads' HOs.out).2.2 (by have := HL.out; rw [tick_len]; omega)).mono ?_); rintro e_ w8 ⟨rfl, hB_⟩; have S8 := S7.call hB_; clear hB_; clear S7) | (go_at_call 7; (with_reducible refine (awake _).mono ?_); rintro e_ w9 ⟨rfl, hB_⟩; have S9 := S8.call hB_; clear hB_; clear S8))
      go_ret
      exact ⟨rfl, S9.below⟩

end Go.Proofs.Ytbkjdikiepnhbaa.Fl
