/- The walks of the statements CsrCounts, CsrReads and CsrWrites, and of the chapter's examples. The one condition is that the cells are a core's. -/
import Derived.Test.YtgegpppoimeliaaCsr4
import Derived.Test.YtgegpppoimeliaaEq
import Derived.Test.YtgegpppoimeliaaBoxes2
namespace Go.Proofs.Ytgegpppoimeliaa.Csr
open Go Go.Proofs Go.RowKit Go.Proofs.YtgegpppoimeliaaW.PrintWords Go.Proofs.YtgegpppoimeliaaW.PrintLast Go.Proofs.YtgegpppoimeliaaW.PrintMore Go.Proofs.Ytgegpppoimeliaa.Boxes Go.Proofs.Ytgegpppoimeliaa.Arch Go.Proofs.Ytgegpppoimeliaa.Plain
set_option linter.unusedVariables false
theorem or_bound {a b : Int} (ha : 0 ≤ a ∧ a < 4294967296) (hb : 0 ≤ b ∧ b < 4294967296) : 0 ≤ Go.bits .or .u32 a b ∧ Go.bits .or .u32 a b < 4294967296 := by
  obtain ⟨x, rfl⟩ := nat_of ha.1
  obtain ⟨y, rfl⟩ := nat_of hb.1
  rw [or32 x y (by omega) (by omega)]
  have := Nat.or_lt_two_pow (n := 32) (x := x) (y := y) (by omega) (by omega)
  omega
theorem and_bound {a b : Int} (ha : 0 ≤ a ∧ a < 4294967296) (hb : 0 ≤ b ∧ b < 4294967296) : 0 ≤ Go.bits .and .u32 a b ∧ Go.bits .and .u32 a b < 4294967296 := by
  obtain ⟨x, rfl⟩ := nat_of ha.1
  obtain ⟨y, rfl⟩ := nat_of hb.1
  rw [and32 x y (by omega) (by omega)]
  have := Nat.and_lt_two_pow (n := 32) x (y := y) (by omega)
  omega
theorem cnt_is {A : Array Value} (hA : IsArch A) : IsArch (cntA A) := by
  have h1 := hA.stw (i := 24) (by decide) (v := (wd A 24 + 1) % 4294967296) (by omega) (by omega)
  have h2 := or_bound (hA.lo 27 (by decide)) (show (0 : Int) ≤ 4 ∧ (4 : Int) < 4294967296 by decide)
  unfold cntA
  split
  · exact h1.stw (by decide) h2.1 h2.2
  · exact h1
theorem rs_is {A : Array Value} (hA : IsArch A) {l : Int} (hl : 0 ≤ l ∧ l < 4294967296) : IsArch (rsA A l) := by
  have h2 := or_bound (hA.lo 27 (by decide)) (and_bound hl (show (0 : Int) ≤ 7 ∧ (7 : Int) < 4294967296 by decide))
  exact hA.stw (by decide) h2.1 h2.2
theorem mk_bound (n : Int) : 0 ≤ mk n ∧ mk n < 4294967296 := by
  unfold mk
  split
  · decide
  · split
    · decide
    · rcases twelve (by omega) (show n < 12 by omega) with rfl | rfl | rfl | rfl | rfl | rfl | rfl | rfl | rfl | rfl | rfl | rfl <;> decide
theorem my_range {k : Bool} {n : Int} {f : Bool} (h : my k n f = 0) : 0 ≤ n ∧ n < 12 := by
  unfold my at h
  split at h
  · omega
  · split at h
    · omega
    · split at h
      · omega
      · omega
theorem wr_is {A : Array Value} (hA : IsArch A) (k : Bool) (n : Int) {v : Int} (hv : 0 ≤ v ∧ v < 4294967296) : IsArch (wrA A k n v) := by
  unfold wrA
  split
  · rename_i h
    have := my_range h
    have h2 := and_bound hv (mk_bound n)
    exact hA.stw (by omega) h2.1 h2.2
  · exact zeroA_is

attribute [local go_sem high] eq26
set_option maxHeartbeats 4000000 in
theorem counts (A : Array Value) (hA : IsArch A) (x : Int) (hx : 0 ≤ x ∧ x < 4294967296) (haw : ∀ W, Calls Try.prog 10 #[] W fun e W' => e = .returned (.bool true) ∧ Below W.heap.size W W') (w : World) :
    Calls Try.prog 4 #[.agg A, .int .u32 x] w fun e w' => e = .returned (.bool true) ∧ Below w.heap.size w w' := by
  have hs := hA.size
  have S0 := St.start w
  have hC := cnt_is hA
  have hR := rs_is hA hx
  have HW := Aside0.mk haw
  clear haw
  go_enter Try.func4, Try.ntmps4
  go_upto_region 1 with (first | ((with_reducible refine gate_dst (N := 2) rfl ?_); refine box_event ?hg (N := 2) ?hd (cs := A) (t := 26) ?hr ?_; (case hd => rfl); (case hg => rfl); (case hr => first | (go_simp; done) | (go_simp; rfl)); intro g1 hg w1 hbox hb; have S1 := S0.box hg hbox hb; clear hg hbox hb; clear S0))
  refine wp_region_st S1 (by kernel_rfl) (by kernel_rfl) ?_
  haveI : Nonempty (Cls _ _) := ⟨⟨_, S1⟩⟩
  repeat (first | (go_big_quiet_want; (with_reducible refine quiet_load 26 _ rfl g1 rfl 26 A _ (fun x => x.st.heap ⟨g1, A, 26⟩ (by simp)) Try.underlying26 rfl (size_of hs) ?_); go_big_quiet_on; (try simp only [Act.put, List.setIfInBounds_toArray, List.set_cons_zero, List.set_cons_succ])) | go_big_quiet_step ((first | (go_at_call 11; exact quiet_st (count A hA _)) | (go_at_call 12; exact quiet_st (rcount A hA _)) | (go_at_call 13; exact quiet_st (raise A hA x hx.1 hx.2 _)) | (go_at_call 14; exact quiet_st (rraise A hA x hx.1 hx.2 _)) | (go_at_call 10; exact quiet_st (HW.out _)))))
  refine wpQuiet_nil ?_
  rintro ⟨w9, S9⟩
  go_wp2
  go_ret
  exact ⟨rfl, S9.below⟩

set_option maxHeartbeats 4000000 in
theorem reads (A : Array Value) (hA : IsArch A) (n : Int) (haw : ∀ W, Calls Try.prog 10 #[] W fun e W' => e = .returned (.bool true) ∧ Below W.heap.size W W') (w : World) :
    Calls Try.prog 6 #[.agg A, .int .i64 n] w fun e w' => e = .returned (.bool true) ∧ Below w.heap.size w w' := by
  have hs := hA.size
  have S0 := St.start w
  have HW := Aside0.mk haw
  clear haw
  go_enter Try.func6, Try.ntmps6
  go_upto_region 3 with (first | ((with_reducible refine gate_dst (N := 2) rfl ?_); refine box_event ?hg (N := 2) ?hd (cs := A) (t := 26) ?hr ?_; (case hd => rfl); (case hg => rfl); (case hr => first | (go_simp; done) | (go_simp; rfl)); intro g1 hg w1 hbox hb; have S1 := S0.box hg hbox hb; clear hg hbox hb; clear S0) | ((with_reducible refine gate_dst (N := 10) rfl ?_); refine wpList_load_row rfl 26 _ rfl g1 rfl 26 A (0, 0) _ (S1.heap ⟨g1, A, 26⟩ (by simp)) Try.underlying26 rfl (size_of hs) ?_) | (go_at_call 16; (with_reducible refine (read A hA n _).mono ?_); rintro e w2 ⟨rfl, hb⟩; have S2 := S1.call hb; clear hb; clear S1) | ((with_reducible refine gate_dst (N := 16) rfl ?_); refine wpList_load_row rfl 26 _ rfl g1 rfl 26 A (0, 0) _ (S2.heap ⟨g1, A, 26⟩ (by simp)) Try.underlying26 rfl (size_of hs) ?_) | (go_at_call 17; (with_reducible refine (rread A hA n _).mono ?_); rintro e w3 ⟨rfl, hb⟩; have S3 := S2.call hb; clear hb; clear S2))
  refine wp_region_st S3 (by kernel_rfl) (by kernel_rfl) ?_
  haveI : Nonempty (Cls _ _) := ⟨⟨_, S3⟩⟩
  repeat (first | (go_big_quiet_want; (with_reducible refine quiet_load 26 _ rfl g1 rfl 26 A _ (fun x => x.st.heap ⟨g1, A, 26⟩ (by simp)) Try.underlying26 rfl (size_of hs) ?_); go_big_quiet_on; (try simp only [Act.put, List.setIfInBounds_toArray, List.set_cons_zero, List.set_cons_succ])) | go_big_quiet_step ((first | (go_at_call 18; exact quiet_st (kernel A hA _)) | (go_at_call 19; exact quiet_st (rkernel A hA _)) | (go_at_call 20; exact quiet_st (masked n _)) | (go_at_call 21; exact quiet_st (rmasked n _)) | (go_at_call 10; exact quiet_st (HW.out _)))))
  refine wpQuiet_nil ?_
  rintro ⟨w9, S9⟩
  go_wp2
  go_ret
  exact ⟨rfl, S9.below⟩

set_option maxHeartbeats 4000000 in
theorem writes (A : Array Value) (hA : IsArch A) (n v : Int) (hv : 0 ≤ v ∧ v < 4294967296) (haw : ∀ W, Calls Try.prog 10 #[] W fun e W' => e = .returned (.bool true) ∧ Below W.heap.size W W') (w : World) :
    Calls Try.prog 3 #[.agg A, .int .i64 n, .int .u32 v] w fun e w' => e = .returned (.bool true) ∧ Below w.heap.size w w' := by
  have hs := hA.size
  have S0 := St.start w
  have HW := Aside0.mk haw
  clear haw
  have hB := wr_is hA (kb A) n hv
  have hbs := hB.size
  have hbo := hB.one
  go_enter Try.func3, Try.ntmps3
  go_upto_region 3 with (first | ((with_reducible refine gate_dst (N := 3) rfl ?_); refine box_event ?hg (N := 3) ?hd (cs := A) (t := 26) ?hr ?_; (case hd => rfl); (case hg => rfl); (case hr => first | (go_simp; done) | (go_simp; rfl)); intro g1 hg w1 hbox hb; have S1 := S0.box hg hbox hb; clear hg hbox hb; clear S0) | ((with_reducible refine gate_dst (N := 12) rfl ?_); refine wpList_load_row rfl 26 _ rfl g1 rfl 26 A (0, 0) _ (S1.heap ⟨g1, A, 26⟩ (by simp)) Try.underlying26 rfl (size_of hs) ?_) | (go_at_call 8; (with_reducible refine (write A hA n v hv.1 hv.2 _).mono ?_); rintro e w2 ⟨rfl, hb⟩; have S2 := S1.call hb; clear hb; clear S1) | ((with_reducible refine gate_dst (N := 7) rfl ?_); refine box_event ?hg (N := 7) ?hd (cs := zeroA) (t := 26) ?hr ?_; (case hd => rfl); (case hg => rfl); (case hr => first | (go_simp; done) | (go_simp; rfl)); intro g2 hg w3 hbox hb; have S3 := S2.box hg hbox hb; clear hg hbox hb; clear S2) | ((with_reducible refine gate_store (t := 26) (p := 7) rfl ?_); refine wpList_store_row rfl 26 _ _ rfl g2 (wrA A (kb A) n v) rfl rfl 26 zeroA (S3.heap ⟨g2, zeroA, 26⟩ (by simp)) (size_of hbs) (by first | rfl | (rw [hbs]; rfl)) (hbo) ?_; have S4 : St w _ [⟨g2, (wrA A (kb A) n v), 26⟩, ⟨g1, A, 26⟩] := St.row (L1 := []) (b := ⟨g2, zeroA, 26⟩) S3 (wrA A (kb A) n v); clear S3; generalize World.setRow _ _ _ = w4 at S4 ⊢) | ((with_reducible refine gate_dst (N := 19) rfl ?_); refine wpList_load_row rfl 26 _ rfl g1 rfl 26 A (0, 0) _ (S4.heap ⟨g1, A, 26⟩ (by simp)) Try.underlying26 rfl (size_of hs) ?_) | (go_at_call 9; (with_reducible refine (rwrite A hA n v _).mono ?_); rintro e w5 ⟨rfl, hb⟩; have S5 := S4.call hb; clear hb; clear S4) | ((with_reducible refine gate_dst (N := 9) rfl ?_); refine box_event ?hg (N := 9) ?hd (cs := zeroA) (t := 26) ?hr ?_; (case hd => rfl); (case hg => rfl); (case hr => first | (go_simp; done) | (go_simp; rfl)); intro g3 hg w6 hbox hb; have S6 := S5.box hg hbox hb; clear hg hbox hb; clear S5) | ((with_reducible refine gate_store (t := 26) (p := 9) rfl ?_); refine wpList_store_row rfl 26 _ _ rfl g3 (wrA A (kb A) n v) rfl rfl 26 zeroA (S6.heap ⟨g3, zeroA, 26⟩ (by simp)) (size_of hbs) (by first | rfl | (rw [hbs]; rfl)) (hbo) ?_; have S7 : St w _ [⟨g3, (wrA A (kb A) n v), 26⟩, ⟨g2, (wrA A (kb A) n v), 26⟩, ⟨g1, A, 26⟩] := St.row (L1 := []) (b := ⟨g3, zeroA, 26⟩) S6 (wrA A (kb A) n v); clear S6; generalize World.setRow _ _ _ = w7 at S7 ⊢))
  refine wp_region_st0 S7 ?_
  haveI : Nonempty (Cls _ _) := ⟨⟨_, S7⟩⟩
  repeat (first | (go_big_quiet_want; (with_reducible refine quiet_load 26 _ rfl g3 rfl 26 (wrA A (kb A) n v) _ (fun x => x.st.heap ⟨g3, (wrA A (kb A) n v), 26⟩ (by simp)) Try.underlying26 rfl (size_of hbs) ?_); go_big_quiet_on; (try simp only [Act.put, List.setIfInBounds_toArray, List.set_cons_zero, List.set_cons_succ])) | (go_big_quiet_want; (with_reducible refine quiet_load 26 _ rfl g2 rfl 26 (wrA A (kb A) n v) _ (fun x => x.st.heap ⟨g2, (wrA A (kb A) n v), 26⟩ (by simp)) Try.underlying26 rfl (size_of hbs) ?_); go_big_quiet_on; (try simp only [Act.put, List.setIfInBounds_toArray, List.set_cons_zero, List.set_cons_succ])) | go_big_quiet_step ((first | (go_at_call 10; exact quiet_st (HW.out _)))))
  refine wpQuiet_nil ?_
  rintro ⟨w9, S9⟩
  go_wp2
  go_ret
  exact ⟨rfl, S9.below⟩

end Go.Proofs.Ytgegpppoimeliaa.Csr
