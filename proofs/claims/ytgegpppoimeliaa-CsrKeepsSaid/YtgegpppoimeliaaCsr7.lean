/- The walk of the statement CsrBack. The one condition is that the cells are a core's. -/
import Derived.Test.YtgegpppoimeliaaCsr6
namespace Go.Proofs.Ytgegpppoimeliaa.Csr
open Go Go.Proofs Go.RowKit Go.Proofs.YtgegpppoimeliaaW.PrintWords Go.Proofs.YtgegpppoimeliaaW.PrintLast Go.Proofs.YtgegpppoimeliaaW.PrintMore Go.Proofs.Ytgegpppoimeliaa.Boxes Go.Proofs.Ytgegpppoimeliaa.Arch Go.Proofs.Ytgegpppoimeliaa.Plain
set_option linter.unusedVariables false
theorem my_free {n : Int} (h0 : 0 ≤ n) (h1 : n < 12) : my true n false = 0 := by
  unfold my
  rw [if_neg (by decide), if_neg (by omega), if_neg (by omega)]
/-- What was written is taken back. -/
theorem back_same {A : Array Value} (hA : IsArch A) {i : Nat} (hi : i < 29) {v : Int} (h0 : 0 ≤ v) (h1 : v < 4294967296) : (stw A i v).setIfInBounds i (.int .u32 (wd A i)) = A := by
  have h2 := hA.lo i hi
  have hB := hA.stw hi h0 h1
  refine IsArch.ext (hB.stw hi h2.1 h2.2) hA (fun j hj => ?_) ?_
  · show wd (stw (stw A i v) i (wd A i)) j = wd A j
    rw [wd_stw hB i j _ hi, wd_stw hA i j _ hi]
    by_cases e : i = j
    · rw [if_pos e, e]
    · rw [if_neg e, if_neg e]
  · exact (stw_flag hB i _ hi).trans (stw_flag hA i v hi)
theorem kern_is {A : Array Value} {b : Bool} (hk : kb A = b) {w : World} (h : Calls Try.prog 18 #[.agg A] w fun e w' => e = .returned (.bool (kb A)) ∧ Below w.heap.size w w') : Calls Try.prog 18 #[.agg A] w fun e w' => e = .returned (.bool b) ∧ Below w.heap.size w w' := hk ▸ h
theorem eq26z (d : Nat) (w : World) : (Op.equalIn (d + 4) 26 (.agg zeroA) (.agg #[.int .u32 0, .int .u32 0, .int .u32 0, .int .u32 0, .int .u32 0, .int .u32 0, .int .u32 0, .int .u32 0, .int .u32 0, .int .u32 0, .int .u32 0, .int .u32 0, .int .u32 0, .int .u32 0, .int .u32 0, .int .u32 0, .int .u32 0, .int .u32 0, .int .u32 0, .int .u32 0, .int .u32 0, .int .u32 0, .int .u32 0, .int .u32 0, .int .u32 0, .int .u32 0, .int .u32 0, .int .u32 0, .int .u32 0, .bool false])).run Try.prog w = .ok true w := eq26 zeroA zeroA_is d w
attribute [local go_sem high] eq26 eq26z

set_option maxHeartbeats 4000000 in
theorem back_user (A : Array Value) (hA : IsArch A) (n v : Int) (hv : 0 ≤ v ∧ v < 4294967296) (hk : kb A = false) (w : World) :
    Calls Try.prog 7 #[.agg A, .int .i64 n, .int .u32 v] w fun e w' => e = .returned (.bool true) ∧ Below w.heap.size w w' := by
  have hs := hA.size
  have S0 := St.start w
  have hbs := zeroA_is.size
  have hbo := zeroA_is.one
  obtain ⟨c, ec, hc⟩ : ∃ c, my (kb A) n false = c ∧ c ≠ 0 := ⟨8, by unfold my; rw [hk]; rfl, by decide⟩
  have eB : wrA A (kb A) n v = zeroA := by unfold wrA; rw [ec, if_neg hc]
  have hcb : (c != 0) = true := by simpa using hc
  
  go_enter Try.func7, Try.ntmps7
  go_upto_region 3 with (first | ((with_reducible refine gate_dst (N := 3) rfl ?_); refine box_event ?hg (N := 3) ?hd (cs := A) (t := 26) ?hr ?_; (case hd => rfl); (case hg => rfl); (case hr => first | (go_simp; done) | (go_simp; rfl)); intro g1 hg w1 hbox hb; have S1 := S0.box hg hbox hb; clear hg hbox hb; clear S0) | ((with_reducible refine gate_dst (N := 12) rfl ?_); refine wpList_load_row rfl 26 _ rfl g1 rfl 26 A (0, 0) _ (S1.heap ⟨g1, A, 26⟩ (by simp)) Try.underlying26 rfl (size_of hs) ?_) | (go_at_call 8; (with_reducible refine (write A hA n v hv.1 hv.2 _).mono ?_); rw [eB, ec]; rintro e w2 ⟨rfl, hb⟩; have S2 := S1.call hb; clear hb; clear S1) | ((with_reducible refine gate_dst (N := 7) rfl ?_); refine box_event ?hg (N := 7) ?hd (cs := zeroA) (t := 26) ?hr ?_; (case hd => rfl); (case hg => rfl); (case hr => first | (go_simp; done) | (go_simp; rfl)); intro g2 hg w3 hbox hb; have S3 := S2.box hg hbox hb; clear hg hbox hb; clear S2) | ((with_reducible refine gate_store (t := 26) (p := 7) rfl ?_); refine wpList_store_row rfl 26 _ _ rfl g2 zeroA rfl rfl 26 zeroA (S3.heap ⟨g2, zeroA, 26⟩ (by simp)) (size_of hbs) (by first | rfl | (rw [hbs]; rfl)) (hbo) ?_; have S4 : St w _ [⟨g2, zeroA, 26⟩, ⟨g1, A, 26⟩] := St.row (L1 := []) (b := ⟨g2, zeroA, 26⟩) S3 zeroA; clear S3; generalize World.setRow _ _ _ = w4 at S4 ⊢))
  refine wp_region_st0 S4 ?_
  haveI : Nonempty (Cls _ _) := ⟨⟨_, S4⟩⟩
  repeat (first | (go_big_quiet_want; (with_reducible refine quiet_load 26 _ rfl g2 rfl 26 zeroA _ (fun x => x.st.heap ⟨g2, zeroA, 26⟩ (by simp)) Try.underlying26 rfl (size_of hbs) ?_); go_big_quiet_on; (try simp only [Act.put, List.setIfInBounds_toArray, List.set_cons_zero, List.set_cons_succ])) | (go_big_quiet_want; (with_reducible refine quiet_load 26 _ rfl g1 rfl 26 A _ (fun x => x.st.heap ⟨g1, A, 26⟩ (by simp)) Try.underlying26 rfl (size_of hs) ?_); go_big_quiet_on; (try simp only [Act.put, List.setIfInBounds_toArray, List.set_cons_zero, List.set_cons_succ])) | go_big_quiet_step ((first | (go_at_call 18; exact quiet_st (kern_is hk (kernel A hA _))) | (go_at_call 10; exact quiet_st (awake _)))))
  refine wpQuiet_nil ?_
  rintro ⟨w9, S9⟩
  go_wp2
  go_ret
  exact ⟨rfl, S9.below⟩

set_option maxHeartbeats 4000000 in
theorem back_low (A : Array Value) (hA : IsArch A) (n v : Int) (hv : 0 ≤ v ∧ v < 4294967296) (hk : kb A = true) (h0 : n < 0) (w : World) :
    Calls Try.prog 7 #[.agg A, .int .i64 n, .int .u32 v] w fun e w' => e = .returned (.bool true) ∧ Below w.heap.size w w' := by
  have hs := hA.size
  have S0 := St.start w
  have hbs := zeroA_is.size
  have hbo := zeroA_is.one
  obtain ⟨c, ec, hc⟩ : ∃ c, my (kb A) n false = c ∧ c ≠ 0 := ⟨2, by unfold my; rw [hk, if_neg (by decide), if_pos h0], by decide⟩
  have eB : wrA A (kb A) n v = zeroA := by unfold wrA; rw [ec, if_neg hc]
  have hcb : (c != 0) = true := by simpa using hc
  
  go_enter Try.func7, Try.ntmps7
  go_upto_region 3 with (first | ((with_reducible refine gate_dst (N := 3) rfl ?_); refine box_event ?hg (N := 3) ?hd (cs := A) (t := 26) ?hr ?_; (case hd => rfl); (case hg => rfl); (case hr => first | (go_simp; done) | (go_simp; rfl)); intro g1 hg w1 hbox hb; have S1 := S0.box hg hbox hb; clear hg hbox hb; clear S0) | ((with_reducible refine gate_dst (N := 12) rfl ?_); refine wpList_load_row rfl 26 _ rfl g1 rfl 26 A (0, 0) _ (S1.heap ⟨g1, A, 26⟩ (by simp)) Try.underlying26 rfl (size_of hs) ?_) | (go_at_call 8; (with_reducible refine (write A hA n v hv.1 hv.2 _).mono ?_); rw [eB, ec]; rintro e w2 ⟨rfl, hb⟩; have S2 := S1.call hb; clear hb; clear S1) | ((with_reducible refine gate_dst (N := 7) rfl ?_); refine box_event ?hg (N := 7) ?hd (cs := zeroA) (t := 26) ?hr ?_; (case hd => rfl); (case hg => rfl); (case hr => first | (go_simp; done) | (go_simp; rfl)); intro g2 hg w3 hbox hb; have S3 := S2.box hg hbox hb; clear hg hbox hb; clear S2) | ((with_reducible refine gate_store (t := 26) (p := 7) rfl ?_); refine wpList_store_row rfl 26 _ _ rfl g2 zeroA rfl rfl 26 zeroA (S3.heap ⟨g2, zeroA, 26⟩ (by simp)) (size_of hbs) (by first | rfl | (rw [hbs]; rfl)) (hbo) ?_; have S4 : St w _ [⟨g2, zeroA, 26⟩, ⟨g1, A, 26⟩] := St.row (L1 := []) (b := ⟨g2, zeroA, 26⟩) S3 zeroA; clear S3; generalize World.setRow _ _ _ = w4 at S4 ⊢))
  refine wp_region_st0 S4 ?_
  haveI : Nonempty (Cls _ _) := ⟨⟨_, S4⟩⟩
  repeat (first | (go_big_quiet_want; (with_reducible refine quiet_load 26 _ rfl g2 rfl 26 zeroA _ (fun x => x.st.heap ⟨g2, zeroA, 26⟩ (by simp)) Try.underlying26 rfl (size_of hbs) ?_); go_big_quiet_on; (try simp only [Act.put, List.setIfInBounds_toArray, List.set_cons_zero, List.set_cons_succ])) | (go_big_quiet_want; (with_reducible refine quiet_load 26 _ rfl g1 rfl 26 A _ (fun x => x.st.heap ⟨g1, A, 26⟩ (by simp)) Try.underlying26 rfl (size_of hs) ?_); go_big_quiet_on; (try simp only [Act.put, List.setIfInBounds_toArray, List.set_cons_zero, List.set_cons_succ])) | go_big_quiet_step ((first | (go_at_call 18; exact quiet_st (kern_is hk (kernel A hA _))) | (go_at_call 10; exact quiet_st (awake _)))))
  refine wpQuiet_nil ?_
  rintro ⟨w9, S9⟩
  go_wp2
  go_ret
  exact ⟨rfl, S9.below⟩

set_option maxHeartbeats 4000000 in
theorem back_high (A : Array Value) (hA : IsArch A) (n v : Int) (hv : 0 ≤ v ∧ v < 4294967296) (hk : kb A = true) (h0 : n ≥ 12) (w : World) :
    Calls Try.prog 7 #[.agg A, .int .i64 n, .int .u32 v] w fun e w' => e = .returned (.bool true) ∧ Below w.heap.size w w' := by
  have hs := hA.size
  have S0 := St.start w
  have hbs := zeroA_is.size
  have hbo := zeroA_is.one
  obtain ⟨c, ec, hc⟩ : ∃ c, my (kb A) n false = c ∧ c ≠ 0 := ⟨2, by unfold my; rw [hk, if_neg (by decide), if_neg (by omega), if_pos h0], by decide⟩
  have eB : wrA A (kb A) n v = zeroA := by unfold wrA; rw [ec, if_neg hc]
  have hcb : (c != 0) = true := by simpa using hc
  have hd0 : decide (n < 0) = false := decide_eq_false (by omega)
  go_enter Try.func7, Try.ntmps7
  go_upto_region 3 with (first | ((with_reducible refine gate_dst (N := 3) rfl ?_); refine box_event ?hg (N := 3) ?hd (cs := A) (t := 26) ?hr ?_; (case hd => rfl); (case hg => rfl); (case hr => first | (go_simp; done) | (go_simp; rfl)); intro g1 hg w1 hbox hb; have S1 := S0.box hg hbox hb; clear hg hbox hb; clear S0) | ((with_reducible refine gate_dst (N := 12) rfl ?_); refine wpList_load_row rfl 26 _ rfl g1 rfl 26 A (0, 0) _ (S1.heap ⟨g1, A, 26⟩ (by simp)) Try.underlying26 rfl (size_of hs) ?_) | (go_at_call 8; (with_reducible refine (write A hA n v hv.1 hv.2 _).mono ?_); rw [eB, ec]; rintro e w2 ⟨rfl, hb⟩; have S2 := S1.call hb; clear hb; clear S1) | ((with_reducible refine gate_dst (N := 7) rfl ?_); refine box_event ?hg (N := 7) ?hd (cs := zeroA) (t := 26) ?hr ?_; (case hd => rfl); (case hg => rfl); (case hr => first | (go_simp; done) | (go_simp; rfl)); intro g2 hg w3 hbox hb; have S3 := S2.box hg hbox hb; clear hg hbox hb; clear S2) | ((with_reducible refine gate_store (t := 26) (p := 7) rfl ?_); refine wpList_store_row rfl 26 _ _ rfl g2 zeroA rfl rfl 26 zeroA (S3.heap ⟨g2, zeroA, 26⟩ (by simp)) (size_of hbs) (by first | rfl | (rw [hbs]; rfl)) (hbo) ?_; have S4 : St w _ [⟨g2, zeroA, 26⟩, ⟨g1, A, 26⟩] := St.row (L1 := []) (b := ⟨g2, zeroA, 26⟩) S3 zeroA; clear S3; generalize World.setRow _ _ _ = w4 at S4 ⊢))
  refine wp_region_st0 S4 ?_
  haveI : Nonempty (Cls _ _) := ⟨⟨_, S4⟩⟩
  repeat (first | (go_big_quiet_want; (with_reducible refine quiet_load 26 _ rfl g2 rfl 26 zeroA _ (fun x => x.st.heap ⟨g2, zeroA, 26⟩ (by simp)) Try.underlying26 rfl (size_of hbs) ?_); go_big_quiet_on; (try simp only [Act.put, List.setIfInBounds_toArray, List.set_cons_zero, List.set_cons_succ])) | (go_big_quiet_want; (with_reducible refine quiet_load 26 _ rfl g1 rfl 26 A _ (fun x => x.st.heap ⟨g1, A, 26⟩ (by simp)) Try.underlying26 rfl (size_of hs) ?_); go_big_quiet_on; (try simp only [Act.put, List.setIfInBounds_toArray, List.set_cons_zero, List.set_cons_succ])) | go_big_quiet_step ((first | (go_at_call 18; exact quiet_st (kern_is hk (kernel A hA _))) | (go_at_call 10; exact quiet_st (awake _)))))
  refine wpQuiet_nil ?_
  rintro ⟨w9, S9⟩
  go_wp2
  go_ret
  exact ⟨rfl, S9.below⟩

theorem mask_is {n m : Int} (hm : mk n = m) {w : World} (h : Calls Try.prog 20 #[.int .i64 n] w fun e w' => e = .returned (.int .u32 (mk n)) ∧ Below w.heap.size w w') : Calls Try.prog 20 #[.int .i64 n] w fun e w' => e = .returned (.int .u32 m) ∧ Below w.heap.size w w' := hm ▸ h
theorem rdc_free {n : Int} (h0 : 0 ≤ n) (h1 : n < 12) : rdc true n = 0 := by
  unfold rdc my
  rw [if_neg (by simp), if_neg (by omega), if_neg (by omega)]

set_option maxHeartbeats 4000000 in
theorem back_in (A : Array Value) (hA : IsArch A) (n v : Int) (hv : 0 ≤ v ∧ v < 4294967296) (hk : kb A = true) (h0 : 0 ≤ n) (h1 : n < 12) (bv m : Int) (hm : mk n = m) (hbv : Go.bits .and .u32 v m = bv) (hkB : kb (stw A (17 + n.toNat) bv) = true) (w : World) :
    Calls Try.prog 7 #[.agg A, .int .i64 n, .int .u32 v] w fun e w' => e = .returned (.bool true) ∧ Below w.heap.size w w' := by
  have hs := hA.size
  have S0 := St.start w
  have ec := my_free h0 h1
  rw [← hk] at ec
  have hb := and_bound hv (hm ▸ mk_bound n)
  rw [hbv] at hb
  have hB := hA.stw (i := 17 + n.toNat) (by omega) hb.1 hb.2
  have hbs := hB.size
  have hbo := hB.one
  have eB : wrA A (kb A) n v = stw A (17 + n.toNat) bv := by unfold wrA; rw [ec, if_pos rfl, hm, hbv]
  have hback := back_same hA (i := 17 + n.toNat) (by omega) hb.1 hb.2
  have hx := hA.at (17 + n.toNat) (by omega)
  have hy := hB.at (17 + n.toNat) (by omega)
  rw [wd_stw hA _ _ _ (by omega), if_pos rfl] at hy
  obtain ⟨x, ex⟩ : ∃ x, wd A (17 + n.toNat) = x := ⟨_, rfl⟩
  rw [ex] at hx hback
  have hrc := rdc_free h0 h1
  have hrd : rdv (stw A (17 + n.toNat) bv) true n = bv := by
    unfold rdv
    rw [hrc, if_pos rfl, wd_stw hA _ _ _ (by omega), if_pos rfl]
  have hd0 : decide (n < 0) = false := decide_eq_false (by omega)
  have hd1 : decide (n ≥ 12) = false := decide_eq_false (by omega)
  have HX := Aside0.mk (And.intro ex hb)
  have HR := Aside0.mk (And.intro hrc hrd)
  clear ex hb
  go_enter Try.func7, Try.ntmps7
  go_upto_region 4 with (first | ((with_reducible refine gate_dst (N := 3) rfl ?_); refine box_event ?hg (N := 3) ?hd (cs := A) (t := 26) ?hr ?_; (case hd => rfl); (case hg => rfl); (case hr => first | (go_simp; done) | (go_simp; rfl)); intro g1 hg w1 hbox hb; have S1 := S0.box hg hbox hb; clear hg hbox hb; clear S0) | ((with_reducible refine gate_dst (N := 12) rfl ?_); refine wpList_load_row rfl 26 _ rfl g1 rfl 26 A (0, 0) _ (S1.heap ⟨g1, A, 26⟩ (by simp)) Try.underlying26 rfl (size_of hs) ?_) | (go_at_call 8; (with_reducible refine (write A hA n v hv.1 hv.2 _).mono ?_); rw [eB, ec]; rintro e w2 ⟨rfl, hb⟩; have S2 := S1.call hb; clear hb; clear S1) | ((with_reducible refine gate_dst (N := 7) rfl ?_); refine box_event ?hg (N := 7) ?hd (cs := zeroA) (t := 26) ?hr ?_; (case hd => rfl); (case hg => rfl); (case hr => first | (go_simp; done) | (go_simp; rfl)); intro g2 hg w3 hbox hb; have S3 := S2.box hg hbox hb; clear hg hbox hb; clear S2) | ((with_reducible refine gate_store (t := 26) (p := 7) rfl ?_); refine wpList_store_row rfl 26 _ _ rfl g2 (stw A (17 + n.toNat) bv) rfl rfl 26 zeroA (S3.heap ⟨g2, zeroA, 26⟩ (by simp)) (size_of hbs) (by first | rfl | (rw [hbs]; rfl)) (hbo) ?_; have S4 : St w _ [⟨g2, (stw A (17 + n.toNat) bv), 26⟩, ⟨g1, A, 26⟩] := St.row (L1 := []) (b := ⟨g2, zeroA, 26⟩) S3 (stw A (17 + n.toNat) bv); clear S3; generalize World.setRow _ _ _ = w4 at S4 ⊢))
  refine wp_region_st S4 (by kernel_rfl) (by kernel_rfl) ?_
  haveI : Nonempty (Cls _ _) := ⟨⟨_, S4⟩⟩
  repeat (first | (go_big_quiet_want; (with_reducible refine quiet_load 26 _ rfl g1 rfl 26 A _ (fun x => x.st.heap ⟨g1, A, 26⟩ (by simp)) Try.underlying26 rfl (size_of hs) ?_); go_big_quiet_on; (try simp only [Act.put, List.setIfInBounds_toArray, List.set_cons_zero, List.set_cons_succ])) | (go_big_quiet_want; (with_reducible refine quiet_cell 22 _ rfl _ _ rfl (.int .u32 bv) _ (fun x => x.st.cell (b := ⟨g2, (stw A (17 + n.toNat) bv), 26⟩) (by simp) hy) Try.underlying22 rfl ?_); go_big_quiet_on; (try simp only [Act.put, List.setIfInBounds_toArray, List.set_cons_zero, List.set_cons_succ])) | go_big_quiet_step ((first | (go_at_call 18; exact quiet_st (kern_is hk (kernel A hA _))) | (go_at_call 20; exact quiet_st (mask_is hm (masked n _))))))
  refine wpQuiet_nil ?_
  rintro ⟨w5, S5⟩
  go_wp2_with (first | ((with_reducible refine gate_dst (N := 62) rfl ?_); refine wpList_load_row rfl 26 _ rfl g2 rfl 26 (stw A (17 + n.toNat) bv) (0, 0) _ (S5.heap ⟨g2, (stw A (17 + n.toNat) bv), 26⟩ (by simp)) Try.underlying26 rfl (size_of hbs) ?_) | (go_at_call 16; (with_reducible refine (read (stw A (17 + n.toNat) bv) hB n _).mono ?_); rw [hkB, hrd, hrc]; rintro e w6 ⟨rfl, hb⟩; have S6 := S5.call hb; clear hb; clear S5) | ((with_reducible refine gate_dst (N := 67) rfl ?_); refine wpList_load_row rfl 26 _ rfl g2 rfl 26 (stw A (17 + n.toNat) bv) (0, 0) _ (S6.heap ⟨g2, (stw A (17 + n.toNat) bv), 26⟩ (by simp)) Try.underlying26 rfl (size_of hbs) ?_) | (go_at_call 18; (with_reducible refine (kern_is hkB (kernel (stw A (17 + n.toNat) bv) hB _)).mono ?_); rintro e w7 ⟨rfl, hb⟩; have S7 := S6.call hb; clear hb; clear S6) | (go_at_call 20; (with_reducible refine (mask_is hm (masked n _)).mono ?_); rintro e w8 ⟨rfl, hb⟩; have S8 := S7.call hb; clear hb; clear S7; have cA := S8.cell (b := ⟨g1, A, 26⟩) (by simp) hx; have cB := S8.cell (b := ⟨g2, (stw A (17 + n.toNat) bv), 26⟩) (by simp) hy; have fB := S8.frozen (b := ⟨g2, (stw A (17 + n.toNat) bv), 26⟩) (by simp) (17 + n.toNat)) | ((with_reducible refine gate_dst (N := 88) rfl ?_); have S9 : St w _ [⟨g2, A, 26⟩, ⟨g1, A, 26⟩] := hback ▸ St.set (L1 := []) (b := ⟨g2, (stw A (17 + n.toNat) bv), 26⟩) S8 (17 + n.toNat) (.int .u32 x); clear S8 cA cB fB; refine wpList_load_row rfl 26 _ rfl g2 rfl 26 A (0, 0) _ (S9.heap ⟨g2, A, 26⟩ (by simp)) Try.underlying26 rfl (size_of hs) ?_; generalize World.setCell _ _ _ = w9 at S9 ⊢) | ((with_reducible refine gate_dst (N := 89) rfl ?_); refine wpList_load_row rfl 26 _ rfl g1 rfl 26 A (0, 0) _ (S9.heap ⟨g1, A, 26⟩ (by simp)) Try.underlying26 rfl (size_of hs) ?_) | (go_at_call 10; (with_reducible refine (awake _).mono ?_); rintro e w10 ⟨rfl, hb⟩; have S10 := S9.call hb; clear hb; clear S9))
  go_ret
  exact ⟨rfl, S10.below⟩

set_option maxHeartbeats 4000000 in
theorem back_out (A : Array Value) (hA : IsArch A) (n v : Int) (hv : 0 ≤ v ∧ v < 4294967296) (hk : kb A = true) (h0 : 0 ≤ n) (h1 : n < 12) (bv m : Int) (hm : mk n = m) (hbv : Go.bits .and .u32 v m = bv) (hkB : kb (stw A (17 + n.toNat) bv) = false) (w : World) :
    Calls Try.prog 7 #[.agg A, .int .i64 n, .int .u32 v] w fun e w' => e = .returned (.bool true) ∧ Below w.heap.size w w' := by
  have hs := hA.size
  have S0 := St.start w
  have ec := my_free h0 h1
  rw [← hk] at ec
  have hb := and_bound hv (hm ▸ mk_bound n)
  rw [hbv] at hb
  have hB := hA.stw (i := 17 + n.toNat) (by omega) hb.1 hb.2
  have hbs := hB.size
  have hbo := hB.one
  have eB : wrA A (kb A) n v = stw A (17 + n.toNat) bv := by unfold wrA; rw [ec, if_pos rfl, hm, hbv]
  have hback := back_same hA (i := 17 + n.toNat) (by omega) hb.1 hb.2
  have hx := hA.at (17 + n.toNat) (by omega)
  have hy := hB.at (17 + n.toNat) (by omega)
  rw [wd_stw hA _ _ _ (by omega), if_pos rfl] at hy
  obtain ⟨x, ex⟩ : ∃ x, wd A (17 + n.toNat) = x := ⟨_, rfl⟩
  rw [ex] at hx hback
  obtain ⟨rc, hrc⟩ : ∃ c, rdc false n = c := ⟨_, rfl⟩
  obtain ⟨rv, hrd⟩ : ∃ c, rdv (stw A (17 + n.toNat) bv) false n = c := ⟨_, rfl⟩
  have hd0 : decide (n < 0) = false := decide_eq_false (by omega)
  have hd1 : decide (n ≥ 12) = false := decide_eq_false (by omega)
  have HX := Aside0.mk (And.intro ex hb)
  have HR := Aside0.mk (And.intro hrc hrd)
  clear ex hb
  go_enter Try.func7, Try.ntmps7
  go_upto_region 4 with (first | ((with_reducible refine gate_dst (N := 3) rfl ?_); refine box_event ?hg (N := 3) ?hd (cs := A) (t := 26) ?hr ?_; (case hd => rfl); (case hg => rfl); (case hr => first | (go_simp; done) | (go_simp; rfl)); intro g1 hg w1 hbox hb; have S1 := S0.box hg hbox hb; clear hg hbox hb; clear S0) | ((with_reducible refine gate_dst (N := 12) rfl ?_); refine wpList_load_row rfl 26 _ rfl g1 rfl 26 A (0, 0) _ (S1.heap ⟨g1, A, 26⟩ (by simp)) Try.underlying26 rfl (size_of hs) ?_) | (go_at_call 8; (with_reducible refine (write A hA n v hv.1 hv.2 _).mono ?_); rw [eB, ec]; rintro e w2 ⟨rfl, hb⟩; have S2 := S1.call hb; clear hb; clear S1) | ((with_reducible refine gate_dst (N := 7) rfl ?_); refine box_event ?hg (N := 7) ?hd (cs := zeroA) (t := 26) ?hr ?_; (case hd => rfl); (case hg => rfl); (case hr => first | (go_simp; done) | (go_simp; rfl)); intro g2 hg w3 hbox hb; have S3 := S2.box hg hbox hb; clear hg hbox hb; clear S2) | ((with_reducible refine gate_store (t := 26) (p := 7) rfl ?_); refine wpList_store_row rfl 26 _ _ rfl g2 (stw A (17 + n.toNat) bv) rfl rfl 26 zeroA (S3.heap ⟨g2, zeroA, 26⟩ (by simp)) (size_of hbs) (by first | rfl | (rw [hbs]; rfl)) (hbo) ?_; have S4 : St w _ [⟨g2, (stw A (17 + n.toNat) bv), 26⟩, ⟨g1, A, 26⟩] := St.row (L1 := []) (b := ⟨g2, zeroA, 26⟩) S3 (stw A (17 + n.toNat) bv); clear S3; generalize World.setRow _ _ _ = w4 at S4 ⊢))
  refine wp_region_st S4 (by kernel_rfl) (by kernel_rfl) ?_
  haveI : Nonempty (Cls _ _) := ⟨⟨_, S4⟩⟩
  repeat (first | (go_big_quiet_want; (with_reducible refine quiet_load 26 _ rfl g1 rfl 26 A _ (fun x => x.st.heap ⟨g1, A, 26⟩ (by simp)) Try.underlying26 rfl (size_of hs) ?_); go_big_quiet_on; (try simp only [Act.put, List.setIfInBounds_toArray, List.set_cons_zero, List.set_cons_succ])) | (go_big_quiet_want; (with_reducible refine quiet_cell 22 _ rfl _ _ rfl (.int .u32 bv) _ (fun x => x.st.cell (b := ⟨g2, (stw A (17 + n.toNat) bv), 26⟩) (by simp) hy) Try.underlying22 rfl ?_); go_big_quiet_on; (try simp only [Act.put, List.setIfInBounds_toArray, List.set_cons_zero, List.set_cons_succ])) | go_big_quiet_step ((first | (go_at_call 18; exact quiet_st (kern_is hk (kernel A hA _))) | (go_at_call 20; exact quiet_st (mask_is hm (masked n _))))))
  refine wpQuiet_nil ?_
  rintro ⟨w5, S5⟩
  go_wp2_with (first | ((with_reducible refine gate_dst (N := 62) rfl ?_); refine wpList_load_row rfl 26 _ rfl g2 rfl 26 (stw A (17 + n.toNat) bv) (0, 0) _ (S5.heap ⟨g2, (stw A (17 + n.toNat) bv), 26⟩ (by simp)) Try.underlying26 rfl (size_of hbs) ?_) | (go_at_call 16; (with_reducible refine (read (stw A (17 + n.toNat) bv) hB n _).mono ?_); rw [hkB, hrd, hrc]; rintro e w6 ⟨rfl, hb⟩; have S6 := S5.call hb; clear hb; clear S5) | ((with_reducible refine gate_dst (N := 67) rfl ?_); refine wpList_load_row rfl 26 _ rfl g2 rfl 26 (stw A (17 + n.toNat) bv) (0, 0) _ (S6.heap ⟨g2, (stw A (17 + n.toNat) bv), 26⟩ (by simp)) Try.underlying26 rfl (size_of hbs) ?_) | (go_at_call 18; (with_reducible refine (kern_is hkB (kernel (stw A (17 + n.toNat) bv) hB _)).mono ?_); rintro e w7 ⟨rfl, hb⟩; have S7 := S6.call hb; clear hb; clear S6; have cA := S7.cell (b := ⟨g1, A, 26⟩) (by simp) hx; have cB := S7.cell (b := ⟨g2, (stw A (17 + n.toNat) bv), 26⟩) (by simp) hy; have fB := S7.frozen (b := ⟨g2, (stw A (17 + n.toNat) bv), 26⟩) (by simp) (17 + n.toNat)) | ((with_reducible refine gate_dst (N := 88) rfl ?_); have S9 : St w _ [⟨g2, A, 26⟩, ⟨g1, A, 26⟩] := hback ▸ St.set (L1 := []) (b := ⟨g2, (stw A (17 + n.toNat) bv), 26⟩) S7 (17 + n.toNat) (.int .u32 x); clear S7 cA cB fB; refine wpList_load_row rfl 26 _ rfl g2 rfl 26 A (0, 0) _ (S9.heap ⟨g2, A, 26⟩ (by simp)) Try.underlying26 rfl (size_of hs) ?_; generalize World.setCell _ _ _ = w9 at S9 ⊢) | ((with_reducible refine gate_dst (N := 89) rfl ?_); refine wpList_load_row rfl 26 _ rfl g1 rfl 26 A (0, 0) _ (S9.heap ⟨g1, A, 26⟩ (by simp)) Try.underlying26 rfl (size_of hs) ?_) | (go_at_call 10; (with_reducible refine (awake _).mono ?_); rintro e w10 ⟨rfl, hb⟩; have S10 := S9.call hb; clear hb; clear S9))
  go_ret
  exact ⟨rfl, S10.below⟩

theorem back (A : Array Value) (hA : IsArch A) (n v : Int) (hv : 0 ≤ v ∧ v < 4294967296) (w : World) :
    Calls Try.prog 7 #[.agg A, .int .i64 n, .int .u32 v] w fun e w' => e = .returned (.bool true) ∧ Below w.heap.size w w' := by
  cases hk : kb A with
  | false => exact back_user A hA n v hv hk w
  | true =>
    by_cases h0 : n < 0
    · exact back_low A hA n v hv hk h0 w
    · by_cases h1 : n ≥ 12
      · exact back_high A hA n v hv hk h1 w
      · cases hkB : kb (stw A (17 + n.toNat) (Go.bits .and .u32 v (mk n))) with
        | true => exact back_in A hA n v hv hk (by omega) (by omega) _ _ rfl rfl hkB w
        | false => exact back_out A hA n v hv hk (by omega) (by omega) _ _ rfl rfl hkB w

theorem wfu {a : Int} (h : (Lit.int .u32 a).wf = true) : 0 ≤ a ∧ a < 4294967296 := by have := wf_u32 h; omega
theorem arch_is (l : List Int) (hl : l.length = 29) (hw : ∀ x ∈ l, 0 ≤ x ∧ x < 4294967296) (b : Bool) : IsArch (l.map (Value.int .u32) ++ [Value.bool b]).toArray := by
  refine ⟨by simp [hl], fun i hi => ?_, b, ?_⟩
  · have := hw _ (List.getElem_mem (l := l) (n := i) (by omega))
    refine ⟨l[i], ?_, this.1, this.2⟩
    rw [List.getElem?_toArray, List.getElem?_append_left (by simp [hl, hi]), List.getElem?_map, List.getElem?_eq_getElem (by omega)]
    rfl
  · rw [List.getElem?_toArray, List.getElem?_append_right (by simp [hl])]
    simp [hl]

end Go.Proofs.Ytgegpppoimeliaa.Csr
