/- What the document's Read, Write and Bits come to, over a core's cells: walks of the code. The one condition is that the cells are a core's. -/
import Derived.Test.YtgegpppoimeliaaCsr3
namespace Go.Proofs.Ytgegpppoimeliaa.Csr
open Go Go.Proofs Go.RowKit Go.Proofs.YtgegpppoimeliaaW.PrintWords Go.Proofs.YtgegpppoimeliaaW.PrintLast Go.Proofs.YtgegpppoimeliaaW.PrintMore Go.Proofs.Ytgegpppoimeliaa.Boxes Go.Proofs.Ytgegpppoimeliaa.Arch Go.Proofs.Ytgegpppoimeliaa.Plain
set_option linter.unusedVariables false

set_option maxHeartbeats 1000000 in
theorem rread (A : Array Value) (hA : IsArch A) (n : Int) (w : World) :
    Calls Try.prog 17 #[.agg A, .int .i64 n] w fun e w' => e = .returned (.tuple #[.int .u32 (rdv A (kb A) n), .int .i64 (rdc (kb A) n)]) ∧ Below w.heap.size w w' := by
  have hs := hA.size
  have S0 := St.start w
  obtain ⟨k, hk⟩ : ∃ k, kb A = k := ⟨_, rfl⟩
  have HK := Aside0.mk hk
  rw [hk]
  clear hk
  by_cases h7 : n = 7
  · subst h7
    have hv := hA.at 24 (by decide)
    have e1 : rdc k 7 = 0 := by unfold rdc my; cases k <;> rfl
    have e2 : rdv A k 7 = wd A 24 := by unfold rdv; rw [e1]; rfl
    rw [e1, e2]
    clear e1 e2
    cases k
    all_goals
      go_enter Try.func17, Try.ntmps17
      go_wp2_with (first | ((with_reducible refine gate_dst (N := 2) rfl ?_); refine box_event ?hg (N := 2) ?hd (cs := A) (t := 26) ?hr ?_; (case hd => rfl); (case hg => rfl); (case hr => first | (go_simp; done) | (go_simp; rfl)); intro g1 hg w1 hbox hb; have S1 := S0.box hg hbox hb; clear hg hbox hb; clear S0) | ((with_reducible refine gate_dst (N := 6) rfl ?_); refine wpList_load_row rfl 26 _ rfl g1 rfl 26 A (0, 0) _ (S1.heap ⟨g1, A, 26⟩ (by simp)) Try.underlying26 rfl (size_of hs) ?_) | (go_at_call 19; (with_reducible refine (rkernel A hA _).mono ?_); rintro e w3 ⟨rfl, hb⟩; rw [HK.out]; have S2 := S1.call hb; clear hb; clear S1; have f := S2.cell (b := ⟨g1, A, 26⟩) (by simp) hv))
      go_ret2
      exact ⟨rfl, S2.below⟩
  · have h7b : (n != 7) = true := by simpa using h7
    have h7c : (n == 7) = false := by simpa using h7
    cases k
    · have e1 : rdc false n = 8 := by unfold rdc my; rw [h7c]; rfl
      have e2 : rdv A false n = 0 := by unfold rdv; rw [e1]; rfl
      rw [e1, e2]
      clear e1 e2 h7 h7c
      go_enter Try.func17, Try.ntmps17
      go_wp2_with (first | ((with_reducible refine gate_dst (N := 2) rfl ?_); refine box_event ?hg (N := 2) ?hd (cs := A) (t := 26) ?hr ?_; (case hd => rfl); (case hg => rfl); (case hr => first | (go_simp; done) | (go_simp; rfl)); intro g1 hg w1 hbox hb; have S1 := S0.box hg hbox hb; clear hg hbox hb; clear S0) | ((with_reducible refine gate_dst (N := 6) rfl ?_); refine wpList_load_row rfl 26 _ rfl g1 rfl 26 A (0, 0) _ (S1.heap ⟨g1, A, 26⟩ (by simp)) Try.underlying26 rfl (size_of hs) ?_) | (go_at_call 19; (with_reducible refine (rkernel A hA _).mono ?_); rintro e w3 ⟨rfl, hb⟩; rw [HK.out]; have S2 := S1.call hb; clear hb; clear S1))
      go_ret2
      exact ⟨rfl, S2.below⟩
    · by_cases h0 : n < 0
      · have e1 : rdc true n = 2 := by unfold rdc my; simp [h0]
        have e2 : rdv A true n = 0 := by unfold rdv; rw [e1]; rfl
        rw [e1, e2]
        clear e1 e2 h7 h7c
        go_enter Try.func17, Try.ntmps17
        go_wp2_with (first | ((with_reducible refine gate_dst (N := 2) rfl ?_); refine box_event ?hg (N := 2) ?hd (cs := A) (t := 26) ?hr ?_; (case hd => rfl); (case hg => rfl); (case hr => first | (go_simp; done) | (go_simp; rfl)); intro g1 hg w1 hbox hb; have S1 := S0.box hg hbox hb; clear hg hbox hb; clear S0) | ((with_reducible refine gate_dst (N := 6) rfl ?_); refine wpList_load_row rfl 26 _ rfl g1 rfl 26 A (0, 0) _ (S1.heap ⟨g1, A, 26⟩ (by simp)) Try.underlying26 rfl (size_of hs) ?_) | (go_at_call 19; (with_reducible refine (rkernel A hA _).mono ?_); rintro e w3 ⟨rfl, hb⟩; rw [HK.out]; have S2 := S1.call hb; clear hb; clear S1))
        go_ret2
        exact ⟨rfl, S2.below⟩
      · by_cases h1 : n ≥ 12
        · have e1 : rdc true n = 2 := by unfold rdc my; rw [if_neg (by simp), if_neg h0, if_pos h1]
          have e2 : rdv A true n = 0 := by unfold rdv; rw [e1]; rfl
          have h11 : 11 < n := by omega
          rw [e1, e2]
          clear e1 e2 h7 h7c
          go_enter Try.func17, Try.ntmps17
          go_wp2_with (first | ((with_reducible refine gate_dst (N := 2) rfl ?_); refine box_event ?hg (N := 2) ?hd (cs := A) (t := 26) ?hr ?_; (case hd => rfl); (case hg => rfl); (case hr => first | (go_simp; done) | (go_simp; rfl)); intro g1 hg w1 hbox hb; have S1 := S0.box hg hbox hb; clear hg hbox hb; clear S0) | ((with_reducible refine gate_dst (N := 6) rfl ?_); refine wpList_load_row rfl 26 _ rfl g1 rfl 26 A (0, 0) _ (S1.heap ⟨g1, A, 26⟩ (by simp)) Try.underlying26 rfl (size_of hs) ?_) | (go_at_call 19; (with_reducible refine (rkernel A hA _).mono ?_); rintro e w3 ⟨rfl, hb⟩; rw [HK.out]; have S2 := S1.call hb; clear hb; clear S1))
          go_ret2
          exact ⟨rfl, S2.below⟩
        · have e1 : rdc true n = 0 := by unfold rdc my; rw [if_neg (by simp), if_neg h0, if_neg h1]
          have e2 : rdv A true n = wd A (17 + n.toNat) := by unfold rdv; rw [e1]; rfl
          have h2 : 0 ≤ n := by omega
          have h3 : n < 12 := by omega
          have h11 : n ≤ 11 := by omega
          have hv := hA.at (17 + n.toNat) (by omega)
          rw [e1, e2]
          clear e1 e2 h7 h7c h0 h1
          go_enter Try.func17, Try.ntmps17
          go_wp2_with (first | ((with_reducible refine gate_dst (N := 2) rfl ?_); refine box_event ?hg (N := 2) ?hd (cs := A) (t := 26) ?hr ?_; (case hd => rfl); (case hg => rfl); (case hr => first | (go_simp; done) | (go_simp; rfl)); intro g1 hg w1 hbox hb; have S1 := S0.box hg hbox hb; clear hg hbox hb; clear S0) | ((with_reducible refine gate_dst (N := 6) rfl ?_); refine wpList_load_row rfl 26 _ rfl g1 rfl 26 A (0, 0) _ (S1.heap ⟨g1, A, 26⟩ (by simp)) Try.underlying26 rfl (size_of hs) ?_) | (go_at_call 19; (with_reducible refine (rkernel A hA _).mono ?_); rintro e w3 ⟨rfl, hb⟩; rw [HK.out]; have S2 := S1.call hb; clear hb; clear S1; have f := S2.cell (b := ⟨g1, A, 26⟩) (by simp) hv))
          go_ret2
          exact ⟨rfl, S2.below⟩

set_option maxHeartbeats 1000000 in
theorem rwrite (A : Array Value) (hA : IsArch A) (n v : Int) (w : World) :
    Calls Try.prog 9 #[.agg A, .int .i64 n, .int .u32 v] w fun e w' => e = .returned (.tuple #[.agg (wrA A (kb A) n v), .int .i64 (my (kb A) n false)]) ∧ Below w.heap.size w w' := by
  have hs := hA.size
  have ho := hA.one
  have S0 := St.start w
  obtain ⟨k, hk⟩ : ∃ k, kb A = k := ⟨_, rfl⟩
  have HK := Aside0.mk hk
  rw [hk]
  clear hk
  cases k
  · have e1 : my false n false = 8 := by unfold my; rfl
    have e2 : wrA A false n v = zeroA := by unfold wrA; rw [e1]; rfl
    rw [e1, e2]
    clear e1 e2
    go_enter Try.func9, Try.ntmps9
    go_wp2_with (first | ((with_reducible refine gate_dst (N := 3) rfl ?_); refine box_event ?hg (N := 3) ?hd (cs := A) (t := 26) ?hr ?_; (case hd => rfl); (case hg => rfl); (case hr => first | (go_simp; done) | (go_simp; rfl)); intro g1 hg w1 hbox hb; have S1 := S0.box hg hbox hb; clear hg hbox hb; clear S0) | ((with_reducible refine gate_dst (N := 6) rfl ?_); refine box_event ?hg (N := 6) ?hd (cs := zeroA) (t := 26) ?hr ?_; (case hd => rfl); (case hg => rfl); (case hr => first | (go_simp; done) | (go_simp; rfl)); intro g2 hg w2 hbox hb; have S2 := S1.box hg hbox hb; clear hg hbox hb; clear S1) | ((with_reducible refine gate_dst (N := 8) rfl ?_); refine wpList_load_row rfl 26 _ rfl g1 rfl 26 A (0, 0) _ (S2.heap ⟨g1, A, 26⟩ (by simp)) Try.underlying26 rfl (size_of hs) ?_) | (go_at_call 19; (with_reducible refine (rkernel A hA _).mono ?_); rintro e w3 ⟨rfl, hb⟩; rw [HK.out]; have S3 := S2.call hb; clear hb; clear S2) | ((with_reducible refine gate_store (t := 26) (p := 6) rfl ?_); refine wpList_store_row rfl 26 _ _ rfl g2 zeroA rfl rfl 26 zeroA (S3.heap ⟨g2, zeroA, 26⟩ (by simp)) (size_of zsize) (by first | rfl | (rw [show (zeroA).size = 30 from zsize]; rfl)) (zeroA_is.one) ?_; have S5 := St.row (L1 := []) (b := ⟨g2, zeroA, 26⟩) S3 zeroA; clear S3; generalize World.setRow _ _ _ = w6 at S5 ⊢))
    refine bodyPost_ret (results_ct rfl _ _ g2 26 zeroA (0, 0) _ rfl (S5.heap ⟨g2, zeroA, 26⟩ (by simp)) Try.underlying26 rfl (size_of zsize)) rfl ?_
    exact ⟨rfl, S5.below⟩
  · by_cases h0 : n < 0
    · have e1 : my true n false = 2 := by unfold my; simp [h0]
      have e2 : wrA A true n v = zeroA := by unfold wrA; rw [e1]; rfl
      rw [e1, e2]
      clear e1 e2
      go_enter Try.func9, Try.ntmps9
      go_wp2_with (first | ((with_reducible refine gate_dst (N := 3) rfl ?_); refine box_event ?hg (N := 3) ?hd (cs := A) (t := 26) ?hr ?_; (case hd => rfl); (case hg => rfl); (case hr => first | (go_simp; done) | (go_simp; rfl)); intro g1 hg w1 hbox hb; have S1 := S0.box hg hbox hb; clear hg hbox hb; clear S0) | ((with_reducible refine gate_dst (N := 6) rfl ?_); refine box_event ?hg (N := 6) ?hd (cs := zeroA) (t := 26) ?hr ?_; (case hd => rfl); (case hg => rfl); (case hr => first | (go_simp; done) | (go_simp; rfl)); intro g2 hg w2 hbox hb; have S2 := S1.box hg hbox hb; clear hg hbox hb; clear S1) | ((with_reducible refine gate_dst (N := 8) rfl ?_); refine wpList_load_row rfl 26 _ rfl g1 rfl 26 A (0, 0) _ (S2.heap ⟨g1, A, 26⟩ (by simp)) Try.underlying26 rfl (size_of hs) ?_) | (go_at_call 19; (with_reducible refine (rkernel A hA _).mono ?_); rintro e w3 ⟨rfl, hb⟩; rw [HK.out]; have S3 := S2.call hb; clear hb; clear S2) | ((with_reducible refine gate_store (t := 26) (p := 6) rfl ?_); refine wpList_store_row rfl 26 _ _ rfl g2 zeroA rfl rfl 26 zeroA (S3.heap ⟨g2, zeroA, 26⟩ (by simp)) (size_of zsize) (by first | rfl | (rw [show (zeroA).size = 30 from zsize]; rfl)) (zeroA_is.one) ?_; have S5 := St.row (L1 := []) (b := ⟨g2, zeroA, 26⟩) S3 zeroA; clear S3; generalize World.setRow _ _ _ = w6 at S5 ⊢))
      refine bodyPost_ret (results_ct rfl _ _ g2 26 zeroA (0, 0) _ rfl (S5.heap ⟨g2, zeroA, 26⟩ (by simp)) Try.underlying26 rfl (size_of zsize)) rfl ?_
      exact ⟨rfl, S5.below⟩
    · by_cases h1 : n ≥ 12
      · have e1 : my true n false = 2 := by unfold my; rw [if_neg (by simp), if_neg h0, if_pos h1]
        have e2 : wrA A true n v = zeroA := by unfold wrA; rw [e1]; rfl
        have h11 : 11 < n := by omega
        rw [e1, e2]
        clear e1 e2
        go_enter Try.func9, Try.ntmps9
        go_wp2_with (first | ((with_reducible refine gate_dst (N := 3) rfl ?_); refine box_event ?hg (N := 3) ?hd (cs := A) (t := 26) ?hr ?_; (case hd => rfl); (case hg => rfl); (case hr => first | (go_simp; done) | (go_simp; rfl)); intro g1 hg w1 hbox hb; have S1 := S0.box hg hbox hb; clear hg hbox hb; clear S0) | ((with_reducible refine gate_dst (N := 6) rfl ?_); refine box_event ?hg (N := 6) ?hd (cs := zeroA) (t := 26) ?hr ?_; (case hd => rfl); (case hg => rfl); (case hr => first | (go_simp; done) | (go_simp; rfl)); intro g2 hg w2 hbox hb; have S2 := S1.box hg hbox hb; clear hg hbox hb; clear S1) | ((with_reducible refine gate_dst (N := 8) rfl ?_); refine wpList_load_row rfl 26 _ rfl g1 rfl 26 A (0, 0) _ (S2.heap ⟨g1, A, 26⟩ (by simp)) Try.underlying26 rfl (size_of hs) ?_) | (go_at_call 19; (with_reducible refine (rkernel A hA _).mono ?_); rintro e w3 ⟨rfl, hb⟩; rw [HK.out]; have S3 := S2.call hb; clear hb; clear S2) | ((with_reducible refine gate_store (t := 26) (p := 6) rfl ?_); refine wpList_store_row rfl 26 _ _ rfl g2 zeroA rfl rfl 26 zeroA (S3.heap ⟨g2, zeroA, 26⟩ (by simp)) (size_of zsize) (by first | rfl | (rw [show (zeroA).size = 30 from zsize]; rfl)) (zeroA_is.one) ?_; have S5 := St.row (L1 := []) (b := ⟨g2, zeroA, 26⟩) S3 zeroA; clear S3; generalize World.setRow _ _ _ = w6 at S5 ⊢))
        refine bodyPost_ret (results_ct rfl _ _ g2 26 zeroA (0, 0) _ rfl (S5.heap ⟨g2, zeroA, 26⟩ (by simp)) Try.underlying26 rfl (size_of zsize)) rfl ?_
        exact ⟨rfl, S5.below⟩
      · have e1 : my true n false = 0 := by unfold my; rw [if_neg (by simp), if_neg h0, if_neg h1]
        have e2 : wrA A true n v = stw A (17 + n.toNat) (Go.bits .and .u32 v (mk n)) := by unfold wrA; rw [e1]; rfl
        have h2 : 0 ≤ n := by omega
        have h3 : n < 12 := by omega
        have h11 : n ≤ 11 := by omega
        have hv := hA.at (17 + n.toNat) (by omega)
        rw [e1, e2]
        clear e1 e2 h0 h1
        obtain ⟨m, hm⟩ : ∃ m, mk n = m := ⟨_, rfl⟩
        have HM := Aside0.mk hm
        rw [hm]
        clear hm
        go_enter Try.func9, Try.ntmps9
        go_wp2_with (first | ((with_reducible refine gate_dst (N := 3) rfl ?_); refine box_event ?hg (N := 3) ?hd (cs := A) (t := 26) ?hr ?_; (case hd => rfl); (case hg => rfl); (case hr => first | (go_simp; done) | (go_simp; rfl)); intro g1 hg w1 hbox hb; have S1 := S0.box hg hbox hb; clear hg hbox hb; clear S0) | ((with_reducible refine gate_dst (N := 6) rfl ?_); refine box_event ?hg (N := 6) ?hd (cs := zeroA) (t := 26) ?hr ?_; (case hd => rfl); (case hg => rfl); (case hr => first | (go_simp; done) | (go_simp; rfl)); intro g2 hg w2 hbox hb; have S2 := S1.box hg hbox hb; clear hg hbox hb; clear S1) | ((with_reducible refine gate_dst (N := 8) rfl ?_); refine wpList_load_row rfl 26 _ rfl g1 rfl 26 A (0, 0) _ (S2.heap ⟨g1, A, 26⟩ (by simp)) Try.underlying26 rfl (size_of hs) ?_) | (go_at_call 19; (with_reducible refine (rkernel A hA _).mono ?_); rintro e w3 ⟨rfl, hb⟩; rw [HK.out]; have S3 := S2.call hb; clear hb; clear S2; have f := S3.cell (b := ⟨g1, A, 26⟩) (by simp) hv; have fz := S3.frozen (b := ⟨g1, A, 26⟩) (by simp) (17 + n.toNat)) | (go_at_call 21; (with_reducible refine (rmasked n _).mono ?_); rintro e w4 ⟨rfl, hb⟩; rw [HM.out]; have S3 := S3.call hb; clear hb f fz; have f := S3.cell (b := ⟨g1, A, 26⟩) (by simp) hv; have fz := S3.frozen (b := ⟨g1, A, 26⟩) (by simp) (17 + n.toNat)) | ((with_reducible refine gate_dst (N := 26) rfl ?_); have S4 := St.set (L1 := [⟨g2, zeroA, 26⟩]) (b := ⟨g1, A, 26⟩) S3 (17 + n.toNat) (.int .u32 (Go.bits .and .u32 v m)); clear S3 f fz; refine wpList_load_row rfl 26 _ rfl g1 rfl 26 (stw A (17 + n.toNat) (Go.bits .and .u32 v m)) (0, 0) _ (S4.heap ⟨g1, stw A (17 + n.toNat) (Go.bits .and .u32 v m), 26⟩ (by simp [stw])) Try.underlying26 rfl (size_of (by simp [stw_size, hs])) ?_; generalize World.setCell _ _ _ = w5 at S4 ⊢) | ((with_reducible refine gate_store (t := 26) (p := 6) rfl ?_); refine wpList_store_row rfl 26 _ _ rfl g2 (stw A (17 + n.toNat) (Go.bits .and .u32 v m)) rfl rfl 26 zeroA (S4.heap ⟨g2, zeroA, 26⟩ (by simp)) (size_of (by simp [stw_size, hs])) (by first | rfl | (rw [show ((stw A (17 + n.toNat) (Go.bits .and .u32 v m))).size = 30 from (by simp [stw_size, hs])]; rfl)) (one_stw ho _ _) ?_; have S5 := St.row (L1 := []) (b := ⟨g2, zeroA, 26⟩) S4 (stw A (17 + n.toNat) (Go.bits .and .u32 v m)); clear S4; generalize World.setRow _ _ _ = w6 at S5 ⊢))
        refine bodyPost_ret (results_ct rfl _ _ g2 26 (stw A (17 + n.toNat) (Go.bits .and .u32 v m)) (0, 0) _ rfl (S5.heap ⟨g2, stw A (17 + n.toNat) (Go.bits .and .u32 v m), 26⟩ (by simp)) Try.underlying26 rfl (size_of (by simp [stw_size, hs]))) rfl ?_
        exact ⟨rfl, S5.below⟩

/-- Has each register none but its bits? -/
def okb (A : Array Value) (i : Nat) : Bool := Go.bits .and .u32 (wd A (17 + i)) (mk i) == wd A (17 + i)
def bitsB (A : Array Value) : Bool := (List.range 12).all (okb A)
theorem bits_all {A : Array Value} (h : ∀ i, i < 12 → okb A i = true) : bitsB A = true := by
  unfold bitsB; rw [List.all_eq_true]; exact fun i hi => h i (by simpa using hi)
theorem bits_none {A : Array Value} (i : Nat) (hi : i < 12) (h : okb A i = false) : bitsB A = false := by
  rw [Bool.eq_false_iff]; intro e; unfold bitsB at e; rw [List.all_eq_true] at e
  have := e i (by simpa using hi); rw [h] at this; cases this
set_option maxHeartbeats 1000000 in
theorem rbits (A : Array Value) (hA : IsArch A) (w : World) :
    Calls Try.prog 15 #[.agg A] w fun e w' => e = .returned (.bool (bitsB A)) ∧ Below w.heap.size w w' := by
  have hs := hA.size
  have S0 := St.start w
  go_enter Try.func15, Try.ntmps15
  go_wp2_with (first | ((with_reducible refine gate_dst (N := 1) rfl ?_); refine box_event ?hg (N := 1) ?hd (cs := A) (t := 26) ?hr ?_; (case hd => rfl); (case hg => rfl); (case hr => first | (go_simp; done) | (go_simp; rfl)); intro g1 hg w1 hbox hb; have S1 := S0.box hg hbox hb; clear hg hbox hb; clear S0))
  have SA := Aside0.mk S1
  clear S1
  go_loopw [3] (fun i wr => ∃ k : Nat, k ≤ 12 ∧ i = .int .i64 k ∧ (∀ j, j < k → okb A j = true) ∧ St w wr [⟨g1, A, 26⟩]) (fun i _ => 12 - (intOf i).toNat)
  case atStart => exact ⟨0, by decide, rfl, fun j hj => by omega, SA.out⟩
  case round =>
    obtain ⟨k, hk, rfl, hok, S2⟩ := hrel
    have HOK := Aside0.mk hok
    clear hok
    by_cases hlt : k < 12
    · have hv := hA.at (17 + k) (by omega)
      have f := S2.cell (b := ⟨g1, A, 26⟩) (by simp) hv
      have hk0 : (0 : Int) ≤ (k : Int) := by omega
      have hk1 : (k : Int) < 12 := by omega
      cases hb : okb A k with
      | true =>
        have hb1 : (Go.bits .and .u32 (wd A (17 + k)) (mk k) != wd A (17 + k)) = false := by unfold okb at hb; simpa using hb
        have HOB := Aside0.mk hb
        clear hb hv
        obtain ⟨m, hm⟩ : ∃ m, mk k = m := ⟨_, rfl⟩
        have HQ : Aside0 (∀ W, Calls Try.prog 21 #[.int .i64 (k : Int)] W fun e w' => e = .returned (.int .u32 m) ∧ w' = W) := ⟨fun W => by rw [← hm]; exact rmasked_same k W⟩
        rw [hm] at hb1
        clear hm
        go_wp2
        go_quiet ((go_at_call 21; exact Calls.quiet_of_same (HQ.out _)))
        go_wp2
        go_roundw
        case rel => exact ⟨k + 1, by omega, by go_num, fun j hj => by
          by_cases e : j = k
          · rw [e]; exact HOB.out
          · exact HOK.out j (by omega), S2.drewN nq⟩
        case measure => simp [intOf]; omega
      | false =>
        have hb1 : (Go.bits .and .u32 (wd A (17 + k)) (mk k) != wd A (17 + k)) = true := by unfold okb at hb; simpa using hb
        have HB := Aside0.mk (bits_none k hlt hb)
        clear hb hv
        obtain ⟨m, hm⟩ : ∃ m, mk k = m := ⟨_, rfl⟩
        have HQ : Aside0 (∀ W, Calls Try.prog 21 #[.int .i64 (k : Int)] W fun e w' => e = .returned (.int .u32 m) ∧ w' = W) := ⟨fun W => by rw [← hm]; exact rmasked_same k W⟩
        rw [hm] at hb1
        clear hm
        go_wp2
        go_quiet ((go_at_call 21; exact Calls.quiet_of_same (HQ.out _)))
        go_wp2
        go_ret
        exact ⟨by rw [HB.out]; rfl, (S2.drewN nq).below⟩
    · have HB := Aside0.mk (bits_all (A := A) (fun i hi => HOK.out i (by omega)))
      have hk2 : (12 : Int) ≤ (k : Int) := by omega
      go_wp2
      go_ret
      exact ⟨by rw [HB.out]; rfl, S2.below⟩

end Go.Proofs.Ytgegpppoimeliaa.Csr
