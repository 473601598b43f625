/- What csr.Read, Write, Count, Raise and the document's come to, over a core's cells: walks of the code. The one condition is that the cells are a core's. -/
import Derived.Test.YtgegpppoimeliaaCsr1
namespace Go.Proofs.Ytgegpppoimeliaa.Csr
open Go Go.Proofs Go.RowKit Go.Proofs.YtgegpppoimeliaaW.PrintWords Go.Proofs.YtgegpppoimeliaaW.PrintLast Go.Proofs.YtgegpppoimeliaaW.PrintMore Go.Proofs.Ytgegpppoimeliaa.Boxes Go.Proofs.Ytgegpppoimeliaa.Arch
set_option linter.unusedVariables false

/-- Why a control register may not be touched. -/
def my (k : Bool) (n : Int) (free : Bool) : Int := if !k && !free then 8 else if n < 0 then 2 else if n ≥ 12 then 2 else 0
set_option maxHeartbeats 1000000 in
theorem may (A : Array Value) (hA : IsArch A) (n : Int) (free : Bool) (w : World) :
    Calls Try.prog 22 #[.agg A, .int .i64 n, .bool free] w fun e w' => e = .returned (.int .i64 (my (kb A) n free)) ∧ Below w.heap.size w w' := by
  have hs := hA.size
  have S0 := St.start w
  obtain ⟨k, hk⟩ : ∃ k, kb A = k := ⟨_, rfl⟩
  have HK := Aside0.mk hk
  rw [hk]
  clear hk
  cases k <;> cases free <;> by_cases h0 : n < 0 <;> by_cases h1 : n ≥ 12
  all_goals first
    | (exfalso; omega)
    | (go_enter Try.func22, Try.ntmps22
       go_wp2_with (first | ((with_reducible refine gate_dst (N := 3) rfl ?_); refine box_event ?hg (N := 3) ?hd (cs := A) (t := 26) ?hr ?_; (case hd => rfl); (case hg => rfl); (case hr => first | (go_simp; done) | (go_simp; rfl)); intro g1 hg w1 hbox hb; have S1 := S0.box hg hbox hb; clear hg hbox hb; clear S0) | ((with_reducible refine gate_dst (N := 7) rfl ?_); refine wpList_load_row rfl 26 _ rfl g1 rfl 26 A (0, 0) _ (S1.heap ⟨g1, A, 26⟩ (by simp)) Try.underlying26 rfl (size_of hs) ?_) | ((with_reducible refine (kernel A hA _).mono ?_); rintro e w2 ⟨rfl, hb⟩; rw [HK.out]; have S2 := S1.call hb; clear hb; clear S1))
       go_ret
       exact ⟨by unfold my; simp; (try ((repeat' split) <;> first | rfl | omega)), S2.below⟩)

/-- What a read has. -/
def rdc (k : Bool) (n : Int) : Int := my k n (n == 7)
def rdv (A : Array Value) (k : Bool) (n : Int) : Int := if rdc k n = 0 then wd A (17 + n.toNat) else 0
set_option maxHeartbeats 1000000 in
theorem read (A : Array Value) (hA : IsArch A) (n : Int) (w : World) :
    Calls Try.prog 16 #[.agg A, .int .i64 n] w fun e w' => e = .returned (.tuple #[.int .u32 (rdv A (kb A) n), .int .i64 (rdc (kb A) n)]) ∧ Below w.heap.size w w' := by
  have hs := hA.size
  have S0 := St.start w
  obtain ⟨c, hc⟩ : ∃ c, rdc (kb A) n = c := ⟨_, rfl⟩
  have HC := Aside0.mk hc
  unfold rdv
  rw [hc]
  by_cases h : c = 0
  · rw [if_pos h]
    have hn : 0 ≤ n ∧ n < 12 := by
      rw [← hc] at h
      unfold rdc my at h
      split at h
      · omega
      · split at h
        · omega
        · split at h
          · omega
          · omega
    obtain ⟨h0, h1⟩ := hn
    have hv := hA.at (17 + n.toNat) (by omega)
    have hcb : (c != 0) = false := by rw [h]; rfl
    clear hc
    go_enter Try.func16, Try.ntmps16
    go_wp2_with (first | ((with_reducible refine gate_dst (N := 2) rfl ?_); refine box_event ?hg (N := 2) ?hd (cs := A) (t := 26) ?hr ?_; (case hd => rfl); (case hg => rfl); (case hr => first | (go_simp; done) | (go_simp; rfl)); intro g1 hg w1 hbox hb; have S1 := S0.box hg hbox hb; clear hg hbox hb; clear S0) | ((with_reducible refine gate_dst (N := 7) rfl ?_); refine wpList_load_row rfl 26 _ rfl g1 rfl 26 A (0, 0) _ (S1.heap ⟨g1, A, 26⟩ (by simp)) Try.underlying26 rfl (size_of hs) ?_) | ((with_reducible refine (may A hA n (n == 7) _).mono ?_); rintro e w2 ⟨rfl, hb⟩; rw [show my (kb A) n (n == 7) = c from HC.out]; have S2 := S1.call hb; clear hb; clear S1; have f := S2.cell (b := ⟨g1, A, 26⟩) (by simp) hv))
    go_ret2
    exact ⟨by rw [h]; rfl, S2.below⟩
  · rw [if_neg h]
    have hcb : (c != 0) = true := by simpa using h
    clear hc h
    go_enter Try.func16, Try.ntmps16
    go_wp2_with (first | ((with_reducible refine gate_dst (N := 2) rfl ?_); refine box_event ?hg (N := 2) ?hd (cs := A) (t := 26) ?hr ?_; (case hd => rfl); (case hg => rfl); (case hr => first | (go_simp; done) | (go_simp; rfl)); intro g1 hg w1 hbox hb; have S1 := S0.box hg hbox hb; clear hg hbox hb; clear S0) | ((with_reducible refine gate_dst (N := 7) rfl ?_); refine wpList_load_row rfl 26 _ rfl g1 rfl 26 A (0, 0) _ (S1.heap ⟨g1, A, 26⟩ (by simp)) Try.underlying26 rfl (size_of hs) ?_) | ((with_reducible refine (may A hA n (n == 7) _).mono ?_); rintro e w2 ⟨rfl, hb⟩; rw [show my (kb A) n (n == 7) = c from HC.out]; have S2 := S1.call hb; clear hb; clear S1))
    go_ret2
    exact ⟨rfl, S2.below⟩

theorem zsize : zeroA.size = 30 := rfl
/-- A core in which a control register is written. -/
def wrA (A : Array Value) (k : Bool) (n v : Int) : Array Value := if my k n false = 0 then stw A (17 + n.toNat) (Go.bits .and .u32 v (mk n)) else zeroA
set_option maxHeartbeats 1000000 in
theorem write (A : Array Value) (hA : IsArch A) (n v : Int) (hv0 : 0 ≤ v) (hv1 : v < 4294967296) (w : World) :
    Calls Try.prog 8 #[.agg A, .int .i64 n, .int .u32 v] w fun e w' => e = .returned (.tuple #[.agg (wrA A (kb A) n v), .int .i64 (my (kb A) n false)]) ∧ Below w.heap.size w w' := by
  have hs := hA.size
  have S0 := St.start w
  have hz : zeroA = #[.int .u32 0, .int .u32 0, .int .u32 0, .int .u32 0, .int .u32 0, .int .u32 0, .int .u32 0, .int .u32 0, .int .u32 0, .int .u32 0, .int .u32 0, .int .u32 0, .int .u32 0, .int .u32 0, .int .u32 0, .int .u32 0, .int .u32 0, .int .u32 0, .int .u32 0, .int .u32 0, .int .u32 0, .int .u32 0, .int .u32 0, .int .u32 0, .int .u32 0, .int .u32 0, .int .u32 0, .int .u32 0, .int .u32 0, .bool false] := rfl
  have HZ := Aside0.mk hz
  clear hz
  obtain ⟨c, hc⟩ : ∃ c, my (kb A) n false = c := ⟨_, rfl⟩
  have HC := Aside0.mk hc
  unfold wrA
  rw [hc]
  by_cases h : c = 0
  · rw [if_pos h]
    have hn : 0 ≤ n ∧ n < 12 := by
      rw [← hc] at h
      unfold my at h
      split at h
      · omega
      · split at h
        · omega
        · split at h
          · omega
          · omega
    obtain ⟨h0, h1⟩ := hn
    have hv := hA.at (17 + n.toNat) (by omega)
    have hcb : (c != 0) = false := by rw [h]; rfl
    clear hc
    have ho := hA.one
    obtain ⟨m, hm⟩ : ∃ m, mk n = m := ⟨_, rfl⟩
    have HM := Aside0.mk hm
    rw [hm]
    clear hm
    go_enter Try.func8, Try.ntmps8
    go_wp2_with (first | ((with_reducible refine gate_dst (N := 3) rfl ?_); refine box_event ?hg (N := 3) ?hd (cs := A) (t := 26) ?hr ?_; (case hd => rfl); (case hg => rfl); (case hr => first | (go_simp; done) | (go_simp; rfl)); intro g1 hg w1 hbox hb; have S1 := S0.box hg hbox hb; clear hg hbox hb; clear S0) | ((with_reducible refine gate_dst (N := 6) rfl ?_); refine box_event ?hg (N := 6) ?hd (cs := zeroA) (t := 26) ?hr ?_; (case hd => rfl); (case hg => rfl); (case hr => first | (go_simp; done) | (go_simp; rfl)); intro g2 hg w2 hbox hb; have S2 := S1.box hg hbox hb; clear hg hbox hb; clear S1) | ((with_reducible refine gate_dst (N := 9) rfl ?_); refine wpList_load_row rfl 26 _ rfl g1 rfl 26 A (0, 0) _ (S2.heap ⟨g1, A, 26⟩ (by simp)) Try.underlying26 rfl (size_of hs) ?_) | (go_at_call 22; (with_reducible refine (may A hA n false _).mono ?_); rintro e w3 ⟨rfl, hb⟩; rw [HC.out]; have S3 := S2.call hb; clear hb; clear S2; have f := S3.cell (b := ⟨g1, A, 26⟩) (by simp) hv; have fz := S3.frozen (b := ⟨g1, A, 26⟩) (by simp) (17 + n.toNat)) | (go_at_call 20; (with_reducible refine (masked n _).mono ?_); rintro e w4 ⟨rfl, hb⟩; rw [HM.out]; have S3 := S3.call hb; clear hb f fz; have f := S3.cell (b := ⟨g1, A, 26⟩) (by simp) hv; have fz := S3.frozen (b := ⟨g1, A, 26⟩) (by simp) (17 + n.toNat)) | ((with_reducible refine gate_dst (N := 23) rfl ?_); have S4 := St.set (L1 := [⟨g2, zeroA, 26⟩]) (b := ⟨g1, A, 26⟩) S3 (17 + n.toNat) (.int .u32 (Go.bits .and .u32 v m)); clear S3 f fz; refine wpList_load_row rfl 26 _ rfl g1 rfl 26 (stw A (17 + n.toNat) (Go.bits .and .u32 v m)) (0, 0) _ (S4.heap ⟨g1, stw A (17 + n.toNat) (Go.bits .and .u32 v m), 26⟩ (by simp [stw])) Try.underlying26 rfl (size_of (by simp [stw_size, hs])) ?_; generalize World.setCell _ _ _ = w5 at S4 ⊢) | ((with_reducible refine gate_store (t := 26) (p := 6) rfl ?_); refine wpList_store_row rfl 26 _ _ rfl g2 (stw A (17 + n.toNat) (Go.bits .and .u32 v m)) rfl rfl 26 zeroA (S4.heap ⟨g2, zeroA, 26⟩ (by simp)) (size_of (by simp [stw_size, hs])) (by first | rfl | (rw [show ((stw A (17 + n.toNat) (Go.bits .and .u32 v m))).size = 30 from (by simp [stw_size, hs])]; rfl)) (one_stw ho _ _) ?_; have S5 := St.row (L1 := []) (b := ⟨g2, zeroA, 26⟩) S4 (stw A (17 + n.toNat) (Go.bits .and .u32 v m)); clear S4; generalize World.setRow _ _ _ = w6 at S5 ⊢))
    refine bodyPost_ret (results_ct rfl _ _ g2 26 (stw A (17 + n.toNat) (Go.bits .and .u32 v m)) (0, 0) _ rfl (S5.heap ⟨g2, stw A (17 + n.toNat) (Go.bits .and .u32 v m), 26⟩ (by simp)) Try.underlying26 rfl (size_of (by simp [stw_size, hs]))) rfl ?_
    exact ⟨by first | rfl | (rw [h]; rfl), S5.below⟩
  · rw [if_neg h]
    have hcb : (c != 0) = true := by simpa using h
    clear hc h
    go_enter Try.func8, Try.ntmps8
    go_wp2_with (first | ((with_reducible refine gate_dst (N := 3) rfl ?_); refine box_event ?hg (N := 3) ?hd (cs := A) (t := 26) ?hr ?_; (case hd => rfl); (case hg => rfl); (case hr => first | (go_simp; done) | (go_simp; rfl)); intro g1 hg w1 hbox hb; have S1 := S0.box hg hbox hb; clear hg hbox hb; clear S0) | ((with_reducible refine gate_dst (N := 6) rfl ?_); refine box_event ?hg (N := 6) ?hd (cs := zeroA) (t := 26) ?hr ?_; (case hd => rfl); (case hg => rfl); (case hr => first | (go_simp; done) | (go_simp; rfl)); intro g2 hg w2 hbox hb; have S2 := S1.box hg hbox hb; clear hg hbox hb; clear S1) | ((with_reducible refine gate_dst (N := 9) rfl ?_); refine wpList_load_row rfl 26 _ rfl g1 rfl 26 A (0, 0) _ (S2.heap ⟨g1, A, 26⟩ (by simp)) Try.underlying26 rfl (size_of hs) ?_) | (go_at_call 22; (with_reducible refine (may A hA n false _).mono ?_); rintro e w3 ⟨rfl, hb⟩; rw [HC.out]; have S3 := S2.call hb; clear hb; clear S2) | ((with_reducible refine gate_store (t := 26) (p := 6) rfl ?_); refine wpList_store_row rfl 26 _ _ rfl g2 zeroA rfl rfl 26 zeroA (S3.heap ⟨g2, zeroA, 26⟩ (by simp)) (size_of zsize) (by first | rfl | (rw [show (zeroA).size = 30 from zsize]; rfl)) (zeroA_is.one) ?_; have S5 := St.row (L1 := []) (b := ⟨g2, zeroA, 26⟩) S3 zeroA; clear S3; generalize World.setRow _ _ _ = w6 at S5 ⊢))
    refine bodyPost_ret (results_ct rfl _ _ g2 26 zeroA (0, 0) _ rfl (S5.heap ⟨g2, zeroA, 26⟩ (by simp)) Try.underlying26 rfl (size_of zsize)) rfl ?_
    exact ⟨by first | rfl | (rw [h]; rfl), S5.below⟩

end Go.Proofs.Ytgegpppoimeliaa.Csr
