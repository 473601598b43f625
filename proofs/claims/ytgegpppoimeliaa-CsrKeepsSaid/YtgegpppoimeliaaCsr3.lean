/- What csr.Count, csr.Raise and the document's Kernel, Masked, Read, Write, Count, Raise come to, over a core's cells: walks of the code. The one condition is that the cells are a core's. -/
import Derived.Test.YtgegpppoimeliaaCsr2
import Derived.Test.YtgegpppoimeliaaBits
namespace Go.Proofs.Ytgegpppoimeliaa.Csr
open Go Go.Proofs Go.RowKit Go.Proofs.YtgegpppoimeliaaW.PrintWords Go.Proofs.YtgegpppoimeliaaW.PrintLast Go.Proofs.YtgegpppoimeliaaW.PrintMore Go.Proofs.Ytgegpppoimeliaa.Boxes Go.Proofs.Ytgegpppoimeliaa.Arch Go.Proofs.Ytgegpppoimeliaa.Plain
set_option linter.unusedVariables false
/-- A core that has done an instruction more. -/
def cntA (A : Array Value) : Array Value :=
  if wd A 25 ≠ 0 ∧ wd A 25 ≤ (wd A 24 + 1) % 4294967296 then stw (stw A 24 ((wd A 24 + 1) % 4294967296)) 27 (Go.bits .or .u32 (wd A 27) 4) else stw A 24 ((wd A 24 + 1) % 4294967296)

set_option maxHeartbeats 1000000 in
theorem count (A : Array Value) (hA : IsArch A) (w : World) :
    Calls Try.prog 11 #[.agg A] w fun e w' => e = .returned (.agg (cntA A)) ∧ Below w.heap.size w w' := by
  have hs := hA.size
  have ho := hA.one
  have h24 := hA.at 24 (by decide)
  have h25 := hA.at 25 (by decide)
  have h27 := hA.at 27 (by decide)
  have S0 := St.start w
  unfold cntA
  generalize wd A 24 = x at h24 ⊢
  generalize wd A 25 = y at h25 ⊢
  generalize wd A 27 = z at h27 ⊢
  by_cases hy : y = 0
  · rw [if_neg (fun h => h.1 hy)]
    have hyb : (y != 0) = false := by simpa using hy
    clear hy
    go_enter Try.func11, Try.ntmps11
    go_wp2_with (first | ((with_reducible refine gate_dst (N := 1) rfl ?_); refine box_event ?hg (N := 1) ?hd (cs := A) (t := 26) ?hr ?_; (case hd => rfl); (case hg => rfl); (case hr => first | (go_simp; done) | (go_simp; rfl)); intro g1 hg w1 hbox hb; have S1 := S0.box hg hbox hb; clear hg hbox hb; clear S0) | ((with_reducible refine gate_dst (N := 2) rfl ?_); refine box_event ?hg (N := 2) ?hd (cs := zeroA) (t := 26) ?hr ?_; (case hd => rfl); (case hg => rfl); (case hr => first | (go_simp; done) | (go_simp; rfl)); intro g2 hg w2 hbox hb; have S2 := S1.box hg hbox hb; clear hg hbox hb; clear S1; have c24 := S2.cell (b := ⟨g1, A, 26⟩) (by simp) h24; have c25 := S2.cell (b := ⟨g1, A, 26⟩) (by simp) h25; have c27 := S2.cell (b := ⟨g1, A, 26⟩) (by simp) h27; have f24 := S2.frozen (b := ⟨g1, A, 26⟩) (by simp) 24; have f27 := S2.frozen (b := ⟨g1, A, 26⟩) (by simp) 27) | ((with_reducible refine gate_dst (N := 28) rfl ?_); have S4 := St.set (L1 := [⟨g2, zeroA, 26⟩]) (b := ⟨g1, A, 26⟩) (S2) 24 (.int .u32 ((x + 1) % 4294967296)); clear S2 c24 c25 c27 f24 f27; refine wpList_load_row rfl 26 _ rfl g1 rfl 26 (stw A 24 ((x + 1) % 4294967296)) (0, 0) _ (S4.heap ⟨g1, (stw A 24 ((x + 1) % 4294967296)), 26⟩ (by simp [stw])) Try.underlying26 rfl (size_of (by simp [stw_size, hs])) ?_; generalize World.setCell _ _ _ = w5 at S4 ⊢) | ((with_reducible refine gate_store (t := 26) (p := 2) rfl ?_); refine wpList_store_row rfl 26 _ _ rfl g2 (stw A 24 ((x + 1) % 4294967296)) rfl rfl 26 zeroA (S4.heap ⟨g2, zeroA, 26⟩ (by simp)) (size_of (by simp [stw_size, hs])) (by first | rfl | (rw [show ((stw A 24 ((x + 1) % 4294967296))).size = 30 from (by simp [stw_size, hs])]; rfl)) (one_stw ho _ _) ?_; have S5 := St.row (L1 := []) (b := ⟨g2, zeroA, 26⟩) S4 (stw A 24 ((x + 1) % 4294967296)); clear S4; generalize World.setRow _ _ _ = w6 at S5 ⊢))
    refine bodyPost_ret (results_cell_row rfl _ _ g2 26 (stw A 24 ((x + 1) % 4294967296)) (0, 0) _ rfl (S5.heap ⟨g2, (stw A 24 ((x + 1) % 4294967296)), 26⟩ (by simp)) Try.underlying26 rfl (size_of (by simp [stw_size, hs]))) rfl ?_
    exact ⟨rfl, S5.below⟩
  · by_cases hx : y ≤ (x + 1) % 4294967296
    · rw [if_pos ⟨hy, hx⟩]
      have hyb : (y != 0) = true := by simpa using hy
      have hxb : decide (y ≤ (x + 1) % 4294967296) = true := decide_eq_true hx
      clear hy hx
      go_enter Try.func11, Try.ntmps11
      go_wp2_with (first | ((with_reducible refine gate_dst (N := 1) rfl ?_); refine box_event ?hg (N := 1) ?hd (cs := A) (t := 26) ?hr ?_; (case hd => rfl); (case hg => rfl); (case hr => first | (go_simp; done) | (go_simp; rfl)); intro g1 hg w1 hbox hb; have S1 := S0.box hg hbox hb; clear hg hbox hb; clear S0) | ((with_reducible refine gate_dst (N := 2) rfl ?_); refine box_event ?hg (N := 2) ?hd (cs := zeroA) (t := 26) ?hr ?_; (case hd => rfl); (case hg => rfl); (case hr => first | (go_simp; done) | (go_simp; rfl)); intro g2 hg w2 hbox hb; have S2 := S1.box hg hbox hb; clear hg hbox hb; clear S1; have c24 := S2.cell (b := ⟨g1, A, 26⟩) (by simp) h24; have c25 := S2.cell (b := ⟨g1, A, 26⟩) (by simp) h25; have c27 := S2.cell (b := ⟨g1, A, 26⟩) (by simp) h27; have f24 := S2.frozen (b := ⟨g1, A, 26⟩) (by simp) 24; have f27 := S2.frozen (b := ⟨g1, A, 26⟩) (by simp) 27) | ((with_reducible refine gate_dst (N := 28) rfl ?_); have S4 := St.set (L1 := [⟨g2, zeroA, 26⟩]) (b := ⟨g1, (stw A 24 ((x + 1) % 4294967296)), 26⟩) (St.set (L1 := [⟨g2, zeroA, 26⟩]) (b := ⟨g1, A, 26⟩) (S2) 24 (.int .u32 ((x + 1) % 4294967296))) 27 (.int .u32 (Go.bits .or .u32 z 4)); clear S2 c24 c25 c27 f24 f27; refine wpList_load_row rfl 26 _ rfl g1 rfl 26 (stw (stw A 24 ((x + 1) % 4294967296)) 27 (Go.bits .or .u32 z 4)) (0, 0) _ (S4.heap ⟨g1, (stw (stw A 24 ((x + 1) % 4294967296)) 27 (Go.bits .or .u32 z 4)), 26⟩ (by simp [stw])) Try.underlying26 rfl (size_of (by simp [stw_size, hs])) ?_; generalize World.setCell _ _ _ = w5 at S4 ⊢) | ((with_reducible refine gate_store (t := 26) (p := 2) rfl ?_); refine wpList_store_row rfl 26 _ _ rfl g2 (stw (stw A 24 ((x + 1) % 4294967296)) 27 (Go.bits .or .u32 z 4)) rfl rfl 26 zeroA (S4.heap ⟨g2, zeroA, 26⟩ (by simp)) (size_of (by simp [stw_size, hs])) (by first | rfl | (rw [show ((stw (stw A 24 ((x + 1) % 4294967296)) 27 (Go.bits .or .u32 z 4))).size = 30 from (by simp [stw_size, hs])]; rfl)) (one_stw (one_stw ho _ _) _ _) ?_; have S5 := St.row (L1 := []) (b := ⟨g2, zeroA, 26⟩) S4 (stw (stw A 24 ((x + 1) % 4294967296)) 27 (Go.bits .or .u32 z 4)); clear S4; generalize World.setRow _ _ _ = w6 at S5 ⊢))
      refine bodyPost_ret (results_cell_row rfl _ _ g2 26 (stw (stw A 24 ((x + 1) % 4294967296)) 27 (Go.bits .or .u32 z 4)) (0, 0) _ rfl (S5.heap ⟨g2, (stw (stw A 24 ((x + 1) % 4294967296)) 27 (Go.bits .or .u32 z 4)), 26⟩ (by simp)) Try.underlying26 rfl (size_of (by simp [stw_size, hs]))) rfl ?_
      exact ⟨rfl, S5.below⟩
    · rw [if_neg (fun h => hx h.2)]
      have hyb : (y != 0) = true := by simpa using hy
      have hxb : decide (y ≤ (x + 1) % 4294967296) = false := decide_eq_false hx
      clear hy hx
      go_enter Try.func11, Try.ntmps11
      go_wp2_with (first | ((with_reducible refine gate_dst (N := 1) rfl ?_); refine box_event ?hg (N := 1) ?hd (cs := A) (t := 26) ?hr ?_; (case hd => rfl); (case hg => rfl); (case hr => first | (go_simp; done) | (go_simp; rfl)); intro g1 hg w1 hbox hb; have S1 := S0.box hg hbox hb; clear hg hbox hb; clear S0) | ((with_reducible refine gate_dst (N := 2) rfl ?_); refine box_event ?hg (N := 2) ?hd (cs := zeroA) (t := 26) ?hr ?_; (case hd => rfl); (case hg => rfl); (case hr => first | (go_simp; done) | (go_simp; rfl)); intro g2 hg w2 hbox hb; have S2 := S1.box hg hbox hb; clear hg hbox hb; clear S1; have c24 := S2.cell (b := ⟨g1, A, 26⟩) (by simp) h24; have c25 := S2.cell (b := ⟨g1, A, 26⟩) (by simp) h25; have c27 := S2.cell (b := ⟨g1, A, 26⟩) (by simp) h27; have f24 := S2.frozen (b := ⟨g1, A, 26⟩) (by simp) 24; have f27 := S2.frozen (b := ⟨g1, A, 26⟩) (by simp) 27) | ((with_reducible refine gate_dst (N := 28) rfl ?_); have S4 := St.set (L1 := [⟨g2, zeroA, 26⟩]) (b := ⟨g1, A, 26⟩) (S2) 24 (.int .u32 ((x + 1) % 4294967296)); clear S2 c24 c25 c27 f24 f27; refine wpList_load_row rfl 26 _ rfl g1 rfl 26 (stw A 24 ((x + 1) % 4294967296)) (0, 0) _ (S4.heap ⟨g1, (stw A 24 ((x + 1) % 4294967296)), 26⟩ (by simp [stw])) Try.underlying26 rfl (size_of (by simp [stw_size, hs])) ?_; generalize World.setCell _ _ _ = w5 at S4 ⊢) | ((with_reducible refine gate_store (t := 26) (p := 2) rfl ?_); refine wpList_store_row rfl 26 _ _ rfl g2 (stw A 24 ((x + 1) % 4294967296)) rfl rfl 26 zeroA (S4.heap ⟨g2, zeroA, 26⟩ (by simp)) (size_of (by simp [stw_size, hs])) (by first | rfl | (rw [show ((stw A 24 ((x + 1) % 4294967296))).size = 30 from (by simp [stw_size, hs])]; rfl)) (one_stw ho _ _) ?_; have S5 := St.row (L1 := []) (b := ⟨g2, zeroA, 26⟩) S4 (stw A 24 ((x + 1) % 4294967296)); clear S4; generalize World.setRow _ _ _ = w6 at S5 ⊢))
      refine bodyPost_ret (results_cell_row rfl _ _ g2 26 (stw A 24 ((x + 1) % 4294967296)) (0, 0) _ rfl (S5.heap ⟨g2, (stw A 24 ((x + 1) % 4294967296)), 26⟩ (by simp)) Try.underlying26 rfl (size_of (by simp [stw_size, hs]))) rfl ?_
      exact ⟨rfl, S5.below⟩

set_option maxHeartbeats 1000000 in
theorem rcount (A : Array Value) (hA : IsArch A) (w : World) :
    Calls Try.prog 12 #[.agg A] w fun e w' => e = .returned (.agg (cntA A)) ∧ Below w.heap.size w w' := by
  have hs := hA.size
  have ho := hA.one
  have h24 := hA.at 24 (by decide)
  have h25 := hA.at 25 (by decide)
  have h27 := hA.at 27 (by decide)
  have S0 := St.start w
  unfold cntA
  generalize wd A 24 = x at h24 ⊢
  generalize wd A 25 = y at h25 ⊢
  generalize wd A 27 = z at h27 ⊢
  by_cases hy : y = 0
  · rw [if_neg (fun h => h.1 hy)]
    have hyb : (y != 0) = false := by simpa using hy
    clear hy
    go_enter Try.func12, Try.ntmps12
    go_wp2_with (first | ((with_reducible refine gate_dst (N := 1) rfl ?_); refine box_event ?hg (N := 1) ?hd (cs := A) (t := 26) ?hr ?_; (case hd => rfl); (case hg => rfl); (case hr => first | (go_simp; done) | (go_simp; rfl)); intro g1 hg w1 hbox hb; have S1 := S0.box hg hbox hb; clear hg hbox hb; clear S0) | ((with_reducible refine gate_dst (N := 2) rfl ?_); refine box_event ?hg (N := 2) ?hd (cs := zeroA) (t := 26) ?hr ?_; (case hd => rfl); (case hg => rfl); (case hr => first | (go_simp; done) | (go_simp; rfl)); intro g2 hg w2 hbox hb; have S2 := S1.box hg hbox hb; clear hg hbox hb; clear S1; have c24 := S2.cell (b := ⟨g1, A, 26⟩) (by simp) h24; have c25 := S2.cell (b := ⟨g1, A, 26⟩) (by simp) h25; have c27 := S2.cell (b := ⟨g1, A, 26⟩) (by simp) h27; have f24 := S2.frozen (b := ⟨g1, A, 26⟩) (by simp) 24; have f27 := S2.frozen (b := ⟨g1, A, 26⟩) (by simp) 27) | ((with_reducible refine gate_dst (N := 28) rfl ?_); have S4 := St.set (L1 := [⟨g2, zeroA, 26⟩]) (b := ⟨g1, A, 26⟩) (S2) 24 (.int .u32 ((x + 1) % 4294967296)); clear S2 c24 c25 c27 f24 f27; refine wpList_load_row rfl 26 _ rfl g1 rfl 26 (stw A 24 ((x + 1) % 4294967296)) (0, 0) _ (S4.heap ⟨g1, (stw A 24 ((x + 1) % 4294967296)), 26⟩ (by simp [stw])) Try.underlying26 rfl (size_of (by simp [stw_size, hs])) ?_; generalize World.setCell _ _ _ = w5 at S4 ⊢) | ((with_reducible refine gate_store (t := 26) (p := 2) rfl ?_); refine wpList_store_row rfl 26 _ _ rfl g2 (stw A 24 ((x + 1) % 4294967296)) rfl rfl 26 zeroA (S4.heap ⟨g2, zeroA, 26⟩ (by simp)) (size_of (by simp [stw_size, hs])) (by first | rfl | (rw [show ((stw A 24 ((x + 1) % 4294967296))).size = 30 from (by simp [stw_size, hs])]; rfl)) (one_stw ho _ _) ?_; have S5 := St.row (L1 := []) (b := ⟨g2, zeroA, 26⟩) S4 (stw A 24 ((x + 1) % 4294967296)); clear S4; generalize World.setRow _ _ _ = w6 at S5 ⊢))
    refine bodyPost_ret (results_cell_row rfl _ _ g2 26 (stw A 24 ((x + 1) % 4294967296)) (0, 0) _ rfl (S5.heap ⟨g2, (stw A 24 ((x + 1) % 4294967296)), 26⟩ (by simp)) Try.underlying26 rfl (size_of (by simp [stw_size, hs]))) rfl ?_
    exact ⟨rfl, S5.below⟩
  · by_cases hx : y ≤ (x + 1) % 4294967296
    · rw [if_pos ⟨hy, hx⟩]
      have hyb : (y != 0) = true := by simpa using hy
      have hxb : decide (y ≤ (x + 1) % 4294967296) = true := decide_eq_true hx
      clear hy hx
      go_enter Try.func12, Try.ntmps12
      go_wp2_with (first | ((with_reducible refine gate_dst (N := 1) rfl ?_); refine box_event ?hg (N := 1) ?hd (cs := A) (t := 26) ?hr ?_; (case hd => rfl); (case hg => rfl); (case hr => first | (go_simp; done) | (go_simp; rfl)); intro g1 hg w1 hbox hb; have S1 := S0.box hg hbox hb; clear hg hbox hb; clear S0) | ((with_reducible refine gate_dst (N := 2) rfl ?_); refine box_event ?hg (N := 2) ?hd (cs := zeroA) (t := 26) ?hr ?_; (case hd => rfl); (case hg => rfl); (case hr => first | (go_simp; done) | (go_simp; rfl)); intro g2 hg w2 hbox hb; have S2 := S1.box hg hbox hb; clear hg hbox hb; clear S1; have c24 := S2.cell (b := ⟨g1, A, 26⟩) (by simp) h24; have c25 := S2.cell (b := ⟨g1, A, 26⟩) (by simp) h25; have c27 := S2.cell (b := ⟨g1, A, 26⟩) (by simp) h27; have f24 := S2.frozen (b := ⟨g1, A, 26⟩) (by simp) 24; have f27 := S2.frozen (b := ⟨g1, A, 26⟩) (by simp) 27) | ((with_reducible refine gate_dst (N := 28) rfl ?_); have S4 := St.set (L1 := [⟨g2, zeroA, 26⟩]) (b := ⟨g1, (stw A 24 ((x + 1) % 4294967296)), 26⟩) (St.set (L1 := [⟨g2, zeroA, 26⟩]) (b := ⟨g1, A, 26⟩) (S2) 24 (.int .u32 ((x + 1) % 4294967296))) 27 (.int .u32 (Go.bits .or .u32 z 4)); clear S2 c24 c25 c27 f24 f27; refine wpList_load_row rfl 26 _ rfl g1 rfl 26 (stw (stw A 24 ((x + 1) % 4294967296)) 27 (Go.bits .or .u32 z 4)) (0, 0) _ (S4.heap ⟨g1, (stw (stw A 24 ((x + 1) % 4294967296)) 27 (Go.bits .or .u32 z 4)), 26⟩ (by simp [stw])) Try.underlying26 rfl (size_of (by simp [stw_size, hs])) ?_; generalize World.setCell _ _ _ = w5 at S4 ⊢) | ((with_reducible refine gate_store (t := 26) (p := 2) rfl ?_); refine wpList_store_row rfl 26 _ _ rfl g2 (stw (stw A 24 ((x + 1) % 4294967296)) 27 (Go.bits .or .u32 z 4)) rfl rfl 26 zeroA (S4.heap ⟨g2, zeroA, 26⟩ (by simp)) (size_of (by simp [stw_size, hs])) (by first | rfl | (rw [show ((stw (stw A 24 ((x + 1) % 4294967296)) 27 (Go.bits .or .u32 z 4))).size = 30 from (by simp [stw_size, hs])]; rfl)) (one_stw (one_stw ho _ _) _ _) ?_; have S5 := St.row (L1 := []) (b := ⟨g2, zeroA, 26⟩) S4 (stw (stw A 24 ((x + 1) % 4294967296)) 27 (Go.bits .or .u32 z 4)); clear S4; generalize World.setRow _ _ _ = w6 at S5 ⊢))
      refine bodyPost_ret (results_cell_row rfl _ _ g2 26 (stw (stw A 24 ((x + 1) % 4294967296)) 27 (Go.bits .or .u32 z 4)) (0, 0) _ rfl (S5.heap ⟨g2, (stw (stw A 24 ((x + 1) % 4294967296)) 27 (Go.bits .or .u32 z 4)), 26⟩ (by simp)) Try.underlying26 rfl (size_of (by simp [stw_size, hs]))) rfl ?_
      exact ⟨rfl, S5.below⟩
    · rw [if_neg (fun h => hx h.2)]
      have hyb : (y != 0) = true := by simpa using hy
      have hxb : decide (y ≤ (x + 1) % 4294967296) = false := decide_eq_false hx
      clear hy hx
      go_enter Try.func12, Try.ntmps12
      go_wp2_with (first | ((with_reducible refine gate_dst (N := 1) rfl ?_); refine box_event ?hg (N := 1) ?hd (cs := A) (t := 26) ?hr ?_; (case hd => rfl); (case hg => rfl); (case hr => first | (go_simp; done) | (go_simp; rfl)); intro g1 hg w1 hbox hb; have S1 := S0.box hg hbox hb; clear hg hbox hb; clear S0) | ((with_reducible refine gate_dst (N := 2) rfl ?_); refine box_event ?hg (N := 2) ?hd (cs := zeroA) (t := 26) ?hr ?_; (case hd => rfl); (case hg => rfl); (case hr => first | (go_simp; done) | (go_simp; rfl)); intro g2 hg w2 hbox hb; have S2 := S1.box hg hbox hb; clear hg hbox hb; clear S1; have c24 := S2.cell (b := ⟨g1, A, 26⟩) (by simp) h24; have c25 := S2.cell (b := ⟨g1, A, 26⟩) (by simp) h25; have c27 := S2.cell (b := ⟨g1, A, 26⟩) (by simp) h27; have f24 := S2.frozen (b := ⟨g1, A, 26⟩) (by simp) 24; have f27 := S2.frozen (b := ⟨g1, A, 26⟩) (by simp) 27) | ((with_reducible refine gate_dst (N := 28) rfl ?_); have S4 := St.set (L1 := [⟨g2, zeroA, 26⟩]) (b := ⟨g1, A, 26⟩) (S2) 24 (.int .u32 ((x + 1) % 4294967296)); clear S2 c24 c25 c27 f24 f27; refine wpList_load_row rfl 26 _ rfl g1 rfl 26 (stw A 24 ((x + 1) % 4294967296)) (0, 0) _ (S4.heap ⟨g1, (stw A 24 ((x + 1) % 4294967296)), 26⟩ (by simp [stw])) Try.underlying26 rfl (size_of (by simp [stw_size, hs])) ?_; generalize World.setCell _ _ _ = w5 at S4 ⊢) | ((with_reducible refine gate_store (t := 26) (p := 2) rfl ?_); refine wpList_store_row rfl 26 _ _ rfl g2 (stw A 24 ((x + 1) % 4294967296)) rfl rfl 26 zeroA (S4.heap ⟨g2, zeroA, 26⟩ (by simp)) (size_of (by simp [stw_size, hs])) (by first | rfl | (rw [show ((stw A 24 ((x + 1) % 4294967296))).size = 30 from (by simp [stw_size, hs])]; rfl)) (one_stw ho _ _) ?_; have S5 := St.row (L1 := []) (b := ⟨g2, zeroA, 26⟩) S4 (stw A 24 ((x + 1) % 4294967296)); clear S4; generalize World.setRow _ _ _ = w6 at S5 ⊢))
      refine bodyPost_ret (results_cell_row rfl _ _ g2 26 (stw A 24 ((x + 1) % 4294967296)) (0, 0) _ rfl (S5.heap ⟨g2, (stw A 24 ((x + 1) % 4294967296)), 26⟩ (by simp)) Try.underlying26 rfl (size_of (by simp [stw_size, hs]))) rfl ?_
      exact ⟨rfl, S5.below⟩

/-- A core at which lines rise. -/
def rsA (A : Array Value) (l : Int) : Array Value := stw A 27 (Go.bits .or .u32 (wd A 27) (Go.bits .and .u32 l 7))
theorem low3 {l : Int} (h0 : 0 ≤ l) (h1 : l < 4294967296) : Int.tmod l 8 = Go.bits .and .u32 l 7 := by
  obtain ⟨n, rfl⟩ := nat_of h0
  have := and32_mask n 3 (by omega) (by decide)
  rw [show (((2 ^ 3 - 1 : Nat)) : Int) = 7 from rfl] at this
  rw [this, Int.tmod_eq_emod_of_nonneg (by omega)]
  omega
theorem low3' {l : Int} (h0 : 0 ≤ l) (h1 : l < 4294967296) : l % 8 = Go.bits .and .u32 l 7 := by
  rw [← low3 h0 h1, Int.tmod_eq_emod_of_nonneg h0]

set_option maxHeartbeats 1000000 in
theorem raise (A : Array Value) (hA : IsArch A) (l : Int) (hl0 : 0 ≤ l) (hl1 : l < 4294967296) (w : World) :
    Calls Try.prog 13 #[.agg A, .int .u32 l] w fun e w' => e = .returned (.agg (rsA A l)) ∧ Below w.heap.size w w' := by
  have hs := hA.size
  have ho := hA.one
  have h27 := hA.at 27 (by decide)
  have S0 := St.start w
  unfold rsA
  skip
  generalize wd A 27 = z at h27 ⊢
  go_enter Try.func13, Try.ntmps13
  go_wp2_with (first | ((with_reducible refine gate_dst (N := 2) rfl ?_); refine box_event ?hg (N := 2) ?hd (cs := A) (t := 26) ?hr ?_; (case hd => rfl); (case hg => rfl); (case hr => first | (go_simp; done) | (go_simp; rfl)); intro g1 hg w1 hbox hb; have S1 := S0.box hg hbox hb; clear hg hbox hb; clear S0) | ((with_reducible refine gate_dst (N := 4) rfl ?_); refine box_event ?hg (N := 4) ?hd (cs := zeroA) (t := 26) ?hr ?_; (case hd => rfl); (case hg => rfl); (case hr => first | (go_simp; done) | (go_simp; rfl)); intro g2 hg w2 hbox hb; have S2 := S1.box hg hbox hb; clear hg hbox hb; clear S1; have c27 := S2.cell (b := ⟨g1, A, 26⟩) (by simp) h27; have f27 := S2.frozen (b := ⟨g1, A, 26⟩) (by simp) 27) | ((with_reducible refine gate_dst (N := 13) rfl ?_); have S4 := St.set (L1 := [⟨g2, zeroA, 26⟩]) (b := ⟨g1, A, 26⟩) (S2) 27 (.int .u32 (Go.bits .or .u32 z (Go.bits .and .u32 l 7))); clear S2 c27 f27; refine wpList_load_row rfl 26 _ rfl g1 rfl 26 (stw A 27 (Go.bits .or .u32 z (Go.bits .and .u32 l 7))) (0, 0) _ (S4.heap ⟨g1, (stw A 27 (Go.bits .or .u32 z (Go.bits .and .u32 l 7))), 26⟩ (by simp [stw])) Try.underlying26 rfl (size_of (by simp [stw_size, hs])) ?_; generalize World.setCell _ _ _ = w5 at S4 ⊢) | ((with_reducible refine gate_store (t := 26) (p := 4) rfl ?_); refine wpList_store_row rfl 26 _ _ rfl g2 (stw A 27 (Go.bits .or .u32 z (Go.bits .and .u32 l 7))) rfl rfl 26 zeroA (S4.heap ⟨g2, zeroA, 26⟩ (by simp)) (size_of (by simp [stw_size, hs])) (by first | rfl | (rw [show ((stw A 27 (Go.bits .or .u32 z (Go.bits .and .u32 l 7)))).size = 30 from (by simp [stw_size, hs])]; rfl)) (one_stw ho _ _) ?_; have S5 := St.row (L1 := []) (b := ⟨g2, zeroA, 26⟩) S4 (stw A 27 (Go.bits .or .u32 z (Go.bits .and .u32 l 7))); clear S4; generalize World.setRow _ _ _ = w6 at S5 ⊢))
  refine bodyPost_ret (results_cell_row rfl _ _ g2 26 (stw A 27 (Go.bits .or .u32 z (Go.bits .and .u32 l 7))) (0, 0) _ rfl (S5.heap ⟨g2, (stw A 27 (Go.bits .or .u32 z (Go.bits .and .u32 l 7))), 26⟩ (by simp)) Try.underlying26 rfl (size_of (by simp [stw_size, hs]))) rfl ?_
  exact ⟨rfl, S5.below⟩

set_option maxHeartbeats 1000000 in
theorem rraise (A : Array Value) (hA : IsArch A) (l : Int) (hl0 : 0 ≤ l) (hl1 : l < 4294967296) (w : World) :
    Calls Try.prog 14 #[.agg A, .int .u32 l] w fun e w' => e = .returned (.agg (rsA A l)) ∧ Below w.heap.size w w' := by
  have hs := hA.size
  have ho := hA.one
  have h27 := hA.at 27 (by decide)
  have S0 := St.start w
  unfold rsA
  rw [← low3' hl0 hl1]
  generalize wd A 27 = z at h27 ⊢
  go_enter Try.func14, Try.ntmps14
  go_wp2_with (first | ((with_reducible refine gate_dst (N := 2) rfl ?_); refine box_event ?hg (N := 2) ?hd (cs := A) (t := 26) ?hr ?_; (case hd => rfl); (case hg => rfl); (case hr => first | (go_simp; done) | (go_simp; rfl)); intro g1 hg w1 hbox hb; have S1 := S0.box hg hbox hb; clear hg hbox hb; clear S0) | ((with_reducible refine gate_dst (N := 4) rfl ?_); refine box_event ?hg (N := 4) ?hd (cs := zeroA) (t := 26) ?hr ?_; (case hd => rfl); (case hg => rfl); (case hr => first | (go_simp; done) | (go_simp; rfl)); intro g2 hg w2 hbox hb; have S2 := S1.box hg hbox hb; clear hg hbox hb; clear S1; have c27 := S2.cell (b := ⟨g1, A, 26⟩) (by simp) h27; have f27 := S2.frozen (b := ⟨g1, A, 26⟩) (by simp) 27) | ((with_reducible refine gate_dst (N := 13) rfl ?_); have S4 := St.set (L1 := [⟨g2, zeroA, 26⟩]) (b := ⟨g1, A, 26⟩) (S2) 27 (.int .u32 (Go.bits .or .u32 z (l % 8))); clear S2 c27 f27; refine wpList_load_row rfl 26 _ rfl g1 rfl 26 (stw A 27 (Go.bits .or .u32 z (l % 8))) (0, 0) _ (S4.heap ⟨g1, (stw A 27 (Go.bits .or .u32 z (l % 8))), 26⟩ (by simp [stw])) Try.underlying26 rfl (size_of (by simp [stw_size, hs])) ?_; generalize World.setCell _ _ _ = w5 at S4 ⊢) | ((with_reducible refine gate_store (t := 26) (p := 4) rfl ?_); refine wpList_store_row rfl 26 _ _ rfl g2 (stw A 27 (Go.bits .or .u32 z (l % 8))) rfl rfl 26 zeroA (S4.heap ⟨g2, zeroA, 26⟩ (by simp)) (size_of (by simp [stw_size, hs])) (by first | rfl | (rw [show ((stw A 27 (Go.bits .or .u32 z (l % 8)))).size = 30 from (by simp [stw_size, hs])]; rfl)) (one_stw ho _ _) ?_; have S5 := St.row (L1 := []) (b := ⟨g2, zeroA, 26⟩) S4 (stw A 27 (Go.bits .or .u32 z (l % 8))); clear S4; generalize World.setRow _ _ _ = w6 at S5 ⊢))
  refine bodyPost_ret (results_cell_row rfl _ _ g2 26 (stw A 27 (Go.bits .or .u32 z (l % 8))) (0, 0) _ rfl (S5.heap ⟨g2, (stw A 27 (Go.bits .or .u32 z (l % 8))), 26⟩ (by simp)) Try.underlying26 rfl (size_of (by simp [stw_size, hs]))) rfl ?_
  exact ⟨rfl, S5.below⟩

theorem kb_odd {A : Array Value} (hA : IsArch A) : kb A = (wd A 17 % 2 == 1) := by
  obtain ⟨h0, h1⟩ := hA.lo 17 (by decide)
  unfold kb
  obtain ⟨n, hn⟩ := nat_of h0
  rw [hn] at h1 ⊢
  rw [and32_one n (by omega), Bool.eq_iff_iff]
  simp only [bne_iff_ne, beq_iff_eq]
  omega
set_option maxHeartbeats 400000 in
theorem rkernel (A : Array Value) (hA : IsArch A) (w : World) :
    Calls Try.prog 19 #[.agg A] w fun e w' => e = .returned (.bool (kb A)) ∧ Below w.heap.size w w' := by
  have hs := hA.size
  have h17 : A[17]'(by omega) = .int .u32 (wd A 17) := by have := hA.at 17 (by decide); rw [Array.getElem?_eq_getElem (by omega)] at this; exact Option.some.inj this
  have hx := (hA.lo 17 (by decide)).1
  rw [kb_odd hA]
  go_enter Try.func19, Try.ntmps19
  go_wp2
  go_ret
  exact ⟨rfl, (Below.refl _ _).alloc (Nat.le_refl _) _⟩
set_option maxHeartbeats 4000000 in
theorem rmasked_same (n : Int) (w : World) :
    Calls Try.prog 21 #[.int .i64 n] w fun e w' => e = .returned (.int .u32 (mk n)) ∧ w' = w := by
  by_cases h0 : n < 0
  · have e : mk n = 0 := by unfold mk; rw [if_pos h0]
    have e0 : (n == 0) = false := by rw [beq_eq_false_iff_ne]; omega
    have e1 : (n == 1) = false := by rw [beq_eq_false_iff_ne]; omega
    have e9 : (n == 9) = false := by rw [beq_eq_false_iff_ne]; omega
    have e10 : (n == 10) = false := by rw [beq_eq_false_iff_ne]; omega
    have e5 : (n == 5) = false := by rw [beq_eq_false_iff_ne]; omega
    rw [e]
    clear e
    go_enter Try.func21, Try.ntmps21
    go_wp2
    go_ret
    exact ⟨rfl, rfl⟩
  · by_cases h1 : n ≥ 12
    · have e : mk n = 0 := by unfold mk; rw [if_neg h0, if_pos h1]
      have e0 : (n == 0) = false := by rw [beq_eq_false_iff_ne]; omega
      have e1 : (n == 1) = false := by rw [beq_eq_false_iff_ne]; omega
      have e9 : (n == 9) = false := by rw [beq_eq_false_iff_ne]; omega
      have e10 : (n == 10) = false := by rw [beq_eq_false_iff_ne]; omega
      have e5 : (n == 5) = false := by rw [beq_eq_false_iff_ne]; omega
      have h2 : 11 < n := by omega
      rw [e]
      clear e
      go_enter Try.func21, Try.ntmps21
      go_wp2
      go_ret
      exact ⟨rfl, rfl⟩
    · rcases twelve (by omega) (show n < 12 by omega) with rfl | rfl | rfl | rfl | rfl | rfl | rfl | rfl | rfl | rfl | rfl | rfl
      all_goals
        clear h0 h1
        go_enter Try.func21, Try.ntmps21
        go_wp2
        go_ret
        exact ⟨rfl, rfl⟩
theorem rmasked (n : Int) (w : World) : Calls Try.prog 21 #[.int .i64 n] w fun e w' => e = .returned (.int .u32 (mk n)) ∧ Below w.heap.size w w' :=
  (rmasked_same n w).mono fun e w' ⟨h, h'⟩ => ⟨h, h' ▸ Below.refl _ _⟩

end Go.Proofs.Ytgegpppoimeliaa.Csr
