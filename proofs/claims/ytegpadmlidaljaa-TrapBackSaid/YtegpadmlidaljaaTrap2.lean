/- What trap.Take, trap.Return and the document's come to, over a core's cells: walks of the code. The one condition is that the cells are a core's. -/
import Derived.Test.YtegpadmlidaljaaTrap1
namespace Go.Proofs.Ytegpadmlidaljaa.Csr
open Go Go.Proofs Go.RowKit Go.Proofs.YtegpadmlidaljaaW.PrintWords Go.Proofs.YtegpadmlidaljaaW.PrintLast Go.Proofs.YtegpadmlidaljaaW.PrintMore Go.Proofs.Ytegpadmlidaljaa.Boxes Go.Proofs.Ytegpadmlidaljaa.Arch Go.Proofs.Ytegpadmlidaljaa.Plain Go.Proofs.Ytegpadmlidaljaa.TrapP
set_option linter.unusedVariables false
set_option linter.unusedSimpArgs false

/-- A core behind a trap. -/
def takeA (A : Array Value) (c v e : Int) : Array Value := stw (stw (stw (stw (stw A 18 (Go.bits .and .u32 (c % 4294967296) 31)) 19 v) 20 e) 17 (stT (wd A 17))) 0 (wd A 21)

set_option maxHeartbeats 4000000 in
theorem take (A : Array Value) (hA : IsArch A) (c v ep : Int) (w : World) :
    Calls Try.prog 7 #[.agg A, .int .i64 c, .int .u32 v, .int .u32 ep] w fun e w' => e = .returned (.agg (takeA A c v ep)) ∧ Below w.heap.size w w' := by
  have hs := hA.size
  have ho := hA.one
  have h0 := hA.at 0 (by decide)
  have h17 := hA.at 17 (by decide)
  have h18 := hA.at 18 (by decide)
  have h19 := hA.at 19 (by decide)
  have h20 := hA.at 20 (by decide)
  have h21 := hA.at 21 (by decide)
  have S0 := St.start w
  unfold takeA stT
  generalize wd A 17 = x at h17 ⊢
  generalize wd A 21 = y at h21 ⊢
  generalize wd A 0 = z0 at h0
  generalize wd A 18 = z18 at h18
  generalize wd A 19 = z19 at h19
  generalize wd A 20 = z20 at h20
  go_enter Try.func7, Try.ntmps7
  go_wp2_with (first | ((with_reducible refine gate_dst (N := 4) rfl ?_); refine box_event ?hg (N := 4) ?hd (cs := A) (t := 26) ?hr ?_; (case hd => rfl); (case hg => rfl); (case hr => first | (go_simp; done) | (go_simp; rfl)); intro g1 hg w1 hbox hb; have S1 := S0.box hg hbox hb; clear hg hbox hb; clear S0) | ((with_reducible refine gate_dst (N := 8) rfl ?_); refine box_event ?hg (N := 8) ?hd (cs := zeroA) (t := 26) ?hr ?_; (case hd => rfl); (case hg => rfl); (case hr => first | (go_simp; done) | (go_simp; rfl)); intro g2 hg w2 hbox hb; have S2 := S1.box hg hbox hb; clear hg hbox hb; clear S1) | (go_at_call 19; (with_reducible refine (masked 1 _).mono ?_); rw [show mk 1 = 31 from rfl]; rintro e w3 ⟨rfl, hb⟩; have S3 := S2.call hb; clear hb; clear S2; have c0 := S3.cell (b := ⟨g1, A, 26⟩) (by simp) h0; have c17 := S3.cell (b := ⟨g1, A, 26⟩) (by simp) h17; have c18 := S3.cell (b := ⟨g1, A, 26⟩) (by simp) h18; have c19 := S3.cell (b := ⟨g1, A, 26⟩) (by simp) h19; have c20 := S3.cell (b := ⟨g1, A, 26⟩) (by simp) h20; have c21 := S3.cell (b := ⟨g1, A, 26⟩) (by simp) h21; have f0 := S3.frozen (b := ⟨g1, A, 26⟩) (by simp) 0; have f17 := S3.frozen (b := ⟨g1, A, 26⟩) (by simp) 17; have f18 := S3.frozen (b := ⟨g1, A, 26⟩) (by simp) 18; have f19 := S3.frozen (b := ⟨g1, A, 26⟩) (by simp) 19; have f20 := S3.frozen (b := ⟨g1, A, 26⟩) (by simp) 20; have f21 := S3.frozen (b := ⟨g1, A, 26⟩) (by simp) 21) | (go_at_call 20; (with_reducible refine (moved _ _ _ _).mono ?_); rintro e_ w_ ⟨rfl, rfl⟩) | ((with_reducible refine gate_dst (N := 37) rfl ?_); have S4 := St.set (L1 := [⟨g2, zeroA, 26⟩]) (b := ⟨g1, (stw (stw (stw (stw A 18 (Go.bits .and .u32 (c % 4294967296) 31)) 19 (v)) 20 (ep)) 17 (Go.bits .andNot .u32 (Go.bits .or .u32 (mv (mv x 1 4) 2 8) 1) 2)), 26⟩) (St.set (L1 := [⟨g2, zeroA, 26⟩]) (b := ⟨g1, (stw (stw (stw A 18 (Go.bits .and .u32 (c % 4294967296) 31)) 19 (v)) 20 (ep)), 26⟩) (St.set (L1 := [⟨g2, zeroA, 26⟩]) (b := ⟨g1, (stw (stw A 18 (Go.bits .and .u32 (c % 4294967296) 31)) 19 (v)), 26⟩) (St.set (L1 := [⟨g2, zeroA, 26⟩]) (b := ⟨g1, (stw A 18 (Go.bits .and .u32 (c % 4294967296) 31)), 26⟩) (St.set (L1 := [⟨g2, zeroA, 26⟩]) (b := ⟨g1, A, 26⟩) (S3) 18 (.int .u32 (Go.bits .and .u32 (c % 4294967296) 31))) 19 (.int .u32 (v))) 20 (.int .u32 (ep))) 17 (.int .u32 (Go.bits .andNot .u32 (Go.bits .or .u32 (mv (mv x 1 4) 2 8) 1) 2))) 0 (.int .u32 (y)); clear S3 c0 f0 c17 f17 c18 f18 c19 f19 c20 f20 c21 f21; refine wpList_load_row rfl 26 _ rfl g1 rfl 26 (stw (stw (stw (stw (stw A 18 (Go.bits .and .u32 (c % 4294967296) 31)) 19 (v)) 20 (ep)) 17 (Go.bits .andNot .u32 (Go.bits .or .u32 (mv (mv x 1 4) 2 8) 1) 2)) 0 (y)) (0, 0) _ (S4.heap ⟨g1, (stw (stw (stw (stw (stw A 18 (Go.bits .and .u32 (c % 4294967296) 31)) 19 (v)) 20 (ep)) 17 (Go.bits .andNot .u32 (Go.bits .or .u32 (mv (mv x 1 4) 2 8) 1) 2)) 0 (y)), 26⟩ (by simp [stw])) Try.underlying26 rfl (size_of (by simp [stw_size, hs])) ?_; generalize World.setCell _ _ _ = w4 at S4 ⊢) | ((with_reducible refine gate_store (t := 26) (p := 8) rfl ?_); refine wpList_store_row rfl 26 _ _ rfl g2 (stw (stw (stw (stw (stw A 18 (Go.bits .and .u32 (c % 4294967296) 31)) 19 (v)) 20 (ep)) 17 (Go.bits .andNot .u32 (Go.bits .or .u32 (mv (mv x 1 4) 2 8) 1) 2)) 0 (y)) rfl rfl 26 zeroA (S4.heap ⟨g2, zeroA, 26⟩ (by simp)) (size_of (by simp [stw_size, hs])) (by simp [stw_size, hs]; rfl) (one_stw (one_stw (one_stw (one_stw (one_stw (ho) _ _) _ _) _ _) _ _) _ _) ?_; have S5 : St w _ [⟨g2, (stw (stw (stw (stw (stw A 18 (Go.bits .and .u32 (c % 4294967296) 31)) 19 (v)) 20 (ep)) 17 (Go.bits .andNot .u32 (Go.bits .or .u32 (mv (mv x 1 4) 2 8) 1) 2)) 0 (y)), 26⟩, ⟨g1, (stw (stw (stw (stw (stw A 18 (Go.bits .and .u32 (c % 4294967296) 31)) 19 (v)) 20 (ep)) 17 (Go.bits .andNot .u32 (Go.bits .or .u32 (mv (mv x 1 4) 2 8) 1) 2)) 0 (y)), 26⟩] := St.row (L1 := []) (b := ⟨g2, zeroA, 26⟩) S4 (stw (stw (stw (stw (stw A 18 (Go.bits .and .u32 (c % 4294967296) 31)) 19 (v)) 20 (ep)) 17 (Go.bits .andNot .u32 (Go.bits .or .u32 (mv (mv x 1 4) 2 8) 1) 2)) 0 (y)); clear S4; generalize World.setRow _ _ _ = w5 at S5 ⊢))
  refine bodyPost_ret (results_cell_row rfl _ _ g2 26 (stw (stw (stw (stw (stw A 18 (Go.bits .and .u32 (c % 4294967296) 31)) 19 (v)) 20 (ep)) 17 (Go.bits .andNot .u32 (Go.bits .or .u32 (mv (mv x 1 4) 2 8) 1) 2)) 0 (y)) (0, 0) _ rfl (S5.heap ⟨g2, (stw (stw (stw (stw (stw A 18 (Go.bits .and .u32 (c % 4294967296) 31)) 19 (v)) 20 (ep)) 17 (Go.bits .andNot .u32 (Go.bits .or .u32 (mv (mv x 1 4) 2 8) 1) 2)) 0 (y)), 26⟩ (by simp)) Try.underlying26 rfl (size_of (by simp [stw_size, hs]))) rfl ?_
  exact ⟨rfl, S5.below⟩

def rtakeA (A : Array Value) (c v e : Int) : Array Value := stw (stw (stw (stw (stw A 17 (rT (wd A 17))) 18 (Go.bits .and .u32 (c % 4294967296) 31)) 19 v) 20 e) 0 (wd A 21)

set_option maxHeartbeats 4000000 in
theorem rtake0 (A : Array Value) (hA : IsArch A) (c v ep : Int) (w : World) :
    Calls Try.prog 8 #[.agg A, .int .i64 c, .int .u32 v, .int .u32 ep] w fun e w' => e = .returned (.agg (rtakeA A c v ep)) ∧ Below w.heap.size w w' := by
  have hs := hA.size
  have ho := hA.one
  have h0 := hA.at 0 (by decide)
  have h17 := hA.at 17 (by decide)
  have h18 := hA.at 18 (by decide)
  have h19 := hA.at 19 (by decide)
  have h20 := hA.at 20 (by decide)
  have h21 := hA.at 21 (by decide)
  have S0 := St.start w
  unfold rtakeA rT
  generalize wd A 17 = x at h17 ⊢
  generalize wd A 21 = y at h21 ⊢
  generalize wd A 0 = z0 at h0
  generalize wd A 18 = z18 at h18
  generalize wd A 19 = z19 at h19
  generalize wd A 20 = z20 at h20
  have hcv : IntKind.u64.wrap c % 4294967296 = c % 4294967296 := by rw [wrap_u64]; exact Int.emod_emod_of_dvd c (by decide)
  go_enter Try.func8, Try.ntmps8
  go_wp2_with (first | ((with_reducible refine gate_dst (N := 4) rfl ?_); refine box_event ?hg (N := 4) ?hd (cs := A) (t := 26) ?hr ?_; (case hd => rfl); (case hg => rfl); (case hr => first | (go_simp; done) | (go_simp; rfl)); intro g1 hg w1 hbox hb; have S1 := S0.box hg hbox hb; clear hg hbox hb; clear S0) | ((with_reducible refine gate_dst (N := 8) rfl ?_); refine box_event ?hg (N := 8) ?hd (cs := zeroA) (t := 26) ?hr ?_; (case hd => rfl); (case hg => rfl); (case hr => first | (go_simp; done) | (go_simp; rfl)); intro g2 hg w2 hbox hb; have S2 := S1.box hg hbox hb; clear hg hbox hb; clear S1; have c0 := S2.cell (b := ⟨g1, A, 26⟩) (by simp) h0; have c17 := S2.cell (b := ⟨g1, A, 26⟩) (by simp) h17; have c18 := S2.cell (b := ⟨g1, A, 26⟩) (by simp) h18; have c19 := S2.cell (b := ⟨g1, A, 26⟩) (by simp) h19; have c20 := S2.cell (b := ⟨g1, A, 26⟩) (by simp) h20; have c21 := S2.cell (b := ⟨g1, A, 26⟩) (by simp) h21; have f0 := S2.frozen (b := ⟨g1, A, 26⟩) (by simp) 0; have f17 := S2.frozen (b := ⟨g1, A, 26⟩) (by simp) 17; have f18 := S2.frozen (b := ⟨g1, A, 26⟩) (by simp) 18; have f19 := S2.frozen (b := ⟨g1, A, 26⟩) (by simp) 19; have f20 := S2.frozen (b := ⟨g1, A, 26⟩) (by simp) 20; have f21 := S2.frozen (b := ⟨g1, A, 26⟩) (by simp) 21) | (go_at_call 22; (with_reducible refine (rmasked_same 1 _).mono ?_); rw [show mk 1 = 31 from rfl]; rintro e_ w_ ⟨rfl, rfl⟩) | (go_at_call 21; (with_reducible refine (put _ _ _ _).mono ?_); rintro e_ w_ ⟨rfl, rfl⟩) | ((with_reducible refine gate_dst (N := 48) rfl ?_); have S4 := St.set (L1 := [⟨g2, zeroA, 26⟩]) (b := ⟨g1, (stw (stw (stw (stw A 17 (pt (pt (pt (pt x 4 (Go.bits .and .u32 x 1 != 0)) 8 (Go.bits .and .u32 x 2 != 0)) 1 true) 2 false)) 18 (Go.bits .and .u32 (c % 4294967296) 31)) 19 (v)) 20 (ep)), 26⟩) (St.set (L1 := [⟨g2, zeroA, 26⟩]) (b := ⟨g1, (stw (stw (stw A 17 (pt (pt (pt (pt x 4 (Go.bits .and .u32 x 1 != 0)) 8 (Go.bits .and .u32 x 2 != 0)) 1 true) 2 false)) 18 (Go.bits .and .u32 (c % 4294967296) 31)) 19 (v)), 26⟩) (St.set (L1 := [⟨g2, zeroA, 26⟩]) (b := ⟨g1, (stw (stw A 17 (pt (pt (pt (pt x 4 (Go.bits .and .u32 x 1 != 0)) 8 (Go.bits .and .u32 x 2 != 0)) 1 true) 2 false)) 18 (Go.bits .and .u32 (c % 4294967296) 31)), 26⟩) (St.set (L1 := [⟨g2, zeroA, 26⟩]) (b := ⟨g1, (stw A 17 (pt (pt (pt (pt x 4 (Go.bits .and .u32 x 1 != 0)) 8 (Go.bits .and .u32 x 2 != 0)) 1 true) 2 false)), 26⟩) (St.set (L1 := [⟨g2, zeroA, 26⟩]) (b := ⟨g1, A, 26⟩) (S2) 17 (.int .u32 (pt (pt (pt (pt x 4 (Go.bits .and .u32 x 1 != 0)) 8 (Go.bits .and .u32 x 2 != 0)) 1 true) 2 false))) 18 (.int .u32 (Go.bits .and .u32 (c % 4294967296) 31))) 19 (.int .u32 (v))) 20 (.int .u32 (ep))) 0 (.int .u32 (y)); clear S2 c0 f0 c17 f17 c18 f18 c19 f19 c20 f20 c21 f21; refine wpList_load_row rfl 26 _ rfl g1 rfl 26 (stw (stw (stw (stw (stw A 17 (pt (pt (pt (pt x 4 (Go.bits .and .u32 x 1 != 0)) 8 (Go.bits .and .u32 x 2 != 0)) 1 true) 2 false)) 18 (Go.bits .and .u32 (c % 4294967296) 31)) 19 (v)) 20 (ep)) 0 (y)) (0, 0) _ (S4.heap ⟨g1, (stw (stw (stw (stw (stw A 17 (pt (pt (pt (pt x 4 (Go.bits .and .u32 x 1 != 0)) 8 (Go.bits .and .u32 x 2 != 0)) 1 true) 2 false)) 18 (Go.bits .and .u32 (c % 4294967296) 31)) 19 (v)) 20 (ep)) 0 (y)), 26⟩ (by simp [stw])) Try.underlying26 rfl (size_of (by simp [stw_size, hs])) ?_; generalize World.setCell _ _ _ = w4 at S4 ⊢) | ((with_reducible refine gate_store (t := 26) (p := 8) rfl ?_); refine wpList_store_row rfl 26 _ _ rfl g2 (stw (stw (stw (stw (stw A 17 (pt (pt (pt (pt x 4 (Go.bits .and .u32 x 1 != 0)) 8 (Go.bits .and .u32 x 2 != 0)) 1 true) 2 false)) 18 (Go.bits .and .u32 (c % 4294967296) 31)) 19 (v)) 20 (ep)) 0 (y)) rfl rfl 26 zeroA (S4.heap ⟨g2, zeroA, 26⟩ (by simp)) (size_of (by simp [stw_size, hs])) (by simp [stw_size, hs]; rfl) (one_stw (one_stw (one_stw (one_stw (one_stw (ho) _ _) _ _) _ _) _ _) _ _) ?_; have S5 : St w _ [⟨g2, (stw (stw (stw (stw (stw A 17 (pt (pt (pt (pt x 4 (Go.bits .and .u32 x 1 != 0)) 8 (Go.bits .and .u32 x 2 != 0)) 1 true) 2 false)) 18 (Go.bits .and .u32 (c % 4294967296) 31)) 19 (v)) 20 (ep)) 0 (y)), 26⟩, ⟨g1, (stw (stw (stw (stw (stw A 17 (pt (pt (pt (pt x 4 (Go.bits .and .u32 x 1 != 0)) 8 (Go.bits .and .u32 x 2 != 0)) 1 true) 2 false)) 18 (Go.bits .and .u32 (c % 4294967296) 31)) 19 (v)) 20 (ep)) 0 (y)), 26⟩] := St.row (L1 := []) (b := ⟨g2, zeroA, 26⟩) S4 (stw (stw (stw (stw (stw A 17 (pt (pt (pt (pt x 4 (Go.bits .and .u32 x 1 != 0)) 8 (Go.bits .and .u32 x 2 != 0)) 1 true) 2 false)) 18 (Go.bits .and .u32 (c % 4294967296) 31)) 19 (v)) 20 (ep)) 0 (y)); clear S4; generalize World.setRow _ _ _ = w5 at S5 ⊢))
  refine bodyPost_ret (results_cell_row rfl _ _ g2 26 (stw (stw (stw (stw (stw A 17 (pt (pt (pt (pt x 4 (Go.bits .and .u32 x 1 != 0)) 8 (Go.bits .and .u32 x 2 != 0)) 1 true) 2 false)) 18 (Go.bits .and .u32 (c % 4294967296) 31)) 19 (v)) 20 (ep)) 0 (y)) (0, 0) _ rfl (S5.heap ⟨g2, (stw (stw (stw (stw (stw A 17 (pt (pt (pt (pt x 4 (Go.bits .and .u32 x 1 != 0)) 8 (Go.bits .and .u32 x 2 != 0)) 1 true) 2 false)) 18 (Go.bits .and .u32 (c % 4294967296) 31)) 19 (v)) 20 (ep)) 0 (y)), 26⟩ (by simp)) Try.underlying26 rfl (size_of (by simp [stw_size, hs]))) rfl ?_
  exact ⟨rfl, S5.below⟩

/-- A core behind a return. -/
def retA (A : Array Value) : Array Value := stw (stw A 17 (stR (wd A 17))) 0 (wd A 20)
def rretA (A : Array Value) : Array Value := stw (stw A 17 (rR (wd A 17))) 0 (wd A 20)
theorem zsize : zeroA.size = 30 := rfl
theorem kb_user {A : Array Value} {b : Bool} (hk : kb A = b) {f : FuncId} {w : World} (h : Calls Try.prog f #[.agg A] w fun e w' => e = .returned (.bool (kb A)) ∧ Below w.heap.size w w') : Calls Try.prog f #[.agg A] w fun e w' => e = .returned (.bool b) ∧ Below w.heap.size w w' := hk ▸ h

set_option maxHeartbeats 4000000 in
theorem ret_in (A : Array Value) (hA : IsArch A) (hk : kb A = true) (w : World) :
    Calls Try.prog 16 #[.agg A] w fun e w' => e = .returned (.tuple #[.agg (retA A), .int .i64 0]) ∧ Below w.heap.size w w' := by
  have hs := hA.size
  have ho := hA.one
  have h0 := hA.at 0 (by decide)
  have h17 := hA.at 17 (by decide)
  have h18 := hA.at 18 (by decide)
  have h19 := hA.at 19 (by decide)
  have h20 := hA.at 20 (by decide)
  have h21 := hA.at 21 (by decide)
  have S0 := St.start w
  have HK := Aside0.mk hk
  unfold retA stR
  clear hk
  generalize wd A 17 = x at h17 ⊢
  generalize wd A 20 = y at h20 ⊢
  generalize wd A 0 = z0 at h0
  go_enter Try.func16, Try.ntmps16
  go_wp2_with (first | ((with_reducible refine gate_dst (N := 1) rfl ?_); refine box_event ?hg (N := 1) ?hd (cs := A) (t := 26) ?hr ?_; (case hd => rfl); (case hg => rfl); (case hr => first | (go_simp; done) | (go_simp; rfl)); intro g1 hg w1 hbox hb; have S1 := S0.box hg hbox hb; clear hg hbox hb; clear S0) | ((with_reducible refine gate_dst (N := 2) rfl ?_); refine box_event ?hg (N := 2) ?hd (cs := zeroA) (t := 26) ?hr ?_; (case hd => rfl); (case hg => rfl); (case hr => first | (go_simp; done) | (go_simp; rfl)); intro g2 hg w2 hbox hb; have S2 := S1.box hg hbox hb; clear hg hbox hb; clear S1) | ((with_reducible refine gate_dst (N := 5) rfl ?_); refine wpList_load_row rfl 26 _ rfl g1 rfl 26 A (0, 0) _ (S2.heap ⟨g1, A, 26⟩ (by simp)) Try.underlying26 rfl (size_of hs) ?_) | (go_at_call 18; (with_reducible refine (kb_user HK.out (kernel A hA _)).mono ?_); rintro e w3 ⟨rfl, hb⟩; have S3 := S2.call hb; clear hb; clear S2; have c0 := S3.cell (b := ⟨g1, A, 26⟩) (by simp) h0; have c17 := S3.cell (b := ⟨g1, A, 26⟩) (by simp) h17; have c20 := S3.cell (b := ⟨g1, A, 26⟩) (by simp) h20; have f0 := S3.frozen (b := ⟨g1, A, 26⟩) (by simp) 0; have f17 := S3.frozen (b := ⟨g1, A, 26⟩) (by simp) 17; have f20 := S3.frozen (b := ⟨g1, A, 26⟩) (by simp) 20) | (go_at_call 20; (with_reducible refine (moved _ _ _ _).mono ?_); rintro e_ w_ ⟨rfl, rfl⟩) | ((with_reducible refine gate_dst (N := 21) rfl ?_); have S4 := St.set (L1 := [⟨g2, zeroA, 26⟩]) (b := ⟨g1, (stw A 17 (mv (mv x 4 1) 8 2)), 26⟩) (St.set (L1 := [⟨g2, zeroA, 26⟩]) (b := ⟨g1, A, 26⟩) (S3) 17 (.int .u32 (mv (mv x 4 1) 8 2))) 0 (.int .u32 (y)); clear S3 c0 f0 c17 f17 c20 f20; refine wpList_load_row rfl 26 _ rfl g1 rfl 26 (stw (stw A 17 (mv (mv x 4 1) 8 2)) 0 (y)) (0, 0) _ (S4.heap ⟨g1, (stw (stw A 17 (mv (mv x 4 1) 8 2)) 0 (y)), 26⟩ (by simp [stw])) Try.underlying26 rfl (size_of (by simp [stw_size, hs])) ?_; generalize World.setCell _ _ _ = w4 at S4 ⊢) | ((with_reducible refine gate_store (t := 26) (p := 2) rfl ?_); refine wpList_store_row rfl 26 _ _ rfl g2 (stw (stw A 17 (mv (mv x 4 1) 8 2)) 0 (y)) rfl rfl 26 zeroA (S4.heap ⟨g2, zeroA, 26⟩ (by simp)) (size_of (by simp [stw_size, hs])) (by simp [stw_size, hs]; rfl) (one_stw (one_stw (ho) _ _) _ _) ?_; have S5 : St w _ [⟨g2, (stw (stw A 17 (mv (mv x 4 1) 8 2)) 0 (y)), 26⟩, ⟨g1, (stw (stw A 17 (mv (mv x 4 1) 8 2)) 0 (y)), 26⟩] := St.row (L1 := []) (b := ⟨g2, zeroA, 26⟩) S4 (stw (stw A 17 (mv (mv x 4 1) 8 2)) 0 (y)); clear S4; generalize World.setRow _ _ _ = w5 at S5 ⊢))
  refine bodyPost_ret (results_ct rfl _ _ g2 26 (stw (stw A 17 (mv (mv x 4 1) 8 2)) 0 (y)) (0, 0) _ rfl (S5.heap ⟨g2, (stw (stw A 17 (mv (mv x 4 1) 8 2)) 0 (y)), 26⟩ (by simp)) Try.underlying26 rfl (size_of (by simp [stw_size, hs]))) rfl ?_
  exact ⟨rfl, S5.below⟩

set_option maxHeartbeats 4000000 in
theorem ret_user (A : Array Value) (hA : IsArch A) (hk : kb A = false) (w : World) :
    Calls Try.prog 16 #[.agg A] w fun e w' => e = .returned (.tuple #[.agg zeroA, .int .i64 8]) ∧ Below w.heap.size w w' := by
  have hs := hA.size
  have ho := hA.one
  have h0 := hA.at 0 (by decide)
  have h17 := hA.at 17 (by decide)
  have h18 := hA.at 18 (by decide)
  have h19 := hA.at 19 (by decide)
  have h20 := hA.at 20 (by decide)
  have h21 := hA.at 21 (by decide)
  have S0 := St.start w
  have HZ := Aside0.mk (show zeroA = #[.int .u32 0, .int .u32 0, .int .u32 0, .int .u32 0, .int .u32 0, .int .u32 0, .int .u32 0, .int .u32 0, .int .u32 0, .int .u32 0, .int .u32 0, .int .u32 0, .int .u32 0, .int .u32 0, .int .u32 0, .int .u32 0, .int .u32 0, .int .u32 0, .int .u32 0, .int .u32 0, .int .u32 0, .int .u32 0, .int .u32 0, .int .u32 0, .int .u32 0, .int .u32 0, .int .u32 0, .int .u32 0, .int .u32 0, .bool false] from rfl)
  have HK := Aside0.mk hk
  clear hk
  go_enter Try.func16, Try.ntmps16
  go_wp2_with (first | ((with_reducible refine gate_dst (N := 1) rfl ?_); refine box_event ?hg (N := 1) ?hd (cs := A) (t := 26) ?hr ?_; (case hd => rfl); (case hg => rfl); (case hr => first | (go_simp; done) | (go_simp; rfl)); intro g1 hg w1 hbox hb; have S1 := S0.box hg hbox hb; clear hg hbox hb; clear S0) | ((with_reducible refine gate_dst (N := 2) rfl ?_); refine box_event ?hg (N := 2) ?hd (cs := zeroA) (t := 26) ?hr ?_; (case hd => rfl); (case hg => rfl); (case hr => first | (go_simp; done) | (go_simp; rfl)); intro g2 hg w2 hbox hb; have S2 := S1.box hg hbox hb; clear hg hbox hb; clear S1) | ((with_reducible refine gate_dst (N := 5) rfl ?_); refine wpList_load_row rfl 26 _ rfl g1 rfl 26 A (0, 0) _ (S2.heap ⟨g1, A, 26⟩ (by simp)) Try.underlying26 rfl (size_of hs) ?_) | (go_at_call 18; (with_reducible refine (kb_user HK.out (kernel A hA _)).mono ?_); rintro e w3 ⟨rfl, hb⟩; have S3 := S2.call hb; clear hb; clear S2) | ((with_reducible refine gate_store (t := 26) (p := 2) rfl ?_); refine wpList_store_row rfl 26 _ _ rfl g2 zeroA rfl rfl 26 zeroA (S3.heap ⟨g2, zeroA, 26⟩ (by simp)) (size_of zsize) rfl zeroA_is.one ?_; have S5 : St w _ [⟨g2, zeroA, 26⟩, ⟨g1, A, 26⟩] := St.row (L1 := []) (b := ⟨g2, zeroA, 26⟩) S3 zeroA; clear S3; generalize World.setRow _ _ _ = w5 at S5 ⊢))
  refine bodyPost_ret (results_ct rfl _ _ g2 26 zeroA (0, 0) _ rfl (S5.heap ⟨g2, zeroA, 26⟩ (by simp)) Try.underlying26 rfl (size_of zsize)) rfl ?_
  exact ⟨rfl, S5.below⟩

set_option maxHeartbeats 4000000 in
theorem rret_in (A : Array Value) (hA : IsArch A) (hk : kb A = true) (w : World) :
    Calls Try.prog 17 #[.agg A] w fun e w' => e = .returned (.tuple #[.agg (rretA A), .int .i64 0]) ∧ Below w.heap.size w w' := by
  have hs := hA.size
  have ho := hA.one
  have h0 := hA.at 0 (by decide)
  have h17 := hA.at 17 (by decide)
  have h18 := hA.at 18 (by decide)
  have h19 := hA.at 19 (by decide)
  have h20 := hA.at 20 (by decide)
  have h21 := hA.at 21 (by decide)
  have S0 := St.start w
  have HK := Aside0.mk hk
  unfold rretA rR
  clear hk
  generalize wd A 17 = x at h17 ⊢
  generalize wd A 20 = y at h20 ⊢
  generalize wd A 0 = z0 at h0
  go_enter Try.func17, Try.ntmps17
  go_wp2_with (first | ((with_reducible refine gate_dst (N := 1) rfl ?_); refine box_event ?hg (N := 1) ?hd (cs := A) (t := 26) ?hr ?_; (case hd => rfl); (case hg => rfl); (case hr => first | (go_simp; done) | (go_simp; rfl)); intro g1 hg w1 hbox hb; have S1 := S0.box hg hbox hb; clear hg hbox hb; clear S0) | ((with_reducible refine gate_dst (N := 2) rfl ?_); refine box_event ?hg (N := 2) ?hd (cs := zeroA) (t := 26) ?hr ?_; (case hd => rfl); (case hg => rfl); (case hr => first | (go_simp; done) | (go_simp; rfl)); intro g2 hg w2 hbox hb; have S2 := S1.box hg hbox hb; clear hg hbox hb; clear S1) | ((with_reducible refine gate_dst (N := 6) rfl ?_); refine wpList_load_row rfl 26 _ rfl g1 rfl 26 A (0, 0) _ (S2.heap ⟨g1, A, 26⟩ (by simp)) Try.underlying26 rfl (size_of hs) ?_) | (go_at_call 24; (with_reducible refine (kb_user HK.out (rkernel A hA _)).mono ?_); rintro e w3 ⟨rfl, hb⟩; have S3 := S2.call hb; clear hb; clear S2; have c0 := S3.cell (b := ⟨g1, A, 26⟩) (by simp) h0; have c17 := S3.cell (b := ⟨g1, A, 26⟩) (by simp) h17; have c20 := S3.cell (b := ⟨g1, A, 26⟩) (by simp) h20; have f0 := S3.frozen (b := ⟨g1, A, 26⟩) (by simp) 0; have f17 := S3.frozen (b := ⟨g1, A, 26⟩) (by simp) 17; have f20 := S3.frozen (b := ⟨g1, A, 26⟩) (by simp) 20) | (go_at_call 21; (with_reducible refine (put _ _ _ _).mono ?_); rintro e_ w_ ⟨rfl, rfl⟩) | ((with_reducible refine gate_dst (N := 30) rfl ?_); have S4 := St.set (L1 := [⟨g2, zeroA, 26⟩]) (b := ⟨g1, (stw A 17 (pt (pt x 1 (Go.bits .and .u32 x 4 != 0)) 2 (Go.bits .and .u32 x 8 != 0))), 26⟩) (St.set (L1 := [⟨g2, zeroA, 26⟩]) (b := ⟨g1, A, 26⟩) (S3) 17 (.int .u32 (pt (pt x 1 (Go.bits .and .u32 x 4 != 0)) 2 (Go.bits .and .u32 x 8 != 0)))) 0 (.int .u32 (y)); clear S3 c0 f0 c17 f17 c20 f20; refine wpList_load_row rfl 26 _ rfl g1 rfl 26 (stw (stw A 17 (pt (pt x 1 (Go.bits .and .u32 x 4 != 0)) 2 (Go.bits .and .u32 x 8 != 0))) 0 (y)) (0, 0) _ (S4.heap ⟨g1, (stw (stw A 17 (pt (pt x 1 (Go.bits .and .u32 x 4 != 0)) 2 (Go.bits .and .u32 x 8 != 0))) 0 (y)), 26⟩ (by simp [stw])) Try.underlying26 rfl (size_of (by simp [stw_size, hs])) ?_; generalize World.setCell _ _ _ = w4 at S4 ⊢) | ((with_reducible refine gate_store (t := 26) (p := 2) rfl ?_); refine wpList_store_row rfl 26 _ _ rfl g2 (stw (stw A 17 (pt (pt x 1 (Go.bits .and .u32 x 4 != 0)) 2 (Go.bits .and .u32 x 8 != 0))) 0 (y)) rfl rfl 26 zeroA (S4.heap ⟨g2, zeroA, 26⟩ (by simp)) (size_of (by simp [stw_size, hs])) (by simp [stw_size, hs]; rfl) (one_stw (one_stw (ho) _ _) _ _) ?_; have S5 : St w _ [⟨g2, (stw (stw A 17 (pt (pt x 1 (Go.bits .and .u32 x 4 != 0)) 2 (Go.bits .and .u32 x 8 != 0))) 0 (y)), 26⟩, ⟨g1, (stw (stw A 17 (pt (pt x 1 (Go.bits .and .u32 x 4 != 0)) 2 (Go.bits .and .u32 x 8 != 0))) 0 (y)), 26⟩] := St.row (L1 := []) (b := ⟨g2, zeroA, 26⟩) S4 (stw (stw A 17 (pt (pt x 1 (Go.bits .and .u32 x 4 != 0)) 2 (Go.bits .and .u32 x 8 != 0))) 0 (y)); clear S4; generalize World.setRow _ _ _ = w5 at S5 ⊢))
  refine bodyPost_ret (results_ct rfl _ _ g2 26 (stw (stw A 17 (pt (pt x 1 (Go.bits .and .u32 x 4 != 0)) 2 (Go.bits .and .u32 x 8 != 0))) 0 (y)) (0, 0) _ rfl (S5.heap ⟨g2, (stw (stw A 17 (pt (pt x 1 (Go.bits .and .u32 x 4 != 0)) 2 (Go.bits .and .u32 x 8 != 0))) 0 (y)), 26⟩ (by simp)) Try.underlying26 rfl (size_of (by simp [stw_size, hs]))) rfl ?_
  exact ⟨rfl, S5.below⟩

set_option maxHeartbeats 4000000 in
theorem rret_user (A : Array Value) (hA : IsArch A) (hk : kb A = false) (w : World) :
    Calls Try.prog 17 #[.agg A] w fun e w' => e = .returned (.tuple #[.agg zeroA, .int .i64 8]) ∧ Below w.heap.size w w' := by
  have hs := hA.size
  have ho := hA.one
  have h0 := hA.at 0 (by decide)
  have h17 := hA.at 17 (by decide)
  have h18 := hA.at 18 (by decide)
  have h19 := hA.at 19 (by decide)
  have h20 := hA.at 20 (by decide)
  have h21 := hA.at 21 (by decide)
  have S0 := St.start w
  have HZ := Aside0.mk (show zeroA = #[.int .u32 0, .int .u32 0, .int .u32 0, .int .u32 0, .int .u32 0, .int .u32 0, .int .u32 0, .int .u32 0, .int .u32 0, .int .u32 0, .int .u32 0, .int .u32 0, .int .u32 0, .int .u32 0, .int .u32 0, .int .u32 0, .int .u32 0, .int .u32 0, .int .u32 0, .int .u32 0, .int .u32 0, .int .u32 0, .int .u32 0, .int .u32 0, .int .u32 0, .int .u32 0, .int .u32 0, .int .u32 0, .int .u32 0, .bool false] from rfl)
  have HK := Aside0.mk hk
  clear hk
  go_enter Try.func17, Try.ntmps17
  go_wp2_with (first | ((with_reducible refine gate_dst (N := 1) rfl ?_); refine box_event ?hg (N := 1) ?hd (cs := A) (t := 26) ?hr ?_; (case hd => rfl); (case hg => rfl); (case hr => first | (go_simp; done) | (go_simp; rfl)); intro g1 hg w1 hbox hb; have S1 := S0.box hg hbox hb; clear hg hbox hb; clear S0) | ((with_reducible refine gate_dst (N := 2) rfl ?_); refine box_event ?hg (N := 2) ?hd (cs := zeroA) (t := 26) ?hr ?_; (case hd => rfl); (case hg => rfl); (case hr => first | (go_simp; done) | (go_simp; rfl)); intro g2 hg w2 hbox hb; have S2 := S1.box hg hbox hb; clear hg hbox hb; clear S1) | ((with_reducible refine gate_dst (N := 6) rfl ?_); refine wpList_load_row rfl 26 _ rfl g1 rfl 26 A (0, 0) _ (S2.heap ⟨g1, A, 26⟩ (by simp)) Try.underlying26 rfl (size_of hs) ?_) | (go_at_call 24; (with_reducible refine (kb_user HK.out (rkernel A hA _)).mono ?_); rintro e w3 ⟨rfl, hb⟩; have S3 := S2.call hb; clear hb; clear S2) | ((with_reducible refine gate_store (t := 26) (p := 2) rfl ?_); refine wpList_store_row rfl 26 _ _ rfl g2 zeroA rfl rfl 26 zeroA (S3.heap ⟨g2, zeroA, 26⟩ (by simp)) (size_of zsize) rfl zeroA_is.one ?_; have S5 : St w _ [⟨g2, zeroA, 26⟩, ⟨g1, A, 26⟩] := St.row (L1 := []) (b := ⟨g2, zeroA, 26⟩) S3 zeroA; clear S3; generalize World.setRow _ _ _ = w5 at S5 ⊢))
  refine bodyPost_ret (results_ct rfl _ _ g2 26 zeroA (0, 0) _ rfl (S5.heap ⟨g2, zeroA, 26⟩ (by simp)) Try.underlying26 rfl (size_of zsize)) rfl ?_
  exact ⟨rfl, S5.below⟩

end Go.Proofs.Ytegpadmlidaljaa.Csr
