/- The walk of the chapter's examples: they hold. No condition. -/
import Derived.Test.YtgegpppoimeliaaCsr5
namespace Go.Proofs.Ytgegpppoimeliaa.Csr
open Go Go.Proofs Go.RowKit Go.Proofs.YtgegpppoimeliaaW.PrintWords Go.Proofs.YtgegpppoimeliaaW.PrintLast Go.Proofs.YtgegpppoimeliaaW.PrintMore Go.Proofs.Ytgegpppoimeliaa.Boxes Go.Proofs.Ytgegpppoimeliaa.Arch Go.Proofs.Ytgegpppoimeliaa.Plain
set_option linter.unusedVariables false
/-- The examples' core, and what is written in it. -/
def exA : Array Value := stw (stw (stw zeroA 17 1) 25 5) 24 4
theorem exA_is : IsArch exA := ((zeroA_is.stw (by decide) (by decide) (by decide)).stw (by decide) (by decide) (by decide)).stw (by decide) (by decide) (by decide)
theorem ex_mk : mk 5 = 4294967232 := rfl
theorem ex_wr : ∃ B : Array Value, wrA exA (kb exA) 9 15 = B ∧ IsArch B ∧ B[26]? = some (.int .u32 7) :=
  ⟨_, rfl, wr_is exA_is _ _ (by decide), by kernel_rfl⟩
theorem ex_my : my (kb exA) 9 false = 0 := by kernel_rfl
theorem ex_cnt : cntA exA = #[.int .u32 0, .int .u32 0, .int .u32 0, .int .u32 0, .int .u32 0, .int .u32 0, .int .u32 0, .int .u32 0, .int .u32 0, .int .u32 0, .int .u32 0, .int .u32 0, .int .u32 0, .int .u32 0, .int .u32 0, .int .u32 0, .int .u32 0, .int .u32 1, .int .u32 0, .int .u32 0, .int .u32 0, .int .u32 0, .int .u32 0, .int .u32 0, .int .u32 5, .int .u32 5, .int .u32 0, .int .u32 4, .int .u32 0, .bool false] := by kernel_rfl

theorem ex_masked (w : World) : Calls Try.prog 20 #[.int .i64 5] w fun e w' => e = .returned (.int .u32 4294967232) ∧ Below w.heap.size w w' := masked 5 w
theorem ex_count (w : World) : Calls Try.prog 11 #[.agg exA] w fun e w' => e = .returned (.agg #[.int .u32 0, .int .u32 0, .int .u32 0, .int .u32 0, .int .u32 0, .int .u32 0, .int .u32 0, .int .u32 0, .int .u32 0, .int .u32 0, .int .u32 0, .int .u32 0, .int .u32 0, .int .u32 0, .int .u32 0, .int .u32 0, .int .u32 0, .int .u32 1, .int .u32 0, .int .u32 0, .int .u32 0, .int .u32 0, .int .u32 0, .int .u32 0, .int .u32 5, .int .u32 5, .int .u32 0, .int .u32 4, .int .u32 0, .bool false]) ∧ Below w.heap.size w w' := ex_cnt ▸ count exA exA_is w

attribute [local go_sem] Instr.field part asAgg Instr.index
set_option maxHeartbeats 4000000 in
theorem awake (w : World) : Calls Try.prog 10 #[] w fun e w' => e = .returned (.bool true) ∧ Below w.heap.size w w' := by
  have hs := exA_is.size
  have S0 := St.start w
  obtain ⟨B, eB, hB, hB26⟩ := ex_wr
  have hbs := hB.size
  have hbo := hB.one
  go_enter Try.func10, Try.ntmps10
  go_upto_region 4 with (first | ((with_reducible refine gate_dst (N := 1) rfl ?_); refine box_event ?hg (N := 1) ?hd (cs := zeroA) (t := 26) ?hr ?_; (case hd => rfl); (case hg => rfl); (case hr => first | (go_simp; done) | (go_simp; rfl)); intro g1 hg w1 hbox hb; have S1 := S0.box hg hbox hb; clear hg hbox hb; clear S0) | ((with_reducible refine gate_store (t := 26) (p := 1) rfl ?_); refine wpList_store_row rfl 26 _ _ rfl g1 zeroA rfl rfl 26 zeroA (S1.heap ⟨g1, zeroA, 26⟩ (by simp)) (size_of zeroA_is.size) (by first | rfl | (rw [zeroA_is.size]; rfl)) (zeroA_is.one) ?_; have S2 : St w _ [⟨g1, zeroA, 26⟩] := St.row (L1 := []) (b := ⟨g1, zeroA, 26⟩) S1 zeroA; clear S1; generalize World.setRow _ _ _ = w2 at S2 ⊢; have f17 := S2.frozen (b := ⟨g1, zeroA, 26⟩) (by simp) 17; have c17 := S2.cell (b := ⟨g1, zeroA, 26⟩) (j := 17) (v := .int .u32 0) (by simp) rfl; have f24 := S2.frozen (b := ⟨g1, zeroA, 26⟩) (by simp) 24; have c24 := S2.cell (b := ⟨g1, zeroA, 26⟩) (j := 24) (v := .int .u32 0) (by simp) rfl; have f25 := S2.frozen (b := ⟨g1, zeroA, 26⟩) (by simp) 25; have c25 := S2.cell (b := ⟨g1, zeroA, 26⟩) (j := 25) (v := .int .u32 0) (by simp) rfl) | ((with_reducible refine gate_dst (N := 12) rfl ?_); have S3 : St w _ [⟨g1, exA, 26⟩] := St.set (L1 := []) (b := ⟨g1, (stw (stw zeroA 17 1) 25 5), 26⟩) (St.set (L1 := []) (b := ⟨g1, (stw zeroA 17 1), 26⟩) (St.set (L1 := []) (b := ⟨g1, zeroA, 26⟩) (S2) 17 (.int .u32 1)) 25 (.int .u32 5)) 24 (.int .u32 4); clear S2 f17 f24 f25 c17 c24 c25; refine wpList_load_row rfl 26 _ rfl g1 rfl 26 exA (0, 0) _ (S3.heap ⟨g1, exA, 26⟩ (by simp)) Try.underlying26 rfl (size_of hs) ?_; generalize World.setCell _ _ _ = w3 at S3 ⊢) | (go_at_call 8; (with_reducible refine (write exA exA_is 9 15 (by decide) (by decide) _).mono ?_); rw [eB, ex_my]; rintro e w4 ⟨rfl, hb⟩; have S4 := S3.call hb; clear hb; clear S3) | ((with_reducible refine gate_dst (N := 2) rfl ?_); refine box_event ?hg (N := 2) ?hd (cs := zeroA) (t := 26) ?hr ?_; (case hd => rfl); (case hg => rfl); (case hr => first | (go_simp; done) | (go_simp; rfl)); intro g2 hg w5 hbox hb; have S5 := S4.box hg hbox hb; clear hg hbox hb; clear S4) | ((with_reducible refine gate_store (t := 26) (p := 2) rfl ?_); refine wpList_store_row rfl 26 _ _ rfl g2 B rfl rfl 26 zeroA (S5.heap ⟨g2, zeroA, 26⟩ (by simp)) (size_of hbs) (by first | rfl | (rw [hbs]; rfl)) (hbo) ?_; have S6 : St w _ [⟨g2, B, 26⟩, ⟨g1, exA, 26⟩] := St.row (L1 := []) (b := ⟨g2, zeroA, 26⟩) S5 B; clear S5; generalize World.setRow _ _ _ = w6 at S6 ⊢))
  refine wp_region_st0 S6 ?_
  haveI : Nonempty (Cls _ _) := ⟨⟨_, S6⟩⟩
  repeat (first | (go_big_quiet_want; (with_reducible refine quiet_load 26 _ rfl g1 rfl 26 exA _ (fun x => x.st.heap ⟨g1, exA, 26⟩ (by simp)) Try.underlying26 rfl (size_of hs) ?_); go_big_quiet_on; (try simp only [Act.put, List.setIfInBounds_toArray, List.set_cons_zero, List.set_cons_succ])) | (go_big_quiet_want; (with_reducible refine quiet_cell 22 _ rfl _ _ rfl (.int .u32 7) _ (fun x => x.st.cell (b := ⟨g2, B, 26⟩) (by simp) hB26) Try.underlying22 rfl ?_); go_big_quiet_on; (try simp only [Act.put, List.setIfInBounds_toArray, List.set_cons_zero, List.set_cons_succ])) | go_big_quiet_step ((first | (go_at_call 20; exact quiet_st (ex_masked _)) | (go_at_call 11; exact quiet_st (ex_count _)))))
  refine wpQuiet_nil ?_
  rintro ⟨w9, S9⟩
  go_wp2
  go_ret
  exact ⟨rfl, S9.below⟩

end Go.Proofs.Ytgegpppoimeliaa.Csr
