/- The walk of the statement TrapBack: a trap and a return bring a core back. The one condition is that the cells are a core's and an event's. -/
import Derived.Test.YtegpadmlidaljaaTrap4
import Derived.Deep.RegionHeld3
namespace Go.Proofs.Ytegpadmlidaljaa.Csr
open Go Go.Proofs Go.RowKit Go.Proofs.YtegpadmlidaljaaW.PrintWords Go.Proofs.YtegpadmlidaljaaW.PrintLast Go.Proofs.YtegpadmlidaljaaW.PrintMore Go.Proofs.Ytegpadmlidaljaa.Boxes Go.Proofs.Ytegpadmlidaljaa.Arch Go.Proofs.Ytegpadmlidaljaa.Plain Go.Proofs.Ytegpadmlidaljaa.TrapP
set_option linter.unusedVariables false
set_option linter.unusedSimpArgs false
section
variable {A : Array Value} (hA : IsArch A) (c : Int) {v e : Int} (hv : U v) (he : U e)
include hA hv he
theorem in_kb : kb (takeA A c v e) = true := by
  rw [kb_bt (take_is hA c hv he), take_wd hA c hv he, if_neg (by decide), if_pos rfl, stT_rT (wU hA 17 (by decide)), rT_bt (wU hA 17 (by decide))]
  rfl
theorem in_en : (Go.bits .and .u32 (wd (takeA A c v e) 17) 2 != 0) = false := by
  have hB := take_is hA c hv he
  rw [test (wU hB 17 (by decide)) l1 (by decide), take_wd hA c hv he, if_neg (by decide), if_pos rfl, stT_rT (wU hA 17 (by decide)), rT_bt (wU hA 17 (by decide))]
  rfl
theorem in_pn : pnV (takeA A c v e) = 0 := by
  unfold pnV pdV
  rw [in_kb hA c hv he, in_en hA c hv he]
  rfl
theorem in_st (p : Int) : stB (takeA A c v e) p = false := by unfold stB; rw [in_kb hA c hv he]; rfl
theorem in_sg : sgB (takeA A c v e) = false := by unfold sgB; rw [in_kb hA c hv he]; rfl
theorem in_pc : wd (takeA A c v e) 0 = wd A 21 := by rw [take_wd hA c hv he, if_pos rfl]
theorem back_17 : wd (retA (takeA A c v e)) 17 = rR (rT (wd A 17)) := by
  have hs := wU hA 17 (by decide)
  rw [ret_wd (take_is hA c hv he), if_neg (by decide), if_pos rfl, take_wd hA c hv he, if_neg (by decide), if_pos rfl, stT_rT hs, stR_rR (rT_U hs)]
theorem back_0 : wd (retA (takeA A c v e)) 0 = e := by
  rw [ret_wd (take_is hA c hv he), if_pos rfl, take_wd hA c hv he, if_neg (by decide), if_neg (by decide), if_pos rfl]
theorem back_mask {m : Int} (hm : U m) (h2 : bt m 2 = false) (h3 : bt m 3 = false) : Go.bits .and .u32 (wd (retA (takeA A c v e)) 17) m = Go.bits .and .u32 (wd A 17) m := by
  rw [back_17 hA c hv he]
  exact back_and (wU hA 17 (by decide)) hm h2 h3
theorem back_51 : Go.bits .and .u32 (wd (retA (takeA A c v e)) 17) 51 = Go.bits .and .u32 (wd A 17) 51 := back_mask hA c hv he ⟨by decide, by decide⟩ (by decide) (by decide)
theorem back_kb : kb (retA (takeA A c v e)) = kb A := by
  unfold kb
  rw [back_mask hA c hv he ⟨by decide, by decide⟩ (by decide) (by decide)]
theorem back_far (j : Nat) (h : j ∉ [0, 17, 18, 19, 20]) : wd (retA (takeA A c v e)) j = wd A j := by
  simp only [List.mem_cons, List.not_mem_nil, or_false, not_or] at h
  rw [ret_wd (take_is hA c hv he), if_neg (by omega), if_neg (by omega), take_wd hA c hv he, if_neg (by omega), if_neg (by omega), if_neg (by omega), if_neg (by omega), if_neg (by omega)]
theorem back_pn : pnV (retA (takeA A c v e)) = pnV A := by
  unfold pnV opn
  rw [back_kb hA c hv he, back_mask hA c hv he ⟨by decide, by decide⟩ (by decide) (by decide), back_far hA c hv he 27 (by decide), back_far hA c hv he 26 (by decide)]
theorem back_sg : sgB (retA (takeA A c v e)) = sgB A := by
  unfold sgB
  rw [back_kb hA c hv he, back_mask hA c hv he ⟨by decide, by decide⟩ (by decide) (by decide)]
theorem back_st (p : Int) : stB (retA (takeA A c v e)) p = stB A p := by
  unfold stB
  rw [back_kb hA c hv he, back_far hA c hv he 28 (by decide)]
theorem back_all : stw (stw (stw (stw (stw (retA (takeA A c v e)) 0 (wd A 0)) 17 (wd A 17)) 18 (wd A 18)) 19 (wd A 19)) 20 (wd A 20) = A := by
  have hB := take_is hA c hv he
  have hC := ret_is hB
  have a0 := wU hA 0 (by decide)
  have a17 := wU hA 17 (by decide)
  have a18 := wU hA 18 (by decide)
  have a19 := wU hA 19 (by decide)
  have a20 := wU hA 20 (by decide)
  have k1 := hC.stw (i := 0) (by decide) a0.1 a0.2
  have k2 := k1.stw (i := 17) (by decide) a17.1 a17.2
  have k3 := k2.stw (i := 18) (by decide) a18.1 a18.2
  have k4 := k3.stw (i := 19) (by decide) a19.1 a19.2
  refine IsArch.ext (k4.stw (by decide) a20.1 a20.2) hA (fun j hj => ?_) ?_
  · rw [wd_stw k4 _ _ _ (by decide), wd_stw k3 _ _ _ (by decide), wd_stw k2 _ _ _ (by decide), wd_stw k1 _ _ _ (by decide), wd_stw hC _ _ _ (by decide)]
    by_cases h20 : 20 = j
    · rw [if_pos h20, h20]
    · by_cases h19 : 19 = j
      · rw [if_neg h20, if_pos h19, h19]
      · by_cases h18 : 18 = j
        · rw [if_neg h20, if_neg h19, if_pos h18, h18]
        · by_cases h17 : 17 = j
          · rw [if_neg h20, if_neg h19, if_neg h18, if_pos h17, h17]
          · by_cases h0 : 0 = j
            · rw [if_neg h20, if_neg h19, if_neg h18, if_neg h17, if_pos h0, h0]
            · rw [if_neg h20, if_neg h19, if_neg h18, if_neg h17, if_neg h0]
              exact back_far hA c hv he j (by simp; omega)
  · have hcu := cause_U c
    have hsu := stT_U (wU hA 17 (by decide))
    have h1 := hA.stw (i := 18) (by decide) hcu.1 hcu.2
    have h2 := h1.stw (i := 19) (by decide) hv.1 hv.2
    have h3 := h2.stw (i := 20) (by decide) he.1 he.2
    have h4 := h3.stw (i := 17) (by decide) hsu.1 hsu.2
    have hsr := stR_U (wU hB 17 (by decide))
    have h6 := hB.stw (i := 17) (by decide) hsr.1 hsr.2
    rw [stw_flag k4 _ _ (by decide), stw_flag k3 _ _ (by decide), stw_flag k2 _ _ (by decide), stw_flag k1 _ _ (by decide), stw_flag hC _ _ (by decide)]
    unfold retA
    rw [stw_flag h6 _ _ (by decide), stw_flag hB _ _ (by decide)]
    unfold takeA
    rw [stw_flag h4 _ _ (by decide), stw_flag h3 _ _ (by decide), stw_flag h2 _ _ (by decide), stw_flag h1 _ _ (by decide), stw_flag hA _ _ (by decide)]
end
theorem stops_is {A : Array Value} (hA : IsArch A) {p : Int} (hp : U p) {b : Bool} (hb : stB A p = b) (w : World) : Calls Try.prog 12 #[.agg A, .int .u32 p] w fun e w' => e = .returned (.bool b) ∧ Below w.heap.size w w' := hb ▸ stops A hA p hp w
theorem single_is {A : Array Value} (hA : IsArch A) {b : Bool} (hb : sgB A = b) (w : World) : Calls Try.prog 14 #[.agg A] w fun e w' => e = .returned (.bool b) ∧ Below w.heap.size w w' := hb ▸ single A hA w
theorem kernel_is {A : Array Value} (hA : IsArch A) {b : Bool} (hb : kb A = b) (w : World) : Calls Try.prog 18 #[.agg A] w fun e w' => e = .returned (.bool b) ∧ Below w.heap.size w w' := hb ▸ kernel A hA w

attribute [local go_sem high] eq26
set_option maxHeartbeats 8000000 in
set_option maxRecDepth 100000 in
theorem backs (A : Array Value) (hA : IsArch A) (c y0 y1 y2 y3 y4 y5 y6 y7 y8 y9 y10 y11 : Int) (h0 : U y0) (h3 : U y3) (w : World) :
    Calls Try.prog 6 #[.agg A, .int .i64 c, .agg #[.int .u32 y0, .int .u32 y1, .int .i64 y2, .int .u32 y3, .int .i64 y4, .int .u32 y5, .int .i64 y6, .int .u32 y7, .int .u32 y8, .int .i64 y9, .int .u32 y10, .int .u32 y11]] w fun e w' => e = .returned (.bool true) ∧ Below w.heap.size w w' := by
  have hs := hA.size
  have S0 := St.start w
  have U0 := Aside0.mk h0
  obtain ⟨B, eB⟩ : ∃ B, takeA A c y3 y0 = B := ⟨_, rfl⟩
  obtain ⟨C, eC⟩ : ∃ C, retA B = C := ⟨_, rfl⟩
  have hB : IsArch B := eB ▸ take_is hA c h3 h0
  have hC : IsArch C := eC ▸ ret_is hB
  have hbs := hB.size
  have hcs := hC.size
  have hbo := hB.one
  have hco := hC.one
  have H := Aside0.mk (And.intro hB (And.intro hC (And.intro (eB ▸ in_kb hA c h3 h0 : kb B = true) (And.intro (eB ▸ in_pn hA c h3 h0 : pnV B = 0) (And.intro (fun x => eB ▸ in_st hA c h3 h0 x : ∀ x, stB B x = false) (eB ▸ in_sg hA c h3 h0 : sgB B = false))))))
  have T := Aside0.mk (fun w => eB ▸ take A hA c y3 y0 w : ∀ w, Calls Try.prog 7 #[.agg A, .int .i64 c, .int .u32 y3, .int .u32 y0] w fun e w' => e = .returned (.agg B) ∧ Below w.heap.size w w')
  have R := Aside0.mk (fun w => eC ▸ ret_in B hB H.out.2.2.1 w : ∀ w, Calls Try.prog 16 #[.agg B] w fun e w' => e = .returned (.tuple #[.agg C, .int .i64 0]) ∧ Below w.heap.size w w')
  have eCA : retA (takeA A c y3 y0) = C := by rw [eB, eC]
  obtain ⟨kA, ekA⟩ : ∃ x, kb A = x := ⟨_, rfl⟩
  obtain ⟨nA, enA⟩ : ∃ x, pnV A = x := ⟨_, rfl⟩
  obtain ⟨sA, esA⟩ : ∃ x, sgB A = x := ⟨_, rfl⟩
  obtain ⟨tA, etA⟩ : ∃ x, stB A y0 = x := ⟨_, rfl⟩
  have J := Aside0.mk (And.intro ((eCA ▸ back_kb hA c h3 h0 : kb C = kb A).trans ekA) (And.intro ekA (And.intro ((eCA ▸ back_pn hA c h3 h0 : pnV C = pnV A).trans enA) (And.intro enA (And.intro ((eCA ▸ back_sg hA c h3 h0 : sgB C = sgB A).trans esA) (And.intro esA (And.intro ((eCA ▸ back_st hA c h3 h0 y0 : stB C y0 = stB A y0).trans etA) etA)))))))
  clear ekA enA esA etA
  have B0 := hB.at 0 (by decide)
  rw [← eB, in_pc hA c h3 h0, eB] at B0
  have C0 := hC.at 0 (by decide)
  rw [← eCA, back_0 hA c h3 h0, eCA] at C0
  have C17 := hC.at 17 (by decide)
  have C18 := hC.at 18 (by decide)
  have C19 := hC.at 19 (by decide)
  have C20 := hC.at 20 (by decide)
  have h51 := back_51 hA c h3 h0
  rw [eCA] at h51
  have hall := back_all hA c h3 h0
  rw [eCA] at hall
  have hx0 := hA.at 0 (by decide)
  have h17 := hA.at 17 (by decide)
  have h18 := hA.at 18 (by decide)
  have h19 := hA.at 19 (by decide)
  have h20 := hA.at 20 (by decide)
  have h21 := hA.at 21 (by decide)
  have UP := Aside0.mk (wU hA 21 (by decide))
  clear eCA eB eC
  generalize wd C 17 = z at C17 h51
  generalize wd C 18 = z18 at C18
  generalize wd C 19 = z19 at C19
  generalize wd C 20 = z20 at C20
  generalize wd A 21 = p at h21 B0 UP
  generalize wd A 0 = x0 at hx0 hall
  generalize wd A 17 = s at h17 hall h51
  generalize wd A 18 = x18 at h18 hall
  generalize wd A 19 = x19 at h19 hall
  generalize wd A 20 = x20 at h20 hall
  have HALL := Aside0.mk hall
  have H51 := Aside0.mk h51
  clear hall h51
  go_enter Try.func6, Try.ntmps6
  go_upto_region 2 with (first | ((with_reducible refine gate_dst (N := 3) rfl ?_); refine box_event ?hg (N := 3) ?hd (cs := A) (t := 26) ?hr ?_; (case hd => rfl); (case hg => rfl); (case hr => first | (go_simp; done) | (go_simp; rfl)); intro g1 hg w1 hbox hb; have S1 := S0.box hg hbox hb; clear hg hbox hb; clear S0) | ((with_reducible refine gate_dst (N := 5) rfl ?_); refine box_event ?hg (N := 5) ?hd (cs := #[.int .u32 y0, .int .u32 y1, .int .i64 y2, .int .u32 y3, .int .i64 y4, .int .u32 y5, .int .i64 y6, .int .u32 y7, .int .u32 y8, .int .i64 y9, .int .u32 y10, .int .u32 y11]) (t := 28) ?hr ?_; (case hd => rfl); (case hg => rfl); (case hr => first | (go_simp; done) | (go_simp; rfl)); intro g2 hg w2 hbox hb; have S2 := S1.box hg hbox hb; clear hg hbox hb; clear S1; have e0 := S2.cell (b := ⟨g2, #[.int .u32 y0, .int .u32 y1, .int .i64 y2, .int .u32 y3, .int .i64 y4, .int .u32 y5, .int .i64 y6, .int .u32 y7, .int .u32 y8, .int .i64 y9, .int .u32 y10, .int .u32 y11], 28⟩) (j := 0) (by simp) rfl; have e3 := S2.cell (b := ⟨g2, #[.int .u32 y0, .int .u32 y1, .int .i64 y2, .int .u32 y3, .int .i64 y4, .int .u32 y5, .int .i64 y6, .int .u32 y7, .int .u32 y8, .int .i64 y9, .int .u32 y10, .int .u32 y11], 28⟩) (j := 3) (by simp) rfl) | ((with_reducible refine gate_dst (N := 11) rfl ?_); refine wpList_load_row rfl 26 _ rfl g1 rfl 26 A (0, 0) _ (S2.heap ⟨g1, A, 26⟩ (by simp)) Try.underlying26 rfl (size_of hs) ?_) | (go_at_call 7; (with_reducible refine (T.out _).mono ?_); rintro e w3 ⟨rfl, hb⟩; have S3 := S2.call hb; clear hb; clear S2; clear e0 e3) | ((with_reducible refine gate_dst (N := 7) rfl ?_); refine box_event ?hg (N := 7) ?hd (cs := zeroA) (t := 26) ?hr ?_; (case hd => rfl); (case hg => rfl); (case hr => first | (go_simp; done) | (go_simp; rfl)); intro g3 hg w4 hbox hb; have S4 := S3.box hg hbox hb; clear hg hbox hb; clear S3) | ((with_reducible refine gate_store (t := 26) (p := 7) rfl ?_); refine wpList_store_row rfl 26 _ _ rfl g3 B rfl rfl 26 zeroA (S4.heap ⟨g3, zeroA, 26⟩ (by simp)) (size_of hbs) (by rw [hbs]; rfl) (hbo) ?_; have S5 : St w _ [⟨g3, B, 26⟩, ⟨g2, #[.int .u32 y0, .int .u32 y1, .int .i64 y2, .int .u32 y3, .int .i64 y4, .int .u32 y5, .int .i64 y6, .int .u32 y7, .int .u32 y8, .int .i64 y9, .int .u32 y10, .int .u32 y11], 28⟩, ⟨g1, A, 26⟩] := St.row (L1 := []) (b := ⟨g3, zeroA, 26⟩) S4 B; clear S4; generalize World.setRow _ _ _ = w5 at S5 ⊢))
  (try simp only [Act.put, List.setIfInBounds_toArray, List.set_cons_zero, List.set_cons_succ])
  refine wp_region_st0 S5 ?_
  haveI : Nonempty (Cls _ _) := ⟨⟨_, S5⟩⟩
  repeat (first | (go_big_quiet_want; (with_reducible refine quiet_load 26 _ rfl g3 rfl 26 B _ (fun x => x.st.heap ⟨g3, B, 26⟩ (by simp)) Try.underlying26 rfl (size_of hbs) ?_); go_big_quiet_on; (try simp only [Act.put, List.setIfInBounds_toArray, List.set_cons_zero, List.set_cons_succ])) | (go_big_quiet_want; (with_reducible refine quiet_cell 22 _ rfl _ _ rfl (.int .u32 y0) _ (fun x => x.st.cell (b := ⟨g2, #[.int .u32 y0, .int .u32 y1, .int .i64 y2, .int .u32 y3, .int .i64 y4, .int .u32 y5, .int .i64 y6, .int .u32 y7, .int .u32 y8, .int .i64 y9, .int .u32 y10, .int .u32 y11], 28⟩) (by simp) rfl) Try.underlying22 rfl ?_); go_big_quiet_on; (try simp only [Act.put, List.setIfInBounds_toArray, List.set_cons_zero, List.set_cons_succ])) | (go_big_quiet_want; (with_reducible refine quiet_cell 22 _ rfl _ _ rfl (.int .u32 p) _ (fun x => x.st.cell (b := ⟨g3, B, 26⟩) (by simp) B0) Try.underlying22 rfl ?_); go_big_quiet_on; (try simp only [Act.put, List.setIfInBounds_toArray, List.set_cons_zero, List.set_cons_succ])) | (go_big_quiet_want; (with_reducible refine quiet_cell 22 _ rfl _ _ rfl (.int .u32 p) _ (fun x => x.st.cell (b := ⟨g1, A, 26⟩) (by simp) h21) Try.underlying22 rfl ?_); go_big_quiet_on; (try simp only [Act.put, List.setIfInBounds_toArray, List.set_cons_zero, List.set_cons_succ])) | go_big_quiet_step ((first | (go_at_call 18; (with_reducible exact quiet_st (kernel_is H.out.1 (H.out.2.2.1) _))) | (go_at_call 10; (with_reducible exact quiet_st (pend_is H.out.1 (H.out.2.2.2.1) _))) | (go_at_call 12; (with_reducible exact quiet_st (stops_is H.out.1 U0.out (H.out.2.2.2.2.1 _) _))) | (go_at_call 12; (with_reducible exact quiet_st (stops_is H.out.1 UP.out (H.out.2.2.2.2.1 _) _))) | (go_at_call 14; (with_reducible exact quiet_st (single_is H.out.1 (H.out.2.2.2.2.2) _))))))
  refine wpQuiet_nil ?_
  rintro ⟨w9, S9⟩
  have h51 := H51.out
  go_upto_region 6 with (first | ((with_reducible refine gate_dst (N := 51) rfl ?_); refine wpList_load_row rfl 26 _ rfl g3 rfl 26 B (0, 0) _ (S9.heap ⟨g3, B, 26⟩ (by simp)) Try.underlying26 rfl (size_of hbs) ?_) | (go_at_call 16; (with_reducible refine (R.out _).mono ?_); rintro e w6 ⟨rfl, hb⟩; have S6 := S9.call hb; clear hb; clear S9) | ((with_reducible refine gate_dst (N := 8) rfl ?_); refine box_event ?hg (N := 8) ?hd (cs := zeroA) (t := 26) ?hr ?_; (case hd => rfl); (case hg => rfl); (case hr => first | (go_simp; done) | (go_simp; rfl)); intro g4 hg w7 hbox hb; have S7 := S6.box hg hbox hb; clear hg hbox hb; clear S6) | ((with_reducible refine gate_store (t := 26) (p := 8) rfl ?_); refine wpList_store_row rfl 26 _ _ rfl g4 C rfl rfl 26 zeroA (S7.heap ⟨g4, zeroA, 26⟩ (by simp)) (size_of hcs) (by rw [hcs]; rfl) (hco) ?_; have S8 : St w _ [⟨g4, C, 26⟩, ⟨g3, B, 26⟩, ⟨g2, #[.int .u32 y0, .int .u32 y1, .int .i64 y2, .int .u32 y3, .int .i64 y4, .int .u32 y5, .int .i64 y6, .int .u32 y7, .int .u32 y8, .int .i64 y9, .int .u32 y10, .int .u32 y11], 28⟩, ⟨g1, A, 26⟩] := St.row (L1 := []) (b := ⟨g4, zeroA, 26⟩) S7 C; clear S7; generalize World.setRow _ _ _ = w8 at S8 ⊢))
  refine wp_region_st S8 (by kernel_rfl) (by kernel_rfl) ?_
  haveI : Nonempty (Cls _ _) := ⟨⟨_, S8⟩⟩
  repeat (first | (go_big_quiet_want; (with_reducible refine quiet_load 26 _ rfl g4 rfl 26 C _ (fun x => x.st.heap ⟨g4, C, 26⟩ (by simp)) Try.underlying26 rfl (size_of hcs) ?_); go_big_quiet_on; (try simp only [Act.put, List.setIfInBounds_toArray, List.set_cons_zero, List.set_cons_succ])) | (go_big_quiet_want; (with_reducible refine quiet_load 26 _ rfl g1 rfl 26 A _ (fun x => x.st.heap ⟨g1, A, 26⟩ (by simp)) Try.underlying26 rfl (size_of hs) ?_); go_big_quiet_on; (try simp only [Act.put, List.setIfInBounds_toArray, List.set_cons_zero, List.set_cons_succ])) | (go_big_quiet_want; (with_reducible refine quiet_cell 22 _ rfl _ _ rfl (.int .u32 y0) _ (fun x => x.st.cell (b := ⟨g2, #[.int .u32 y0, .int .u32 y1, .int .i64 y2, .int .u32 y3, .int .i64 y4, .int .u32 y5, .int .i64 y6, .int .u32 y7, .int .u32 y8, .int .i64 y9, .int .u32 y10, .int .u32 y11], 28⟩) (by simp) rfl) Try.underlying22 rfl ?_); go_big_quiet_on; (try simp only [Act.put, List.setIfInBounds_toArray, List.set_cons_zero, List.set_cons_succ])) | (go_big_quiet_want; (with_reducible refine quiet_cell 22 _ rfl _ _ rfl (.int .u32 y0) _ (fun x => x.st.cell (b := ⟨g4, C, 26⟩) (by simp) C0) Try.underlying22 rfl ?_); go_big_quiet_on; (try simp only [Act.put, List.setIfInBounds_toArray, List.set_cons_zero, List.set_cons_succ])) | (go_big_quiet_want; (with_reducible refine quiet_cell 22 _ rfl _ _ rfl (.int .u32 z) _ (fun x => x.st.cell (b := ⟨g4, C, 26⟩) (by simp) C17) Try.underlying22 rfl ?_); go_big_quiet_on; (try simp only [Act.put, List.setIfInBounds_toArray, List.set_cons_zero, List.set_cons_succ])) | (go_big_quiet_want; (with_reducible refine quiet_cell 22 _ rfl _ _ rfl (.int .u32 s) _ (fun x => x.st.cell (b := ⟨g1, A, 26⟩) (by simp) h17) Try.underlying22 rfl ?_); go_big_quiet_on; (try simp only [Act.put, List.setIfInBounds_toArray, List.set_cons_zero, List.set_cons_succ])) | go_big_quiet_step ((first | (go_at_call 18; (with_reducible exact quiet_st (kernel_is H.out.2.1 J.out.1 _))) | (go_at_call 18; (with_reducible exact quiet_st (kernel_is hA J.out.2.1 _))) | (go_at_call 10; (with_reducible exact quiet_st (pend_is H.out.2.1 J.out.2.2.1 _))) | (go_at_call 10; (with_reducible exact quiet_st (pend_is hA J.out.2.2.2.1 _))) | (go_at_call 14; (with_reducible exact quiet_st (single_is H.out.2.1 J.out.2.2.2.2.1 _))) | (go_at_call 14; (with_reducible exact quiet_st (single_is hA J.out.2.2.2.2.2.1 _))) | (go_at_call 12; (with_reducible exact quiet_st (stops_is H.out.2.1 U0.out J.out.2.2.2.2.2.2.1 _))) | (go_at_call 12; (with_reducible exact quiet_st (stops_is hA U0.out J.out.2.2.2.2.2.2.2 _))))))
  refine wpQuiet_nil ?_
  rintro ⟨w10, S10⟩
  have hne : g4 ≠ g1 := by
    have hd := S10.dist
    simp only [List.pairwise_cons, List.mem_cons, List.not_mem_nil, or_false] at hd
    exact hd.1 _ (.inr (.inr rfl))
  have S11 := S10
  have f0 := S10.frozen (b := ⟨g4, C, 26⟩) (by simp) 0
  have f17 := S10.frozen (b := ⟨g4, C, 26⟩) (by simp) 17
  have f18 := S10.frozen (b := ⟨g4, C, 26⟩) (by simp) 18
  have f19 := S10.frozen (b := ⟨g4, C, 26⟩) (by simp) 19
  have f20 := S10.frozen (b := ⟨g4, C, 26⟩) (by simp) 20
  have k0 := S10.cell (b := ⟨g4, C, 26⟩) (by simp) C0
  have k17 := S10.cell (b := ⟨g4, C, 26⟩) (by simp) C17
  have k18 := S10.cell (b := ⟨g4, C, 26⟩) (by simp) C18
  have k19 := S10.cell (b := ⟨g4, C, 26⟩) (by simp) C19
  have k20 := S10.cell (b := ⟨g4, C, 26⟩) (by simp) C20
  have r0 := S10.cell (b := ⟨g1, A, 26⟩) (by simp) hx0
  have r17 := S10.cell (b := ⟨g1, A, 26⟩) (by simp) h17
  have r18 := S10.cell (b := ⟨g1, A, 26⟩) (by simp) h18
  have r19 := S10.cell (b := ⟨g1, A, 26⟩) (by simp) h19
  have r20 := S10.cell (b := ⟨g1, A, 26⟩) (by simp) h20
  have hne' : g1 ≠ g4 := fun e => hne e.symm
  have T11 := Aside0.mk S11
  go_upto_region 8 with fail
  clear S10 S11
  go_region_held3 (fun w' => w'.cell? ⟨g1, 0, none⟩ = some (.int .u32 x0) ∧ w'.cell? ⟨g1, 17, none⟩ = some (.int .u32 s) ∧ w'.cell? ⟨g1, 18, none⟩ = some (.int .u32 x18) ∧ w'.cell? ⟨g1, 19, none⟩ = some (.int .u32 x19) ∧ w'.cell? ⟨g1, 20, none⟩ = some (.int .u32 x20)) (go_keep) (fail)
  have S11 := T11.out
  have S12 : St w _ [⟨g4, (stw (stw (stw (stw (stw C 0 x0) 17 s) 18 x18) 19 x19) 20 x20), 26⟩, ⟨g3, B, 26⟩, ⟨g2, #[.int .u32 y0, .int .u32 y1, .int .i64 y2, .int .u32 y3, .int .i64 y4, .int .u32 y5, .int .i64 y6, .int .u32 y7, .int .u32 y8, .int .i64 y9, .int .u32 y10, .int .u32 y11], 28⟩, ⟨g1, A, 26⟩] := (St.set (L1 := []) (b := ⟨g4, (stw (stw (stw (stw C 0 x0) 17 s) 18 x18) 19 x19), 26⟩) (St.set (L1 := []) (b := ⟨g4, (stw (stw (stw C 0 x0) 17 s) 18 x18), 26⟩) (St.set (L1 := []) (b := ⟨g4, (stw (stw C 0 x0) 17 s), 26⟩) (St.set (L1 := []) (b := ⟨g4, (stw C 0 x0), 26⟩) (St.set (L1 := []) (b := ⟨g4, C, 26⟩) (S11) 0 (.int .u32 x0)) 17 (.int .u32 s)) 18 (.int .u32 x18)) 19 (.int .u32 x19)) 20 (.int .u32 x20)).drew
  rw [HALL.out] at S12
  clear f0 f17 f18 f19 f20 k0 k17 k18 k19 k20 r0 r17 r18 r19 r20 S11
  (try clear hHeld)
  generalize World.drew _ = w12 at S12 ⊢
  go_upto_region 9 with fail
  (try simp only [Act.put, List.setIfInBounds_toArray, List.set_cons_zero, List.set_cons_succ])
  refine wp_region_st0 S12 ?_
  haveI : Nonempty (Cls _ _) := ⟨⟨_, S12⟩⟩
  repeat (first | (go_big_quiet_want; (with_reducible refine quiet_load 26 _ rfl g4 rfl 26 A _ (fun x => x.st.heap ⟨g4, A, 26⟩ (by simp)) Try.underlying26 rfl (size_of hs) ?_); go_big_quiet_on; (try simp only [Act.put, List.setIfInBounds_toArray, List.set_cons_zero, List.set_cons_succ])) | (go_big_quiet_want; (with_reducible refine quiet_load 26 _ rfl g1 rfl 26 A _ (fun x => x.st.heap ⟨g1, A, 26⟩ (by simp)) Try.underlying26 rfl (size_of hs) ?_); go_big_quiet_on; (try simp only [Act.put, List.setIfInBounds_toArray, List.set_cons_zero, List.set_cons_succ])) | go_big_quiet_step ((first | (go_at_call 9; (with_reducible exact quiet_st (awake _))))))
  refine wpQuiet_nil ?_
  rintro ⟨w9, S9⟩
  go_wp2
  go_ret
  exact ⟨rfl, S9.below⟩

end Go.Proofs.Ytegpadmlidaljaa.Csr
