/- What of a core a trap and a return keep; the chapter's examples; the walks of TrapTakes, TrapAsks and TrapReturns. The one condition is that the cells are a core's and an event's. -/
import Derived.Test.YtegpadmlidaljaaTrap3
import Derived.Test.YtegpadmlidaljaaEq
namespace Go.Proofs.Ytegpadmlidaljaa.Csr
open Go Go.Proofs Go.RowKit Go.Proofs.YtegpadmlidaljaaW.PrintWords Go.Proofs.YtegpadmlidaljaaW.PrintLast Go.Proofs.YtegpadmlidaljaaW.PrintMore Go.Proofs.Ytegpadmlidaljaa.Boxes Go.Proofs.Ytegpadmlidaljaa.Arch Go.Proofs.Ytegpadmlidaljaa.Plain Go.Proofs.Ytegpadmlidaljaa.TrapP
set_option linter.unusedVariables false
set_option linter.unusedSimpArgs false
theorem stw_comm (A : Array Value) (i j : Nat) (v u : Int) (h : i ≠ j) : stw (stw A i v) j u = stw (stw A j u) i v := Array.setIfInBounds_comm _ _ h
section
variable {A : Array Value} (hA : IsArch A)
include hA
theorem wU (i : Nat) (hi : i < 29) : U (wd A i) := hA.lo i hi
omit hA in
theorem cause_U (c : Int) : U (Go.bits .and .u32 (c % 4294967296) 31) := and_U ⟨by omega, by omega⟩ ⟨by decide, by decide⟩
omit hA in
theorem stT_U {s : Int} (hs : U s) : U (stT s) := stT_rT hs ▸ rT_U hs
omit hA in
theorem stR_U {s : Int} (hs : U s) : U (stR s) := stR_rR hs ▸ rR_U hs
theorem rtakeA_takeA (c v e : Int) : rtakeA A c v e = takeA A c v e := by
  unfold rtakeA takeA
  rw [stT_rT (wU hA 17 (by decide))]
  generalize rT (wd A 17) = s
  rw [stw_comm A 17 18 _ _ (by decide), stw_comm _ 17 19 _ _ (by decide), stw_comm _ 17 20 _ _ (by decide)]
theorem rretA_retA : rretA A = retA A := by
  unfold rretA retA
  rw [stR_rR (wU hA 17 (by decide))]
theorem take_is (c : Int) {v e : Int} (hv : U v) (he : U e) : IsArch (takeA A c v e) := by
  have hc := cause_U c
  have hs := stT_U (wU hA 17 (by decide))
  have hy := wU hA 21 (by decide)
  exact ((((hA.stw (by decide) hc.1 hc.2).stw (by decide) hv.1 hv.2).stw (by decide) he.1 he.2).stw (by decide) hs.1 hs.2).stw (by decide) hy.1 hy.2
theorem ret_is : IsArch (retA A) := by
  have hs := stR_U (wU hA 17 (by decide))
  have hy := wU hA 20 (by decide)
  exact (hA.stw (by decide) hs.1 hs.2).stw (by decide) hy.1 hy.2
theorem take_wd (c : Int) {v e : Int} (hv : U v) (he : U e) (j : Nat) : wd (takeA A c v e) j = if 0 = j then wd A 21 else if 17 = j then stT (wd A 17) else if 20 = j then e else if 19 = j then v else if 18 = j then Go.bits .and .u32 (c % 4294967296) 31 else wd A j := by
  have hc := cause_U c
  have hs := stT_U (wU hA 17 (by decide))
  have h1 := hA.stw (i := 18) (by decide) hc.1 hc.2
  have h2 := h1.stw (i := 19) (by decide) hv.1 hv.2
  have h3 := h2.stw (i := 20) (by decide) he.1 he.2
  have h4 := h3.stw (i := 17) (by decide) hs.1 hs.2
  unfold takeA
  rw [wd_stw h4 _ _ _ (by decide), wd_stw h3 _ _ _ (by decide), wd_stw h2 _ _ _ (by decide), wd_stw h1 _ _ _ (by decide), wd_stw hA _ _ _ (by decide)]
theorem ret_wd (j : Nat) : wd (retA A) j = if 0 = j then wd A 20 else if 17 = j then stR (wd A 17) else wd A j := by
  have hs := stR_U (wU hA 17 (by decide))
  unfold retA
  rw [wd_stw (hA.stw (i := 17) (by decide) hs.1 hs.2) _ _ _ (by decide), wd_stw hA _ _ _ (by decide)]
end
theorem kb_bt {A : Array Value} (hA : IsArch A) : kb A = bt (wd A 17) 0 := test (wU hA 17 (by decide)) l0 (by decide)
/-- What trap.Pending comes to. -/
theorem pend (A : Array Value) (hA : IsArch A) (w : World) : Calls Try.prog 10 #[.agg A] w fun e w' => e = .returned (.int .i64 (pnV A)) ∧ Below w.heap.size w w' := by
  cases h : (kb A && !(Go.bits .and .u32 (wd A 17) 2 != 0)) with
  | true => exact pend_off A hA _ _ _ _ _ h rfl rfl rfl rfl rfl w
  | false => exact pend_on A hA _ _ _ _ _ h rfl rfl rfl rfl rfl w
theorem rpending (A : Array Value) (hA : IsArch A) (w : World) : Calls Try.prog 11 #[.agg A] w fun e w' => e = .returned (.int .i64 (pnV A)) ∧ Below w.heap.size w w' := rpend A hA _ _ _ _ _ rfl rfl rfl rfl rfl w
theorem pend_is {A : Array Value} (hA : IsArch A) {p : Int} (hp : pnV A = p) (w : World) : Calls Try.prog 10 #[.agg A] w fun e w' => e = .returned (.int .i64 p) ∧ Below w.heap.size w w' := hp ▸ pend A hA w
theorem stops (A : Array Value) (hA : IsArch A) (p : Int) (hp : U p) (w : World) : Calls Try.prog 12 #[.agg A, .int .u32 p] w fun e w' => e = .returned (.bool (stB A p)) ∧ Below w.heap.size w w' := by
  cases hk : kb A with
  | true => exact stops_in A hA hk p hp w
  | false => exact stops_user A hA hk p hp w
theorem rstops (A : Array Value) (hA : IsArch A) (p : Int) (hp : U p) (w : World) : Calls Try.prog 13 #[.agg A, .int .u32 p] w fun e w' => e = .returned (.bool (stB A p)) ∧ Below w.heap.size w w' := by
  rw [← stB_rstB hA hp]
  cases hk : kb A with
  | true => exact rstops_in A hA hk p hp w
  | false => exact rstops_user A hA hk p hp w
theorem single (A : Array Value) (hA : IsArch A) (w : World) : Calls Try.prog 14 #[.agg A] w fun e w' => e = .returned (.bool (sgB A)) ∧ Below w.heap.size w w' := by
  cases hk : kb A with
  | true => exact single_in A hA hk w
  | false => exact single_user A hA hk w
theorem rsingle (A : Array Value) (hA : IsArch A) (w : World) : Calls Try.prog 15 #[.agg A] w fun e w' => e = .returned (.bool (sgB A)) ∧ Below w.heap.size w w' := by
  cases hk : kb A with
  | true => exact rsingle_in A hA hk w
  | false => exact rsingle_user A hA hk w
theorem rtake (A : Array Value) (hA : IsArch A) (c v ep : Int) (w : World) : Calls Try.prog 8 #[.agg A, .int .i64 c, .int .u32 v, .int .u32 ep] w fun e w' => e = .returned (.agg (takeA A c v ep)) ∧ Below w.heap.size w w' :=
  rtakeA_takeA hA c v ep ▸ rtake0 A hA c v ep w

/-- The chapter's core. -/
def exA : Array Value := (stw (stw (stw (stw zeroA 17 2) 21 64) 27 6) 26 4)
theorem ex_is : IsArch exA := (((zeroA_is.stw (by decide) (by decide) (by decide)).stw (by decide) (by decide) (by decide)).stw (by decide) (by decide) (by decide)).stw (by decide) (by decide) (by decide)
theorem exB_is : IsArch (takeA exA 7 0 12) := take_is ex_is 7 ⟨by decide, by decide⟩ ⟨by decide, by decide⟩
theorem ex_pn : pnV exA = 18 := by decide +kernel
theorem exB_pn : pnV (takeA exA 7 0 12) = 0 := by decide +kernel
theorem exB_0 : (takeA exA 7 0 12)[0]? = some (.int .u32 64) := by rw [exB_is.at 0 (by decide)]; exact congrArg (fun x => some (Value.int .u32 x)) (by decide +kernel)
theorem exB_17 : (takeA exA 7 0 12)[17]? = some (.int .u32 9) := by rw [exB_is.at 17 (by decide)]; exact congrArg (fun x => some (Value.int .u32 x)) (by decide +kernel)

theorem ex_set {w W : World} {g : Nat} (S : St w W [⟨g, zeroA, 26⟩]) : St w ((((W.setCell ⟨g, 17, none⟩ (.int .u32 2)).setCell ⟨g, 21, none⟩ (.int .u32 64)).setCell ⟨g, 27, none⟩ (.int .u32 6)).setCell ⟨g, 26, none⟩ (.int .u32 4)) [⟨g, exA, 26⟩] :=
  St.set (L1 := []) (b := ⟨g, (stw (stw (stw zeroA 17 2) 21 64) 27 6), 26⟩) (St.set (L1 := []) (b := ⟨g, (stw (stw zeroA 17 2) 21 64), 26⟩) (St.set (L1 := []) (b := ⟨g, (stw zeroA 17 2), 26⟩) (St.set (L1 := []) (b := ⟨g, zeroA, 26⟩) S 17 (.int .u32 2)) 21 (.int .u32 64)) 27 (.int .u32 6)) 26 (.int .u32 4)
set_option maxHeartbeats 4000000 in
theorem awake0 (X T : Array Value) (hX : IsArch X) (hT : IsArch T) (pX : pnV X = 18) (pT : pnV T = 0) (c0 : T[0]? = some (.int .u32 64)) (c17 : T[17]? = some (.int .u32 9))
    (hset : ∀ (g : Nat) (W : World) {w : World}, St w W [⟨g, zeroA, 26⟩] → St w ((((W.setCell ⟨g, 17, none⟩ (.int .u32 2)).setCell ⟨g, 21, none⟩ (.int .u32 64)).setCell ⟨g, 27, none⟩ (.int .u32 6)).setCell ⟨g, 26, none⟩ (.int .u32 4)) [⟨g, X, 26⟩])
    (htake : ∀ W, Calls Try.prog 7 #[.agg X, .int .i64 7, .int .u32 0, .int .u32 12] W fun e w' => e = .returned (.agg T) ∧ Below W.heap.size W w') (w : World) : Calls Try.prog 9 #[] w fun e w' => e = .returned (.bool true) ∧ Below w.heap.size w w' := by
  have S0 := St.start w
  have hXs := hX.size
  have hTs := hT.size
  have hTo := hT.one
  have HX := Aside0.mk hset
  have HT := Aside0.mk htake
  have HP := Aside0.mk (And.intro pX pT)
  have HQ := Aside0.mk (And.intro (zeroA_is.at 17 (by decide)) (And.intro (zeroA_is.at 21 (by decide)) (And.intro (zeroA_is.at 27 (by decide)) (zeroA_is.at 26 (by decide)))))
  clear hset htake pX pT
  generalize wd zeroA 17 = z17 at HQ
  generalize wd zeroA 21 = z21 at HQ
  generalize wd zeroA 27 = z27 at HQ
  generalize wd zeroA 26 = z26 at HQ
  go_enter Try.func9, Try.ntmps9
  go_upto_region 4 with (first | ((with_reducible refine gate_dst (N := 1) rfl ?_); refine box_event ?hg (N := 1) ?hd (cs := zeroA) (t := 26) ?hr ?_; (case hd => rfl); (case hg => rfl); (case hr => first | (go_simp; done) | (go_simp; rfl)); intro g1 hg w1 hbox hb; have S1 := S0.box hg hbox hb; clear hg hbox hb; clear S0) | ((with_reducible refine gate_store (t := 26) (p := 1) rfl ?_); refine wpList_store_row rfl 26 _ _ rfl g1 zeroA rfl rfl 26 zeroA (S1.heap ⟨g1, zeroA, 26⟩ (by simp)) (size_of rfl) rfl zeroA_is.one ?_; have S2 : St w _ [⟨g1, zeroA, 26⟩] := St.row (L1 := []) (b := ⟨g1, zeroA, 26⟩) S1 zeroA; clear S1; generalize World.setRow _ _ _ = w2 at S2 ⊢; have q17 := S2.cell (b := ⟨g1, zeroA, 26⟩) (by simp) HQ.out.1; have q21 := S2.cell (b := ⟨g1, zeroA, 26⟩) (by simp) HQ.out.2.1; have q27 := S2.cell (b := ⟨g1, zeroA, 26⟩) (by simp) HQ.out.2.2.1; have q26 := S2.cell (b := ⟨g1, zeroA, 26⟩) (by simp) HQ.out.2.2.2; have f17 := S2.frozen (b := ⟨g1, zeroA, 26⟩) (by simp) 17; have f21 := S2.frozen (b := ⟨g1, zeroA, 26⟩) (by simp) 21; have f27 := S2.frozen (b := ⟨g1, zeroA, 26⟩) (by simp) 27; have f26 := S2.frozen (b := ⟨g1, zeroA, 26⟩) (by simp) 26) | ((with_reducible refine gate_dst (N := 12) rfl ?_); have S3 := HX.out g1 _ S2; clear S2 q17 q21 q27 q26 f17 f21 f27 f26; refine wpList_load_row rfl 26 _ rfl g1 rfl 26 X (0, 0) _ (S3.heap ⟨g1, X, 26⟩ (by simp)) Try.underlying26 rfl (size_of hXs) ?_; generalize World.setCell _ _ _ = w3 at S3 ⊢) | (go_at_call 7; (with_reducible refine (HT.out _).mono ?_); rintro e w4 ⟨rfl, hb⟩; have S4 := S3.call hb; clear hb; clear S3) | ((with_reducible refine gate_dst (N := 2) rfl ?_); refine box_event ?hg (N := 2) ?hd (cs := zeroA) (t := 26) ?hr ?_; (case hd => rfl); (case hg => rfl); (case hr => first | (go_simp; done) | (go_simp; rfl)); intro g2 hg w5 hbox hb; have S5 := S4.box hg hbox hb; clear hg hbox hb; clear S4) | ((with_reducible refine gate_store (t := 26) (p := 2) rfl ?_); refine wpList_store_row rfl 26 _ _ rfl g2 T rfl rfl 26 zeroA (S5.heap ⟨g2, zeroA, 26⟩ (by simp)) (size_of hTs) (by rw [hTs]; rfl) hTo ?_; have S6 : St w _ [⟨g2, T, 26⟩, ⟨g1, X, 26⟩] := St.row (L1 := []) (b := ⟨g2, zeroA, 26⟩) S5 T; clear S5; generalize World.setRow _ _ _ = w6 at S6 ⊢))
  (try simp only [Act.put, List.setIfInBounds_toArray, List.set_cons_zero, List.set_cons_succ])
  refine wp_region_st0 S6 ?_
  haveI : Nonempty (Cls _ _) := ⟨⟨_, S6⟩⟩
  repeat (first | (go_big_quiet_want; (with_reducible refine quiet_load 26 _ rfl g1 rfl 26 X _ (fun x => x.st.heap ⟨g1, X, 26⟩ (by simp)) Try.underlying26 rfl (size_of hXs) ?_); go_big_quiet_on; (try simp only [Act.put, List.setIfInBounds_toArray, List.set_cons_zero, List.set_cons_succ])) | (go_big_quiet_want; (with_reducible refine quiet_load 26 _ rfl g2 rfl 26 T _ (fun x => x.st.heap ⟨g2, T, 26⟩ (by simp)) Try.underlying26 rfl (size_of hTs) ?_); go_big_quiet_on; (try simp only [Act.put, List.setIfInBounds_toArray, List.set_cons_zero, List.set_cons_succ])) | (go_big_quiet_want; (with_reducible refine quiet_cell 22 _ rfl _ _ rfl (.int .u32 64) _ (fun x => x.st.cell (b := ⟨g2, T, 26⟩) (by simp) c0) Try.underlying22 rfl ?_); go_big_quiet_on; (try simp only [Act.put, List.setIfInBounds_toArray, List.set_cons_zero, List.set_cons_succ])) | (go_big_quiet_want; (with_reducible refine quiet_cell 22 _ rfl _ _ rfl (.int .u32 9) _ (fun x => x.st.cell (b := ⟨g2, T, 26⟩) (by simp) c17) Try.underlying22 rfl ?_); go_big_quiet_on; (try simp only [Act.put, List.setIfInBounds_toArray, List.set_cons_zero, List.set_cons_succ])) | go_big_quiet_step ((first | (go_at_call 10; (with_reducible exact quiet_st (pend_is hX HP.out.1 _))) | (go_at_call 10; (with_reducible exact quiet_st (pend_is hT HP.out.2 _))))))
  refine wpQuiet_nil ?_
  rintro ⟨w9, S9⟩
  go_wp2
  go_ret
  exact ⟨rfl, S9.below⟩
theorem awake (w : World) : Calls Try.prog 9 #[] w fun e w' => e = .returned (.bool true) ∧ Below w.heap.size w w' :=
  awake0 exA (takeA exA 7 0 12) ex_is exB_is ex_pn exB_pn exB_0 exB_17 (fun g W {w} S => ex_set S) (fun W => take exA ex_is 7 0 12 W) w

attribute [local go_sem high] eq26
set_option maxHeartbeats 4000000 in
theorem takes (A : Array Value) (hA : IsArch A) (c y0 y1 y2 y3 y4 y5 y6 y7 y8 y9 y10 y11 : Int) (h0 : U y0) (h3 : U y3) (w : World) :
    Calls Try.prog 3 #[.agg A, .int .i64 c, .agg #[.int .u32 y0, .int .u32 y1, .int .i64 y2, .int .u32 y3, .int .i64 y4, .int .u32 y5, .int .i64 y6, .int .u32 y7, .int .u32 y8, .int .i64 y9, .int .u32 y10, .int .u32 y11]] w fun e w' => e = .returned (.bool true) ∧ Below w.heap.size w w' := by
  have hs := hA.size
  have S0 := St.start w
  have hT := take_is hA c h3 h0
  go_enter Try.func3, Try.ntmps3
  go_upto_region 1 with (first | ((with_reducible refine gate_dst (N := 3) rfl ?_); refine box_event ?hg (N := 3) ?hd (cs := A) (t := 26) ?hr ?_; (case hd => rfl); (case hg => rfl); (case hr => first | (go_simp; done) | (go_simp; rfl)); intro g1 hg w1 hbox hb; have S1 := S0.box hg hbox hb; clear hg hbox hb; clear S0) | ((with_reducible refine gate_dst (N := 5) rfl ?_); refine box_event ?hg (N := 5) ?hd (cs := #[.int .u32 y0, .int .u32 y1, .int .i64 y2, .int .u32 y3, .int .i64 y4, .int .u32 y5, .int .i64 y6, .int .u32 y7, .int .u32 y8, .int .i64 y9, .int .u32 y10, .int .u32 y11]) (t := 28) ?hr ?_; (case hd => rfl); (case hg => rfl); (case hr => first | (go_simp; done) | (go_simp; rfl)); intro g2 hg w2 hbox hb; have S2 := S1.box hg hbox hb; clear hg hbox hb; clear S1))
  refine wp_region_st S2 (by kernel_rfl) (by kernel_rfl) ?_
  haveI : Nonempty (Cls _ _) := ⟨⟨_, S2⟩⟩
  repeat (first | (go_big_quiet_want; (with_reducible refine quiet_load 26 _ rfl g1 rfl 26 A _ (fun x => x.st.heap ⟨g1, A, 26⟩ (by simp)) Try.underlying26 rfl (size_of hs) ?_); go_big_quiet_on; (try simp only [Act.put, List.setIfInBounds_toArray, List.set_cons_zero, List.set_cons_succ])) | (go_big_quiet_want; (with_reducible refine quiet_cell 22 _ rfl _ _ rfl (.int .u32 y3) _ (fun x => x.st.cell (b := ⟨g2, #[.int .u32 y0, .int .u32 y1, .int .i64 y2, .int .u32 y3, .int .i64 y4, .int .u32 y5, .int .i64 y6, .int .u32 y7, .int .u32 y8, .int .i64 y9, .int .u32 y10, .int .u32 y11], 28⟩) (by simp) rfl) Try.underlying22 rfl ?_); go_big_quiet_on; (try simp only [Act.put, List.setIfInBounds_toArray, List.set_cons_zero, List.set_cons_succ])) | (go_big_quiet_want; (with_reducible refine quiet_cell 22 _ rfl _ _ rfl (.int .u32 y0) _ (fun x => x.st.cell (b := ⟨g2, #[.int .u32 y0, .int .u32 y1, .int .i64 y2, .int .u32 y3, .int .i64 y4, .int .u32 y5, .int .i64 y6, .int .u32 y7, .int .u32 y8, .int .i64 y9, .int .u32 y10, .int .u32 y11], 28⟩) (by simp) rfl) Try.underlying22 rfl ?_); go_big_quiet_on; (try simp only [Act.put, List.setIfInBounds_toArray, List.set_cons_zero, List.set_cons_succ])) | go_big_quiet_step ((first | (go_at_call 7; exact quiet_st (take A hA c y3 y0 _)) | (go_at_call 8; exact quiet_st (rtake A hA c y3 y0 _)) | (go_at_call 9; exact quiet_st (awake _)))))
  refine wpQuiet_nil ?_
  rintro ⟨w9, S9⟩
  go_wp2
  go_ret
  exact ⟨rfl, S9.below⟩

set_option maxHeartbeats 4000000 in
theorem asks (A : Array Value) (hA : IsArch A) (p : Int) (hp : U p) (w : World) :
    Calls Try.prog 4 #[.agg A, .int .u32 p] w fun e w' => e = .returned (.bool true) ∧ Below w.heap.size w w' := by
  have hs := hA.size
  have S0 := St.start w
  go_enter Try.func4, Try.ntmps4
  go_upto_region 1 with (first | ((with_reducible refine gate_dst (N := 2) rfl ?_); refine box_event ?hg (N := 2) ?hd (cs := A) (t := 26) ?hr ?_; (case hd => rfl); (case hg => rfl); (case hr => first | (go_simp; done) | (go_simp; rfl)); intro g1 hg w1 hbox hb; have S1 := S0.box hg hbox hb; clear hg hbox hb; clear S0))
  refine wp_region_st S1 (by kernel_rfl) (by kernel_rfl) ?_
  haveI : Nonempty (Cls _ _) := ⟨⟨_, S1⟩⟩
  repeat (first | (go_big_quiet_want; (with_reducible refine quiet_load 26 _ rfl g1 rfl 26 A _ (fun x => x.st.heap ⟨g1, A, 26⟩ (by simp)) Try.underlying26 rfl (size_of hs) ?_); go_big_quiet_on; (try simp only [Act.put, List.setIfInBounds_toArray, List.set_cons_zero, List.set_cons_succ])) | go_big_quiet_step ((first | (go_at_call 10; exact quiet_st (pend A hA _)) | (go_at_call 11; exact quiet_st (rpending A hA _)) | (go_at_call 12; exact quiet_st (stops A hA p hp _)) | (go_at_call 13; exact quiet_st (rstops A hA p hp _)) | (go_at_call 14; exact quiet_st (single A hA _)) | (go_at_call 15; exact quiet_st (rsingle A hA _)) | (go_at_call 9; exact quiet_st (awake _)))))
  refine wpQuiet_nil ?_
  rintro ⟨w9, S9⟩
  go_wp2
  go_ret
  exact ⟨rfl, S9.below⟩

theorem rets (A : Array Value) (hA : IsArch A) (B : Array Value) (m : Int) (hB : IsArch B) (h16 : ∀ W, Calls Try.prog 16 #[.agg A] W fun e w' => e = .returned (.tuple #[.agg B, .int .i64 m]) ∧ Below W.heap.size W w')
    (h17 : ∀ W, Calls Try.prog 17 #[.agg A] W fun e w' => e = .returned (.tuple #[.agg B, .int .i64 m]) ∧ Below W.heap.size W w') (w : World) :
    Calls Try.prog 5 #[.agg A] w fun e w' => e = .returned (.bool true) ∧ Below w.heap.size w w' := by
  have hs := hA.size
  have hbs := hB.size
  have hbo := hB.one
  have H16 := Aside0.mk h16
  have H17 := Aside0.mk h17
  clear h16 h17
  have S0 := St.start w
  go_enter Try.func5, Try.ntmps5
  go_upto_region 3 with (first | ((with_reducible refine gate_dst (N := 1) rfl ?_); refine box_event ?hg (N := 1) ?hd (cs := A) (t := 26) ?hr ?_; (case hd => rfl); (case hg => rfl); (case hr => first | (go_simp; done) | (go_simp; rfl)); intro g1 hg w1 hbox hb; have S1 := S0.box hg hbox hb; clear hg hbox hb; clear S0) | ((with_reducible refine gate_dst (N := 8) rfl ?_); refine wpList_load_row rfl 26 _ rfl g1 rfl 26 A (0, 0) _ (S1.heap ⟨g1, A, 26⟩ (by simp)) Try.underlying26 rfl (size_of hs) ?_) | (go_at_call 16; (with_reducible refine (H16.out _).mono ?_); rintro e w2 ⟨rfl, hb⟩; have S2 := S1.call hb; clear hb; clear S1) | ((with_reducible refine gate_dst (N := 3) rfl ?_); refine box_event ?hg (N := 3) ?hd (cs := zeroA) (t := 26) ?hr ?_; (case hd => rfl); (case hg => rfl); (case hr => first | (go_simp; done) | (go_simp; rfl)); intro g2 hg w3 hbox hb; have S3 := S2.box hg hbox hb; clear hg hbox hb; clear S2) | ((with_reducible refine gate_store (t := 26) (p := 3) rfl ?_); refine wpList_store_row rfl 26 _ _ rfl g2 B rfl rfl 26 zeroA (S3.heap ⟨g2, zeroA, 26⟩ (by simp)) (size_of hbs) (by rw [hbs]; rfl) (hbo) ?_; have S4 : St w _ [⟨g2, B, 26⟩, ⟨g1, A, 26⟩] := St.row (L1 := []) (b := ⟨g2, zeroA, 26⟩) S3 B; clear S3; generalize World.setRow _ _ _ = w4 at S4 ⊢) | ((with_reducible refine gate_dst (N := 13) rfl ?_); refine wpList_load_row rfl 26 _ rfl g1 rfl 26 A (0, 0) _ (S4.heap ⟨g1, A, 26⟩ (by simp)) Try.underlying26 rfl (size_of hs) ?_) | (go_at_call 17; (with_reducible refine (H17.out _).mono ?_); rintro e w5 ⟨rfl, hb⟩; have S5 := S4.call hb; clear hb; clear S4) | ((with_reducible refine gate_dst (N := 5) rfl ?_); refine box_event ?hg (N := 5) ?hd (cs := zeroA) (t := 26) ?hr ?_; (case hd => rfl); (case hg => rfl); (case hr => first | (go_simp; done) | (go_simp; rfl)); intro g3 hg w6 hbox hb; have S6 := S5.box hg hbox hb; clear hg hbox hb; clear S5) | ((with_reducible refine gate_store (t := 26) (p := 5) rfl ?_); refine wpList_store_row rfl 26 _ _ rfl g3 B rfl rfl 26 zeroA (S6.heap ⟨g3, zeroA, 26⟩ (by simp)) (size_of hbs) (by rw [hbs]; rfl) (hbo) ?_; have S7 : St w _ [⟨g3, B, 26⟩, ⟨g2, B, 26⟩, ⟨g1, A, 26⟩] := St.row (L1 := []) (b := ⟨g3, zeroA, 26⟩) S6 B; clear S6; generalize World.setRow _ _ _ = w7 at S7 ⊢))
  refine wp_region_st0 S7 ?_
  haveI : Nonempty (Cls _ _) := ⟨⟨_, S7⟩⟩
  repeat (first | (go_big_quiet_want; (with_reducible refine quiet_load 26 _ rfl g2 rfl 26 B _ (fun x => x.st.heap ⟨g2, B, 26⟩ (by simp)) Try.underlying26 rfl (size_of hbs) ?_); go_big_quiet_on; (try simp only [Act.put, List.setIfInBounds_toArray, List.set_cons_zero, List.set_cons_succ])) | (go_big_quiet_want; (with_reducible refine quiet_load 26 _ rfl g3 rfl 26 B _ (fun x => x.st.heap ⟨g3, B, 26⟩ (by simp)) Try.underlying26 rfl (size_of hbs) ?_); go_big_quiet_on; (try simp only [Act.put, List.setIfInBounds_toArray, List.set_cons_zero, List.set_cons_succ])) | go_big_quiet_step ((first | (go_at_call 9; exact quiet_st (awake _)))))
  refine wpQuiet_nil ?_
  rintro ⟨w9, S9⟩
  go_wp2
  go_ret
  exact ⟨rfl, S9.below⟩
theorem returns (A : Array Value) (hA : IsArch A) (w : World) : Calls Try.prog 5 #[.agg A] w fun e w' => e = .returned (.bool true) ∧ Below w.heap.size w w' := by
  cases hk : kb A with
  | true => exact rets A hA (retA A) 0 (ret_is hA) (fun W => ret_in A hA hk W) (fun W => rretA_retA hA ▸ rret_in A hA hk W) w
  | false => exact rets A hA zeroA 8 zeroA_is (fun W => ret_user A hA hk W) (fun W => rret_user A hA hk W) w

theorem wfu {a : Int} (h : (Lit.int .u32 a).wf = true) : 0 ≤ a ∧ a < 4294967296 := by have := wf_u32 h; omega
theorem arch_is (l : List Int) (hl : l.length = 29) (hw : ∀ x ∈ l, 0 ≤ x ∧ x < 4294967296) (b : Bool) : IsArch (l.map (Value.int .u32) ++ [Value.bool b]).toArray := by
  refine ⟨by simp [hl], fun i hi => ?_, b, ?_⟩
  · have := hw _ (List.getElem_mem (l := l) (n := i) (by omega))
    refine ⟨l[i], ?_, this.1, this.2⟩
    rw [List.getElem?_toArray, List.getElem?_append_left (by simp [hl, hi]), List.getElem?_map, List.getElem?_eq_getElem (by omega)]
    rfl
  · rw [List.getElem?_toArray, List.getElem?_append_right (by simp [hl])]
    simp [hl]

end Go.Proofs.Ytegpadmlidaljaa.Csr
