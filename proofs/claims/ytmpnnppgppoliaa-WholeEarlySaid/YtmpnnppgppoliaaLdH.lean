/- What sq.Pop comes to: a walk of the code. The conditions are those that each theorem names. -/
import Derived.Test.YtmpnnppgppoliaaLdG
namespace Go.Proofs.Ytmpnnppgppoliaa.Ld
open Go Go.Proofs Go.RowKit Go.Proofs.YtmpnnppgppoliaaW.PrintWords Go.Proofs.YtmpnnppgppoliaaW.PrintLast Go.Proofs.YtmpnnppgppoliaaW.PrintMore Go.Proofs.Ytmpnnppgppoliaa.Boxes Go.Proofs.Ytmpnnppgppoliaa.PFwd
attribute [local go_sem] max2_int min2_int max_two min_two max_three min_three max_four min_four   -- for this text's walks alone
set_option linter.unusedVariables false
set_option linter.unusedSimpArgs false

theorem Rrow {α : Type} {d : Kd α} {e : Nat} {w : World} {base g : Nat} {v : Value} {xs : List α} (h : d.R e w base (fun _ => True) v xs) (hg : g < base) (cs : Array Value) : d.R e (w.setRow g cs) base (fun _ => True) v xs :=
  Kd.R_mono (Kd.R_move (Kd.R_mono (ok' := fun k => k ≠ g) (Kd.R_bound h) (fun k hk => by have := hk.2.1; omega)) (fun k hk => heap_setRow_far w g cs k hk)) (fun _ _ => trivial)
set_option maxHeartbeats 8000000 in
set_option maxRecDepth 100000 in
theorem sqPop (A0 : Option Addr) (c0 : Nat) (l : List S37) (w : World) (hr0 : Kd.C k37 w A0 l.length l) (hc0 : l.length ≤ c0) (hp : 0 < l.length) (hl : l.length ≤ 200) :
    Calls Try.prog 15 #[.slice A0 l.length c0, .int .u64 (rd_T37 l 0).f0] w fun e_ w' => (∃ v, e_ = .returned (.tuple #[v, .agg #[.int .u64 (rd_T37 l 0).f0, .int .u32 (rd_T37 l 0).f1, .int .u32 (rd_T37 l 0).f2, .int .i64 (rd_T37 l 0).f3, .bool (rd_T37 l 0).f4], .bool true]) ∧ Kd.R k37 56 w' w.heap.size (fun _ => True) v (l.drop 1)) ∧ Below w.heap.size w w' := by
  have S0 := St.start w
  obtain ⟨ad, rfl, h0, h1, h2, h3, h4⟩ := at_T37 hr0 0 (by decide) (by omega)
  have e0 : ad.add ((0 : Int).toNat * 5) = ad := by unfold Addr.add; rfl
  rw [e0] at h0 h1 h2 h3 h4
  obtain ⟨y, hy⟩ : ∃ y_, rd_T37 l 0 = y_ := ⟨_, rfl⟩
  rw [hy] at h0 h1 h2 h3 h4 ⊢
  have HSF := Aside0.mk (fun (w_ : World) (hb_ : Below w.heap.size w w_) => (⟨(hb_.cell (World.block_lt_of_cell? w _ h0)).trans h0, (hb_.cell (World.block_lt_of_cell? w _ h1)).trans h1, (hb_.cell (World.block_lt_of_cell? w _ h2)).trans h2, (hb_.cell (World.block_lt_of_cell? w _ h3)).trans h3, (hb_.cell (World.block_lt_of_cell? w _ h4)).trans h4⟩ : w_.cell? ad = some (.int .u64 y.f0) ∧ w_.cell? ⟨ad.block, ad.off + 1, none⟩ = some (.int .u32 y.f1) ∧ w_.cell? ⟨ad.block, ad.off + 2, none⟩ = some (.int .u32 y.f2) ∧ w_.cell? ⟨ad.block, ad.off + 3, none⟩ = some (.int .i64 y.f3) ∧ w_.cell? ⟨ad.block, ad.off + 4, none⟩ = some (.bool y.f4)))
  have cn : ((l.length : Int) == 0) = false := by rw [beq_eq_false_iff_ne]; omega
  have cs_ : (y.f0 != y.f0) = false := by simp
  have b1 : (1 : Int) ≤ (l.length : Int) := by omega
  have b1' : (0 : Int) < (l.length : Int) := by omega
  have b1d := decide_eq_true b1'
  have HD := Aside0.mk (show Kd.C k37 w (if c0 = 1 then some ad else some (⟨ad.block, ad.off + 5, none⟩ : Addr)) (l.drop 1).length (l.drop 1) from Kd.C_drop (m := 1) (c := c0) hr0 (by omega) hc0)
  obtain ⟨Ab, hAb⟩ : ∃ A_ : Option Addr, (if c0 = 1 then some ad else some (⟨ad.block, ad.off + 5, none⟩ : Addr)) = A_ := ⟨_, rfl⟩
  rw [hAb] at HD
  have hrl : l.length - 1 = (l.drop 1).length := by rw [List.length_drop]
  obtain ⟨r, hr⟩ : ∃ r_, l.drop 1 = r_ := ⟨_, rfl⟩
  rw [hr] at HD hrl ⊢
  have HRL := Aside0.mk (show r.length ≤ 200 by omega)
  clear hr0 hc0 h1 h2 h3 h4 e0 hy hr
  go_enter Try.func15, Try.ntmps15
  go_upto_region 3 with (first | ((with_reducible refine gate_dst (N := 5) rfl ?_); refine box_event ?hg (N := 5) ?hd (cs := #[.int .u64 0, .int .u32 0, .int .u32 0, .int .i64 0, .bool false]) (t := 56) ?hr ?_; (case hd => rfl); (case hg => rfl); (case hr => first | (go_simp; done) | (go_simp; rfl)); intro g1 hg w1 hbox hb; have S1 := S0.box hg hbox hb; clear hg hbox hb; clear S0; have h0_ := (HSF.out _ S1.below).1))
  refine start_ (n := 9) (S := fun w_ => w_.cell? ad = some (.int .u64 y.f0) ∧ w_.cell? ⟨ad.block, ad.off + 1, none⟩ = some (.int .u32 y.f1) ∧ w_.cell? ⟨ad.block, ad.off + 2, none⟩ = some (.int .u32 y.f2) ∧ w_.cell? ⟨ad.block, ad.off + 3, none⟩ = some (.int .i64 y.f3) ∧ w_.cell? ⟨ad.block, ad.off + 4, none⟩ = some (.bool y.f4)) (ds := [7]) #[false, false, false, false, false, false, false, false, false] (by kernel_rfl) rfl rfl ((HSF.out _ S1.drew.below)) (fun hHeld => ?_)
  have S10 := S1.drew
  have HG1 := Aside0.mk (blk_lt (S10.heap ⟨g1, #[.int .u64 0, .int .u32 0, .int .u32 0, .int .i64 0, .bool false], 56⟩ (by simp)))
  have HSZ := Aside0.mk (below_size S10.below)
  generalize World.drew _ = w10 at S10 HG1 HSZ hHeld ⊢
  refine pure_ (i := 0) (N := some 19) (v := ?_) (a' := ?_) #[true, false, false, false, false, false, false, false, false] rfl rfl (by kernel_rfl) (fun _ _ _ h => h) (Or.inl ⟨by rfl, ?_⟩) ?_ ?_
  rotate_left
  · intro w'
    go_simp
    with_reducible rfl
  rotate_left
  · simp only [Act.put, List.setIfInBounds_toArray, List.set_cons_zero, List.set_cons_succ]
    rfl
  refine pure_ (i := 1) (N := some 20) (v := ?_) (a' := ?_) #[true, true, false, false, false, false, false, false, false] rfl rfl (by kernel_rfl) (fun _ _ _ h => h) (Or.inl ⟨by rfl, ?_⟩) ?_ ?_
  rotate_left
  · intro w'
    go_simp
    with_reducible rfl
  rotate_left
  · simp only [Act.put, List.setIfInBounds_toArray, List.set_cons_zero, List.set_cons_succ]
    rfl
  refine pure_ (i := 3) (N := some 22) (v := ?_) (a' := ?_) #[true, true, false, true, false, false, false, false, false] rfl rfl (by kernel_rfl) (fun _ _ _ h => h) (Or.inl ⟨by rfl, ?_⟩) ?_ ?_
  rotate_left
  · intro w'
    go_simp
    with_reducible rfl
  rotate_left
  · simp only [Act.put, List.setIfInBounds_toArray, List.set_cons_zero, List.set_cons_succ]
    rfl
  refine pure_ (i := 4) (N := some 23) (v := ?_) (a' := ?_) #[true, true, false, true, true, false, false, false, false] rfl rfl (by kernel_rfl) (fun _ _ _ h => h) (Or.inl ⟨by rfl, ?_⟩) ?_ ?_
  rotate_left
  · intro w'
    go_simp
    with_reducible rfl
  rotate_left
  · simp only [Act.put, List.setIfInBounds_toArray, List.set_cons_zero, List.set_cons_succ]
    rfl
  refine take_ (i := 5) (N := some 24) (v := ?_) (a' := ?_) #[true, true, false, true, true, true, false, false, false] rfl rfl (by kernel_rfl) (fun _ _ _ h => h) (Or.inl ⟨by rfl, ?_⟩) hHeld ?_ ?_
  rotate_left
  · rintro w' ⟨s0, s1, s2, s3, s4⟩
    go_simp
    with_reducible rfl
  rotate_left
  · simp only [Act.put, List.setIfInBounds_toArray, List.set_cons_zero, List.set_cons_succ]
    rfl
  refine one_ (i := 2) (N := some 21) #[true, true, true, true, true, true, false, false, false] rfl rfl (by kernel_rfl) (by decide) (fun K hK => ?_)
  refine goes_ Try.func26 (by kernel_rfl) rfl #[.slice Ab r.length (c0 - 1)] rfl rfl rfl (by (try simp only [List.map_toArray, List.map_cons, List.map_nil]); first | done | rfl) ?_
  refine (clone37 Ab (c0 - 1) r _ (Kd.C_below HD.out S10.below) HRL.out).mono ?_
  rintro e_ w11 ⟨v11, rfl, hR_, hB_⟩
  refine ⟨_, rfl, ?_⟩
  have S11 := S10.call hB_
  have HO11 := Aside0.mk hR_
  clear hR_ hB_
  refine hK.out _ _ (HSF.out _ S11.below) (fun hHeld => ?_)
  clear hK K
  simp only [Act.put, List.setIfInBounds_toArray, List.set_cons_zero, List.set_cons_succ]
  refine pure_ (i := 6) (N := some 4) (v := ?_) (a' := ?_) #[true, true, true, true, true, true, true, false, false] rfl rfl (by kernel_rfl) (fun _ _ _ h => h) (Or.inl ⟨by rfl, ?_⟩) ?_ ?_
  rotate_left
  · intro w'
    go_simp
    with_reducible rfl
  rotate_left
  · simp only [Act.put, List.setIfInBounds_toArray, List.set_cons_zero, List.set_cons_succ]
    rfl
  refine last_ (i := 7) (N := none) #[true, true, true, true, true, true, true, true, false] rfl rfl (by kernel_rfl) (by decide) (fun K hK => ?_)
  refine skip_ (w1 := w11.setRow g1 #[.int .u64 y.f0, .int .u32 y.f1, .int .u32 y.f2, .int .i64 y.f3, .bool y.f4]) (by rfl) rfl (exec_store_row 56 _ _ rfl g1 #[.int .u64 y.f0, .int .u32 y.f1, .int .u32 y.f2, .int .i64 y.f3, .bool y.f4] rfl rfl 56 #[.int .u64 0, .int .u32 0, .int .u32 0, .int .i64 0, .bool false] (S11.heap ⟨g1, #[.int .u64 0, .int .u32 0, .int .u32 0, .int .i64 0, .bool false], 56⟩ (by simp)) (by kernel_rfl) rfl (by simp [Value.oneCell'])) ?_
  have S12 : St w (w11.setRow g1 #[.int .u64 y.f0, .int .u32 y.f1, .int .u32 y.f2, .int .i64 y.f3, .bool y.f4]) [⟨g1, #[.int .u64 y.f0, .int .u32 y.f1, .int .u32 y.f2, .int .i64 y.f3, .bool y.f4], 56⟩] := St.row (L1 := []) (b := ⟨g1, #[.int .u64 0, .int .u32 0, .int .u32 0, .int .i64 0, .bool false], 56⟩) S11 #[.int .u64 y.f0, .int .u32 y.f1, .int .u32 y.f2, .int .i64 y.f3, .bool y.f4]
  have HO12 := Aside0.mk (Rrow HO11.out HG1.out #[.int .u64 y.f0, .int .u32 y.f1, .int .u32 y.f2, .int .i64 y.f3, .bool y.f4])
  refine hK.out _ _ ?_
  clear hK K
  generalize World.setRow _ _ _ = w12 at S12 HO12 ⊢
  refine pure_ (i := 8) (N := some 6) (v := ?_) (a' := ?_) #[true, true, true, true, true, true, true, true, true] rfl rfl (by kernel_rfl) (fun _ _ _ h => h) (Or.inl ⟨by rfl, ?_⟩) ?_ ?_
  rotate_left
  · intro w'
    go_simp
    with_reducible rfl
  rotate_left
  · simp only [Act.put, List.setIfInBounds_toArray, List.set_cons_zero, List.set_cons_succ]
    rfl
  refine done_ (by kernel_rfl) ?_
  go_wp2
  refine bodyPost_ret (results_list (rs := [.tmp 4, .cell 5 56, .tmp 6]) rfl (by simp) (.tmp (.cell g1 56 #[.int .u64 y.f0, .int .u32 y.f1, .int .u32 y.f2, .int .i64 y.f3, .bool y.f4] (0, 0) _ rfl (S12.heap ⟨g1, #[.int .u64 y.f0, .int .u32 y.f1, .int .u32 y.f2, .int .i64 y.f3, .bool y.f4], 56⟩ (by simp)) Try.underlying56 rfl (by kernel_rfl) (.tmp .nil)))) rfl ?_
  exact ⟨⟨v11, by first | rfl | (simp; done), Kd.R_lower HO12.out HSZ.out⟩, S12.below⟩

end Go.Proofs.Ytmpnnppgppoliaa.Ld
