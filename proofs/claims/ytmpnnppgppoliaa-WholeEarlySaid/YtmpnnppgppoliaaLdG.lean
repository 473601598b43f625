/- What sb.Pop and sq.Pop come to: walks of the code. The conditions are those that each theorem names. -/
import Derived.Test.YtmpnnppgppoliaaLdF
namespace Go.Proofs.Ytmpnnppgppoliaa.Ld
open Go Go.Proofs Go.RowKit Go.Proofs.YtmpnnppgppoliaaW.PrintWords Go.Proofs.YtmpnnppgppoliaaW.PrintLast Go.Proofs.YtmpnnppgppoliaaW.PrintMore Go.Proofs.Ytmpnnppgppoliaa.Boxes Go.Proofs.Ytmpnnppgppoliaa.PFwd
attribute [local go_sem] max2_int min2_int max_two min_two max_three min_three max_four min_four   -- for this text's walks alone
set_option linter.unusedVariables false
set_option linter.unusedSimpArgs false

theorem exec_store_row {P : Program} {o : Oper} {a : Act} {w : World} (ty : TypeId) (x y : Operand) (ho : o.op = .store ty x y) (g : Nat) (cells : Array Value) (hx : a.eval x = .pointer (some ⟨g, 0, none⟩)) (hy : a.eval y = .agg cells) (t : TypeId) (old : Array Value)
    (hg : w.heap[g]? = some (.cells old t (0, 0))) (hi : (P.info? ty).map (·.size) = some cells.size) (hold : old.size = cells.size) (h1 : cells.all (·.oneCell') = true) : (execOp a.eval o).run P w = .ok .skip (w.setRow g cells) := by
  unfold execOp
  simp only [ho, hx, hy, Instr.storeAt, Instr.sureAddr, Sem.run_bind, Sem.run_pure, Result.andThen_ok, run_storeVar_row w g t ty old cells hg hi hold h1]
set_option maxHeartbeats 8000000 in
set_option maxRecDepth 100000 in
theorem sbNone (A0 : Option Addr) (c0 : Nat) (w : World) :
    Calls Try.prog 17 #[.slice A0 0 c0] w fun e_ w' => e_ = .returned (.tuple #[.slice none 0 0, .agg #[.int .u32 0, .int .u32 0, .int .i64 0], .bool false]) ∧ Below w.heap.size w w' := by
  have S0 := St.start w
  go_enter Try.func17, Try.ntmps17
  go_wp2_with (first | ((with_reducible refine gate_dst (N := 3) rfl ?_); refine box_event ?hg (N := 3) ?hd (cs := #[.int .u32 0, .int .u32 0, .int .i64 0]) (t := 64) ?hr ?_; (case hd => rfl); (case hg => rfl); (case hr => first | (go_simp; done) | (go_simp; rfl)); intro g1 hg w1 hbox hb; have S1 := S0.box hg hbox hb; clear hg hbox hb; clear S0) | ((with_reducible refine gate_store (t := 64) (p := 3) rfl ?_); refine wpList_store_row rfl 64 _ _ rfl g1 _ rfl rfl 64 _ (S1.heap ⟨g1, #[.int .u32 0, .int .u32 0, .int .i64 0], 64⟩ (by simp)) (by kernel_rfl) (rfl) (by simp [Value.oneCell']) ?_; have n_ : St w _ [⟨g1, #[.int .u32 0, .int .u32 0, .int .i64 0], 64⟩] := St.row (L1 := []) (b := ⟨g1, #[.int .u32 0, .int .u32 0, .int .i64 0], 64⟩) S1 #[.int .u32 0, .int .u32 0, .int .i64 0]; clear S1; have S2 := n_; clear n_; generalize World.setRow _ _ _ = w2 at S2 ⊢))
  refine bodyPost_ret (results_list (rs := [.tmp 2, .cell 3 64, .tmp 4]) rfl (by simp) (.tmp (.cell g1 64 #[.int .u32 0, .int .u32 0, .int .i64 0] (0, 0) _ rfl (S2.heap ⟨g1, #[.int .u32 0, .int .u32 0, .int .i64 0], 64⟩ (by simp)) Try.underlying64 rfl (by kernel_rfl) (.tmp .nil)))) rfl ?_
  exact ⟨by first | rfl | (simp; done), S2.below⟩

theorem drop48 (l : List S48) {i : Int} (h0 : 0 ≤ i) (h1 : i < (l.length : Int)) : l.drop i.toNat = rd_T48 l i :: l.drop (i + 1).toNat := by
  have hk : i.toNat < l.length := by omega
  rw [show (i + 1).toNat = i.toNat + 1 by omega]
  unfold rd_T48
  rw [List.getD_eq_getElem?_getD, List.getElem?_eq_getElem hk]
  exact List.drop_eq_getElem_cons hk
set_option maxHeartbeats 8000000 in
set_option maxRecDepth 100000 in
theorem sbPop (A0 : Option Addr) (c0 : Nat) (l : List S48) (w : World) (hr0 : Kd.C k48 w A0 l.length l) (hc0 : l.length ≤ c0) (hp : 0 < l.length) (hl : l.length ≤ 60) :
    Calls Try.prog 17 #[.slice A0 l.length c0] w fun e_ w' => (∃ A, e_ = .returned (.tuple #[.slice A (l.drop 1).length (l.drop 1).length, .agg #[.int .u32 (rd_T48 l 0).f0, .int .u32 (rd_T48 l 0).f1, .int .i64 (rd_T48 l 0).f2], .bool true]) ∧ Kd.C k48 w' A (l.drop 1).length (l.drop 1)) ∧ Below w.heap.size w w' := by
  have HR0 := Aside0.mk hr0
  have HC0 := Aside0.mk hc0
  have HP := Aside0.mk hp
  have S0 := St.start w
  obtain ⟨ad, rfl, h0, h1, h2⟩ := at_T48 hr0 0 (by decide) (by omega)
  have e0 : ad.add ((0 : Int).toNat * 3) = ad := by unfold Addr.add; rfl
  rw [e0] at h0 h1 h2
  obtain ⟨y, hy⟩ : ∃ y_, rd_T48 l 0 = y_ := ⟨_, rfl⟩
  rw [hy] at h0 h1 h2 ⊢
  have HH := Aside0.mk (And.intro h0 (And.intro h1 h2))
  have cn : ((l.length : Int) == 0) = false := by rw [beq_eq_false_iff_ne]; omega
  have HD := Aside0.mk (show Kd.C k48 w (if l.length = 1 then some ad else some (ad.add 3)) (l.drop 1).length (l.drop 1) from Kd.C_drop (m := 1) (c := l.length) hr0 (by omega) (Nat.le_refl _))
  have b1 : (1 : Int) ≤ (l.length : Int) := by omega
  rw [show ad.add 3 = ⟨ad.block, ad.off + 3, none⟩ from rfl] at HD
  obtain ⟨Ab, hAb⟩ : ∃ A_ : Option Addr, (if l.length = 1 then some ad else some (⟨ad.block, ad.off + 3, none⟩ : Addr)) = A_ := ⟨_, rfl⟩
  rw [hAb] at HD
  clear hr0 hc0 h0 h1 h2 e0 hy hp
  go_enter Try.func17, Try.ntmps17
  go_upto_region 3 with (first | ((with_reducible refine gate_dst (N := 3) rfl ?_); refine box_event ?hg (N := 3) ?hd (cs := #[.int .u32 0, .int .u32 0, .int .i64 0]) (t := 64) ?hr ?_; (case hd => rfl); (case hg => rfl); (case hr => first | (go_simp; done) | (go_simp; rfl)); intro g1 hg w1 hbox hb; have S1 := S0.box hg hbox hb; clear hg hbox hb; clear S0))
  have HB1 := Aside0.mk (below_step S1.below (below_drew (Below.refl _ _)))
  refine start_ (n := 12) (S := fun w_ => w_.cell? ad = some (.int .u32 y.f0) ∧ w_.cell? ⟨ad.block, ad.off + 1, none⟩ = some (.int .u32 y.f1) ∧ w_.cell? ⟨ad.block, ad.off + 2, none⟩ = some (.int .i64 y.f2)) (ds := [10]) #[false, false, false, false, false, false, false, false, false, false, false, false] (by kernel_rfl) rfl rfl (⟨(HB1.out.cell (World.block_lt_of_cell? w _ HH.out.1)).trans HH.out.1, (HB1.out.cell (World.block_lt_of_cell? w _ HH.out.2.1)).trans HH.out.2.1, (HB1.out.cell (World.block_lt_of_cell? w _ HH.out.2.2)).trans HH.out.2.2⟩) (fun hHeld => ?_)
  have S10 := S1.drew
  have hc0_ := HC0.out
  have hp_ := HP.out
  generalize World.drew _ = w10 at S10 hHeld ⊢
  refine pure_ (i := 0) (N := some 9) (v := ?_) (a' := ?_) #[true, false, false, false, false, false, false, false, false, false, false, false] rfl rfl (by kernel_rfl) (fun _ _ _ h => h) (Or.inl ⟨by rfl, ?_⟩) ?_ ?_
  rotate_left
  · intro w'
    go_simp
    with_reducible rfl
  rotate_left
  · simp only [Act.put, List.setIfInBounds_toArray, List.set_cons_zero, List.set_cons_succ]
    rfl
  refine pure_ (i := 1) (N := some 10) (v := ?_) (a' := ?_) #[true, true, false, false, false, false, false, false, false, false, false, false] rfl rfl (by kernel_rfl) (fun _ _ _ h => h) (Or.inl ⟨by rfl, ?_⟩) ?_ ?_
  rotate_left
  · intro w'
    go_simp
    with_reducible rfl
  rotate_left
  · simp only [Act.put, List.setIfInBounds_toArray, List.set_cons_zero, List.set_cons_succ]
    rfl
  refine pure_ (i := 2) (N := some 11) (v := ?_) (a' := ?_) #[true, true, true, false, false, false, false, false, false, false, false, false] rfl rfl (by kernel_rfl) (fun _ _ _ h => h) (Or.inl ⟨by rfl, ?_⟩) ?_ ?_
  rotate_left
  · intro w'
    go_simp
    with_reducible rfl
  rotate_left
  · simp only [Act.put, List.setIfInBounds_toArray, List.set_cons_zero, List.set_cons_succ]
    rfl
  refine pure_ (i := 3) (N := some 12) (v := ?_) (a' := ?_) #[true, true, true, true, false, false, false, false, false, false, false, false] rfl rfl (by kernel_rfl) (fun _ _ _ h => h) (Or.inl ⟨by rfl, ?_⟩) ?_ ?_
  rotate_left
  · intro w'
    go_simp
    with_reducible rfl
  rotate_left
  · simp only [Act.put, List.setIfInBounds_toArray, List.set_cons_zero, List.set_cons_succ]
    rfl
  refine pure_ (i := 4) (N := some 13) (v := ?_) (a' := ?_) #[true, true, true, true, true, false, false, false, false, false, false, false] rfl rfl (by kernel_rfl) (fun _ _ _ h => h) (Or.inl ⟨by rfl, ?_⟩) ?_ ?_
  rotate_left
  · intro w'
    go_simp
    with_reducible rfl
  rotate_left
  · simp only [Act.put, List.setIfInBounds_toArray, List.set_cons_zero, List.set_cons_succ]
    rfl
  refine pure_ (i := 5) (N := some 14) (v := ?_) (a' := ?_) #[true, true, true, true, true, true, false, false, false, false, false, false] rfl rfl (by kernel_rfl) (fun _ _ _ h => h) (Or.inl ⟨by rfl, ?_⟩) ?_ ?_
  rotate_left
  · intro w'
    go_simp
    with_reducible rfl
  rotate_left
  · simp only [Act.put, List.setIfInBounds_toArray, List.set_cons_zero, List.set_cons_succ]
    rfl
  refine pure_ (i := 6) (N := some 15) (v := ?_) (a' := ?_) #[true, true, true, true, true, true, true, false, false, false, false, false] rfl rfl (by kernel_rfl) (fun _ _ _ h => h) (Or.inl ⟨by rfl, ?_⟩) ?_ ?_
  rotate_left
  · intro w'
    go_simp
    with_reducible rfl
  rotate_left
  · simp only [Act.put, List.setIfInBounds_toArray, List.set_cons_zero, List.set_cons_succ]
    rfl
  refine pure_ (i := 7) (N := some 16) (v := ?_) (a' := ?_) #[true, true, true, true, true, true, true, true, false, false, false, false] rfl rfl (by kernel_rfl) (fun _ _ _ h => h) (Or.inl ⟨by rfl, ?_⟩) ?_ ?_
  rotate_left
  · intro w'
    go_simp
    with_reducible rfl
  rotate_left
  · simp only [Act.put, List.setIfInBounds_toArray, List.set_cons_zero, List.set_cons_succ]
    rfl
  refine take_ (i := 8) (N := some 17) (v := ?_) (a' := ?_) #[true, true, true, true, true, true, true, true, true, false, false, false] rfl rfl (by kernel_rfl) (fun _ _ _ h => h) (Or.inl ⟨by rfl, ?_⟩) hHeld ?_ ?_
  rotate_left
  · rintro w' ⟨s0, s1, s2⟩
    go_simp
    with_reducible rfl
  rotate_left
  · simp only [Act.put, List.setIfInBounds_toArray, List.set_cons_zero, List.set_cons_succ]
    rfl
  refine pure_ (i := 9) (N := some 2) (v := ?_) (a' := ?_) #[true, true, true, true, true, true, true, true, true, true, false, false] rfl rfl (by kernel_rfl) (fun _ _ _ h => h) (Or.inl ⟨by rfl, ?_⟩) ?_ ?_
  rotate_left
  · intro w'
    go_simp
    with_reducible rfl
  rotate_left
  · simp only [Act.put, List.setIfInBounds_toArray, List.set_cons_zero, List.set_cons_succ]
    rfl
  refine last_ (i := 10) (N := none) #[true, true, true, true, true, true, true, true, true, true, true, false] rfl rfl (by kernel_rfl) (by decide) (fun K hK => ?_)
  refine skip_ (w1 := w10.setRow g1 #[.int .u32 y.f0, .int .u32 y.f1, .int .i64 y.f2]) (by rfl) rfl (exec_store_row 64 _ _ rfl g1 #[.int .u32 y.f0, .int .u32 y.f1, .int .i64 y.f2] rfl rfl 64 #[.int .u32 0, .int .u32 0, .int .i64 0] (S10.heap ⟨g1, #[.int .u32 0, .int .u32 0, .int .i64 0], 64⟩ (by simp)) (by kernel_rfl) rfl (by simp [Value.oneCell'])) ?_
  have S11 : St w (w10.setRow g1 #[.int .u32 y.f0, .int .u32 y.f1, .int .i64 y.f2]) [⟨g1, #[.int .u32 y.f0, .int .u32 y.f1, .int .i64 y.f2], 64⟩] := St.row (L1 := []) (b := ⟨g1, #[.int .u32 0, .int .u32 0, .int .i64 0], 64⟩) S10 #[.int .u32 y.f0, .int .u32 y.f1, .int .i64 y.f2]
  refine hK.out _ _ ?_
  clear hK K
  generalize World.setRow _ _ _ = w11 at S11 ⊢
  refine pure_ (i := 11) (N := some 4) (v := ?_) (a' := ?_) #[true, true, true, true, true, true, true, true, true, true, true, true] rfl rfl (by kernel_rfl) (fun _ _ _ h => h) (Or.inl ⟨by rfl, ?_⟩) ?_ ?_
  rotate_left
  · intro w'
    go_simp
    with_reducible rfl
  rotate_left
  · simp only [Act.put, List.setIfInBounds_toArray, List.set_cons_zero, List.set_cons_succ]
    rfl
  refine done_ (by kernel_rfl) ?_
  go_wp2
  refine bodyPost_ret (results_list (rs := [.tmp 2, .cell 3 64, .tmp 4]) rfl (by simp) (.tmp (.cell g1 64 #[.int .u32 y.f0, .int .u32 y.f1, .int .i64 y.f2] (0, 0) _ rfl (S11.heap ⟨g1, #[.int .u32 y.f0, .int .u32 y.f1, .int .i64 y.f2], 64⟩ (by simp)) Try.underlying64 rfl (by kernel_rfl) (.tmp .nil)))) rfl ?_
  exact ⟨⟨Ab, by first | rfl | (simp; done), Kd.C_below HD.out S11.below⟩, S11.below⟩

end Go.Proofs.Ytmpnnppgppoliaa.Ld
