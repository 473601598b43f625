/- What sb.Drain, sb.Has, the comparison of bytes, and lq.Early of none come to: walks of the code. The conditions are those that each theorem names. -/
import Derived.Test.YtmpnnppgppoliaaLdH
namespace Go.Proofs.Ytmpnnppgppoliaa.Ld
open Go Go.Proofs Go.RowKit Go.Proofs.YtmpnnppgppoliaaW.PrintWords Go.Proofs.YtmpnnppgppoliaaW.PrintLast Go.Proofs.YtmpnnppgppoliaaW.PrintMore Go.Proofs.Ytmpnnppgppoliaa.Boxes Go.Proofs.Ytmpnnppgppoliaa.PFwd
attribute [local go_sem] max2_int min2_int max_two min_two max_three min_three max_four min_four   -- for this text's walks alone
set_option linter.unusedVariables false
set_option linter.unusedSimpArgs false

/-- A variable that holds a struct: made, and filled at once. -/
theorem box_fillg {P : Program} {ops : Array Oper} {rest : List Oper} {o1 o2 : Oper} {a : Act} {w : World} {Q : Exit → Act → World → Prop} (hg1 : o1.guard = none) (hg2 : o2.guard = none) {N : Tmp} (hd : o1.dst = some N) (hd2 : o2.dst = none) (t : TypeId) (zs cs : Array Value) (y z : Operand) (ho2 : o2.op = .store t y z)
    (hi : (P.info? t).map (·.size) = some cs.size) (hzs : zs.size = cs.size) (h1 : cs.all (·.oneCell') = true) (hrun : (execOp a.eval o1).run P w = .ok (.value (.pointer (some ⟨w.heap.size, 0, none⟩))) (w.alloc (.cells zs t (0, 0))))
    (hy : ∀ u, (a.put (some N) u).eval y = u) (hz : ∀ u, (a.put (some N) u).eval z = .agg cs)
    (h : ∀ g, g = w.heap.size → ∀ w1, w1.heap[g]? = some (.cells cs t (0, 0)) → Below w.heap.size w w1 → wpList P ops Q rest (a.put (some N) (.pointer (some ⟨g, 0, none⟩))) w1) : wpList P ops Q (o1 :: o2 :: rest) a w := by
  refine box_event hg1 hd hrun fun g hg w1 hbox hb => ?_
  rw [hd]
  refine wpList_store_row hg2 t y z ho2 g cs (hy _) (hz _) t zs hbox hi hzs h1 ?_
  rw [hd2]
  refine h g hg _ ?_ ⟨hb.os, hb.tape, hb.output, by simpa using hb.size, fun k hk => (heap_setRow_far w1 g _ k (by omega)).trans (hb.block k hk)⟩
  simp [World.setRow, Array.getElem?_modify, hbox]
section
variable {P : Program} {w : World} {L : List Bx}
theorem run_loadVar_at (P : Program) (W : World) (ad : Addr) (ty : TypeId) (u : Value) (d : TypeDesc) (hc : W.cell? ad = some u) (hu : P.underlying ty = some d) (hd : (match d with | .struct _ | .array _ _ => true | _ => false) = false) :
    (loadVar ty ad).run P W = .ok u W := by
  have hagg : (isAgg ty).run P W = .ok false W := by
    unfold isAgg
    rw [Sem.run_bind, run_underlying hu W]
    cases d <;> simp_all
  simp [loadVar, Sem.run_bind, hagg, run_load, hc]
theorem quiet_at {a : Act} {o : Oper} {K : Act → Prop} (ty : TypeId) (x : Operand) (ho : o.op = .load ty x) (ad : Addr) (hx : a.eval x = .pointer (some ad)) (u : Value) (d : TypeDesc)
    (hc : ∀ x : Cls w L, x.W.cell? ad = some u) (hu : P.underlying ty = some d) (hd : (match d with | .struct _ | .array _ _ => true | _ => false) = false)
    (h : K (a.put o.dst u)) : o.quiet P a (fun W' => ∃ x : Cls w L, W' = x.W) K := by
  refine ⟨_, fun V hV => ?_, h⟩
  obtain ⟨x0, rfl⟩ := hV
  unfold Oper.quietAt execOp
  simp only [ho, hx, Instr.loadAt, Instr.sureAddr, Sem.run_bind, Sem.run_pure, Result.andThen_ok, run_loadVar_at P x0.W ad ty u d (hc x0) hu hd]
  exact ⟨rfl, rfl⟩
end
theorem take48 (l : List S48) {i : Int} (h0 : 0 ≤ i) (h1 : i < (l.length : Int)) : l.take (i + 1).toNat = l.take i.toNat ++ [rd_T48 l i] := by
  have hk : i.toNat < l.length := by omega
  rw [show (i + 1).toNat = i.toNat + 1 by omega, List.take_succ_eq_append_getElem hk]
  unfold rd_T48
  rw [List.getD_eq_getElem?_getD, List.getElem?_eq_getElem hk]
  rfl
theorem mem48 (l : List S48) {i : Int} (h0 : 0 ≤ i) (h1 : i < (l.length : Int)) : rd_T48 l i ∈ l := by
  have hk : i.toNat < l.length := by omega
  unfold rd_T48
  rw [List.getD_eq_getElem?_getD, List.getElem?_eq_getElem hk]
  exact List.getElem_mem hk
/-- Memory behind all of them. -/
def drainX (m : List Int) (l : List S48) : List Int := l.foldl (fun m s => wrX m s.f0 s.f2 s.f1) m
theorem drainX_snoc (m : List Int) (l : List S48) (s : S48) : drainX m (l ++ [s]) = wrX (drainX m l) s.f0 s.f2 s.f1 := by unfold drainX; rw [List.foldl_append]; rfl

set_option maxHeartbeats 8000000 in
set_option maxRecDepth 100000 in
theorem sbDrain (A0 : Option Addr) (c0 : Nat) (l : List S48) (A1 : Option Addr) (c1 : Nat) (m : List Int) (w : World) (hr0 : Kd.C k48 w A0 l.length l) (hl : l.length ≤ 60) (hr1 : Kd.C (Kd.int .u8) w A1 m.length m) (hc1 : m.length ≤ c1) (hall : ∀ s ∈ l, Okm m.length s.f0 s.f2) :
    Calls Try.prog 18 #[.slice A0 l.length c0, .slice A1 m.length c1] w fun e w' => (∃ A c, e = .returned (.slice A m.length c) ∧ m.length ≤ c ∧ (drainX m l).length = m.length ∧ Kd.C (Kd.int .u8) w' A m.length (drainX m l)) ∧ Below w.heap.size w w' := by
  have HR0 := Aside0.mk hr0
  have HR1 := Aside0.mk hr1
  have HC10 := Aside0.mk hc1
  have HA := Aside0.mk hall
  have HL := Aside0.mk hl
  have HB := Aside0.mk (Below.refl w.heap.size w)
  clear hr0 hl hr1 hc1 hall
  go_enter Try.func18, Try.ntmps18
  go_wp2
  go_loopg [1, 11] l.length (fun kq v1 v11 w' => ∃ (x : Int) (M : List Int) (A : Option Addr) (c_ : Nat), v11 = .int .i64 x ∧ v1 = .slice A M.length c_ ∧ Aside0 (0 ≤ x ∧ x + kq = (l.length : Int)) ∧ Aside0 (M = drainX m (l.take x.toNat) ∧ M.length = m.length) ∧ Aside0 (M.length ≤ c_) ∧ Aside0 (Kd.C (Kd.int .u8) w' A M.length M) ∧ Aside0 (Below w.heap.size w w'))
  case atStart => exact ⟨0, m, A1, c1, (by first | rfl | (simp; done)), (by first | rfl | (simp; done)), ⟨by simp⟩, ⟨by simp [drainX]⟩, HC10, HR1, HB⟩
  case round =>
    clear HB
    obtain ⟨x, M, A, c_, rfl, rfl, HX, HM, HCL, HC, HB⟩ := hrel
    by_cases c : x < (l.length : Int)
    · have cb : decide (x < (l.length : Int)) = true := decide_eq_true c
      have p1 : 0 ≤ x := HX.out.1
      obtain ⟨ad, e1, h0, h1, h2⟩ := at_T48 HR0.out x p1 c
      cases e1
      replace h0 := (HB.out.cell (World.block_lt_of_cell? w _ h0)).trans h0
      replace h1 := (HB.out.cell (World.block_lt_of_cell? w _ h1)).trans h1
      replace h2 := (HB.out.cell (World.block_lt_of_cell? w _ h2)).trans h2
      have HD := Aside0.mk (drop48 l p1 c)
      have HT := Aside0.mk (take48 l p1 c)
      have HMem := Aside0.mk (mem48 l p1 c)
      obtain ⟨y, hy⟩ : ∃ y_, rd_T48 l x = y_ := ⟨_, rfl⟩
      rw [hy] at HD HT HMem h0 h1 h2
      have HN := Aside0.mk (wrap_i (x := x + 1) (by omega) (by have := HL.out; omega))
      have CC := Aside0.mk c
      have p1' := decide_eq_true p1
      clear hy
      replace p1 := eq_true p1
      replace c := eq_true c
      have HOK := Aside0.mk (show Okm M.length y.f0 y.f2 by rw [HM.out.2]; exact HA.out y HMem.out)
      go_wp2_with (first | ((with_reducible refine gate_dst (N := 6) rfl ?_); refine box_fillg rfl rfl (N := 6) rfl rfl 64 #[.int .u32 0, .int .u32 0, .int .i64 0] #[.int .u32 y.f0, .int .u32 y.f1, .int .i64 y.f2] _ _ rfl (by kernel_rfl) rfl (by simp [Value.oneCell']) ?hr (fun _ => rfl) (fun _ => rfl) ?_; (case hr => first | (go_simp; done) | (go_simp; rfl)); intro gb hg w7 hbox hb; have HB1 := Aside0.mk (below_step HB.out hb); have HC1 := Aside0.mk (Kd.C_below HC.out hb); have c0_ := (blk_cell hbox 0).trans (show _ = some (Value.int .u32 y.f0) from rfl); have c1_ := (blk_cell hbox 1).trans (show _ = some (Value.int .u32 y.f1) from rfl); have c2_ := (blk_cell hbox 2).trans (show _ = some (Value.int .i64 y.f2) from rfl); clear hb hbox hg) | (go_at_call 7; (with_reducible refine (mwrite A c_ M y.f0 y.f2 y.f1 HOK.out _ HC1.out HCL.out).mono ?_); rintro e_ w8 ⟨⟨A8, c8, rfl, hcl_, hC_⟩, hB_⟩; have HB2 := Aside0.mk (below_step HB1.out hB_); have HC2 := Aside0.mk hC_; have HCL2 := Aside0.mk hcl_; clear hcl_ hC_ hB_))
      go_roundg (gk - 1)
      case measure => have := HX.out; have := CC.out; omega
      case rel => exact ⟨x + 1, wrX M y.f0 y.f2 y.f1, A8, c8, (by first | rfl | (simp; done) | (simp [HN.out]; done)), (by first | rfl | (simp; done)), ⟨by have := HX.out; have := CC.out; omega⟩, ⟨by rw [HT.out, drainX_snoc, ← HM.out.1]; exact ⟨rfl, by rw [wrX_len y.f1 HOK.out]; exact HM.out.2⟩⟩, HCL2, HC2, HB2⟩
    · have cb : decide (x < (l.length : Int)) = false := decide_eq_false c
      have e : x.toNat = l.length := by have := HX.out; omega
      have hm := HM.out
      rw [e, List.take_length] at hm
      have HM1 := Aside0.mk hm
      clear c e hm
      go_wp2
      go_ret
      have hC_ := HC.out
      have hcl_ := HCL.out
      rw [HM1.out.2] at hcl_
      refine ⟨⟨A, c_, by rw [HM1.out.2]; first | done | rfl, hcl_, by rw [← HM1.out.1]; exact HM1.out.2, ?_⟩, HB.out⟩
      rw [HM1.out.2] at hC_
      rw [← HM1.out.1]
      exact hC_

theorem overlap (a n b m : Int) (w : World) : Calls Try.prog 31 #[.int .u32 a, .int .i64 n, .int .u32 b, .int .i64 m] w fun e w' => e = .returned (.bool (ovB a n b m)) ∧ Below w.heap.size w w' := by
  have := sq_Overlap.calls a n b m (ovB a n b m) w (ov_is a n b m)
  exact this
set_option maxHeartbeats 8000000 in
set_option maxRecDepth 100000 in
theorem sbHas (A0 : Option Addr) (c0 : Nat) (l : List S48) (a n : Int) (w : World) (hr0 : Kd.C k48 w A0 l.length l) (hl : l.length ≤ 60) :
    Calls Try.prog 20 #[.slice A0 l.length c0, .int .u32 a, .int .i64 n] w fun e w' => e = .returned (.bool (l.any fun s => ovB s.f0 s.f2 a n)) ∧ Below w.heap.size w w' := by
  have HR0 := Aside0.mk hr0
  have HL := Aside0.mk hl
  have HB := Aside0.mk (Below.refl w.heap.size w)
  obtain ⟨r, hr⟩ : ∃ r_ : Bool, (l.any fun s => ovB s.f0 s.f2 a n) = r_ := ⟨_, rfl⟩
  rw [hr]
  have HRR := Aside0.mk hr
  clear hr0 hl hr
  go_enter Try.func20, Try.ntmps20
  go_wp2
  go_loopg [11] l.length (fun kq v11 w' => ∃ (x : Int), v11 = .int .i64 x ∧ Aside0 (0 ≤ x ∧ x + kq = (l.length : Int)) ∧ Aside0 (((l.take x.toNat).any fun s => ovB s.f0 s.f2 a n) = false) ∧ Aside0 (Below w.heap.size w w'))
  case atStart => exact ⟨0, (by first | rfl | (simp; done)), ⟨by simp⟩, ⟨by simp⟩, HB⟩
  case round =>
    clear HB
    obtain ⟨x, rfl, HX, HG, HB⟩ := hrel
    by_cases c : x < (l.length : Int)
    · have cb : decide (x < (l.length : Int)) = true := decide_eq_true c
      have p1 : 0 ≤ x := HX.out.1
      obtain ⟨ad, e1, h0, h1, h2⟩ := at_T48 HR0.out x p1 c
      cases e1
      replace h0 := (HB.out.cell (World.block_lt_of_cell? w _ h0)).trans h0
      replace h1 := (HB.out.cell (World.block_lt_of_cell? w _ h1)).trans h1
      replace h2 := (HB.out.cell (World.block_lt_of_cell? w _ h2)).trans h2
      have HD := Aside0.mk (drop48 l p1 c)
      have HT := Aside0.mk (take48 l p1 c)
      have HMem := Aside0.mk (mem48 l p1 c)
      obtain ⟨y, hy⟩ : ∃ y_, rd_T48 l x = y_ := ⟨_, rfl⟩
      rw [hy] at HD HT HMem h0 h1 h2
      have HN := Aside0.mk (wrap_i (x := x + 1) (by omega) (by have := HL.out; omega))
      have CC := Aside0.mk c
      have p1' := decide_eq_true p1
      clear hy
      replace p1 := eq_true p1
      replace c := eq_true c
      have OV := Aside0.mk (fun w_ => overlap y.f0 y.f2 a n w_)
      cases d : ovB y.f0 y.f2 a n with
      | true =>
        rw [d] at OV
        have DD := Aside0.mk d
        clear d
        go_wp2_with (first | ((with_reducible refine gate_dst (N := 8) rfl ?_); refine box_fillg rfl rfl (N := 8) rfl rfl 64 #[.int .u32 0, .int .u32 0, .int .i64 0] #[.int .u32 y.f0, .int .u32 y.f1, .int .i64 y.f2] _ _ rfl (by kernel_rfl) rfl (by simp [Value.oneCell']) ?hr (fun _ => rfl) (fun _ => rfl) ?_; (case hr => first | (go_simp; done) | (go_simp; rfl)); intro gb hg w7 hbox hb; have HB1 := Aside0.mk (below_step HB.out hb); have c0_ := (blk_cell hbox 0).trans (show _ = some (Value.int .u32 y.f0) from rfl); have c1_ := (blk_cell hbox 1).trans (show _ = some (Value.int .u32 y.f1) from rfl); have c2_ := (blk_cell hbox 2).trans (show _ = some (Value.int .i64 y.f2) from rfl); clear hb hbox hg) | (go_at_call 31; (with_reducible refine (OV.out _).mono ?_); rintro e_ w8 ⟨rfl, hB_⟩; have HB2 := Aside0.mk (below_step HB1.out hB_); clear hB_))
        go_ret
        exact ⟨by rw [← HRR.out, ← List.take_append_drop x.toNat l, HD.out]; simp [DD.out], HB2.out⟩
      | false =>
        rw [d] at OV
        have DD := Aside0.mk d
        clear d
        go_wp2_with (first | ((with_reducible refine gate_dst (N := 8) rfl ?_); refine box_fillg rfl rfl (N := 8) rfl rfl 64 #[.int .u32 0, .int .u32 0, .int .i64 0] #[.int .u32 y.f0, .int .u32 y.f1, .int .i64 y.f2] _ _ rfl (by kernel_rfl) rfl (by simp [Value.oneCell']) ?hr (fun _ => rfl) (fun _ => rfl) ?_; (case hr => first | (go_simp; done) | (go_simp; rfl)); intro gb hg w7 hbox hb; have HB1 := Aside0.mk (below_step HB.out hb); have c0_ := (blk_cell hbox 0).trans (show _ = some (Value.int .u32 y.f0) from rfl); have c1_ := (blk_cell hbox 1).trans (show _ = some (Value.int .u32 y.f1) from rfl); have c2_ := (blk_cell hbox 2).trans (show _ = some (Value.int .i64 y.f2) from rfl); clear hb hbox hg) | (go_at_call 31; (with_reducible refine (OV.out _).mono ?_); rintro e_ w8 ⟨rfl, hB_⟩; have HB2 := Aside0.mk (below_step HB1.out hB_); clear hB_))
        go_roundg (gk - 1)
        case measure => have := HX.out; have := CC.out; omega
        case rel => exact ⟨x + 1, (by first | rfl | (simp; done) | (simp [HN.out]; done)), ⟨by have := HX.out; have := CC.out; omega⟩, ⟨by rw [HT.out, List.any_append, HG.out]; simp [DD.out]⟩, HB2⟩
    · have cb : decide (x < (l.length : Int)) = false := decide_eq_false c
      have e : x.toNat = l.length := by have := HX.out; omega
      have hg := HG.out
      rw [e, List.take_length, HRR.out] at hg
      have HG1 := Aside0.mk hg
      clear c e hg
      go_wp2
      go_ret
      exact ⟨by rw [HG1.out]; first | done | rfl, HB.out⟩

set_option maxHeartbeats 8000000 in
set_option maxRecDepth 100000 in
/-- Bytes that are alike are found alike. -/
theorem bytesSame (A0 A1 : Option Addr) (c0 c1 : Nat) (l : List Int) (w : World) (hr0 : Kd.C (Kd.int .u8) w A0 l.length l) (hr1 : Kd.C (Kd.int .u8) w A1 l.length l) (hl : l.length ≤ 64) :
    Calls Try.prog 19 #[.slice A0 l.length c0, .slice A1 l.length c1] w fun e w' => e = .returned (.bool true) ∧ Below w.heap.size w w' := by
  have HR0 := Aside0.mk hr0
  have HR1 := Aside0.mk hr1
  have HL := Aside0.mk hl
  clear hr0 hr1 hl
  have HB := Aside0.mk (Below.refl w.heap.size w)
  have cn : ((l.length : Int) != (l.length : Int)) = false := by simp
  go_enter Try.func19, Try.ntmps19
  go_wp2
  go_loopg [5] l.length (fun kq v5 w' => ∃ (x : Int), v5 = .int .i64 x ∧ Aside0 (0 ≤ x ∧ x + kq = (l.length : Int)) ∧ Aside0 (Below w.heap.size w w'))
  case atStart => exact ⟨0, (by first | rfl | (simp; done)), ⟨by simp⟩, HB⟩
  case round =>
    clear HB
    obtain ⟨x, rfl, HX, HB⟩ := hrel
    by_cases c : x < (l.length : Int)
    · have cb : decide (x < (l.length : Int)) = true := decide_eq_true c
      have CC := Aside0.mk c
      have p1 : 0 ≤ x := HX.out.1
      obtain ⟨ad, e1, h0⟩ := Kd.at_int HR0.out x p1 c
      cases e1
      obtain ⟨ad2, e2, h1⟩ := Kd.at_int HR1.out x p1 c
      cases e2
      have H0 := Aside0.mk ((HB.out.cell (World.block_lt_of_cell? w _ h0)).trans h0)
      have H1 := Aside0.mk ((HB.out.cell (World.block_lt_of_cell? w _ h1)).trans h1)
      have HN := Aside0.mk (wrap_i (x := x + 1) (by omega) (by have := HL.out; omega))
      have hne : (rd l x != rd l x) = false := by simp
      have p1' := decide_eq_true p1
      clear h0 h1
      replace p1 := eq_true p1
      replace c := eq_true c
      have S0 := St.start wr
      try go_wp2
      refine wp_region_st S0 (by kernel_rfl) (by kernel_rfl) ?_
      haveI : Nonempty (Cls _ _) := ⟨⟨_, S0⟩⟩
      repeat (first | (go_big_quiet_want; (with_reducible refine quiet_at 5 _ rfl _ rfl (.int .u8 (rd l x)) _ (fun x_ => (x_.st.below.cell (World.block_lt_of_cell? wr _ H0.out)).trans H0.out) Try.underlying5 rfl ?_); go_big_quiet_on; (try simp only [Act.put, List.setIfInBounds_toArray, List.set_cons_zero, List.set_cons_succ])) | (go_big_quiet_want; (with_reducible refine quiet_at 5 _ rfl _ rfl (.int .u8 (rd l x)) _ (fun x_ => (x_.st.below.cell (World.block_lt_of_cell? wr _ H1.out)).trans H1.out) Try.underlying5 rfl ?_); go_big_quiet_on; (try simp only [Act.put, List.setIfInBounds_toArray, List.set_cons_zero, List.set_cons_succ])) | go_big_quiet_step ((first | (go_at_call 27; fail))))
      refine wpQuiet_nil ?_
      rintro ⟨w9, S9⟩
      go_wp2
      go_roundg (gk - 1)
      case measure => have := HX.out; have := CC.out; omega
      case rel => exact ⟨x + 1, (by first | rfl | (simp; done) | (simp [HN.out]; done)), ⟨by have := HX.out; have := CC.out; omega⟩, ⟨below_step HB.out S9.below⟩⟩
    · have cb : decide (x < (l.length : Int)) = false := decide_eq_false c
      clear c
      go_wp2
      go_ret
      exact ⟨rfl, HB.out⟩
theorem early0 (e : S37) (w : World) : Calls Try.prog 21 #[.slice none 0 0, .agg #[.int .u64 e.f0, .int .u32 e.f1, .int .u32 e.f2, .int .i64 e.f3, .bool e.f4]] w fun e_ w' => e_ = .returned (.int .u64 0) ∧ Below w.heap.size w w' := by
  have S0 := St.start w
  go_enter Try.func21, Try.ntmps21
  go_wp2_with (first | ((with_reducible refine gate_dst (N := 3) rfl ?_); refine box_event ?hg (N := 3) ?hd (cs := #[.int .u64 e.f0, .int .u32 e.f1, .int .u32 e.f2, .int .i64 e.f3, .bool e.f4]) (t := 56) ?hr ?_; (case hd => rfl); (case hg => rfl); (case hr => first | (go_simp; done) | (go_simp; rfl)); intro g1 hg w1 hbox hb; have S1 := S0.box hg hbox hb; clear hg hbox hb; clear S0))
  go_loopg [5, 6, 11] 0 (fun kq v5 v6 v11 w' => v5 = .int .u64 0 ∧ v6 = .bool false ∧ v11 = .int .i64 0 ∧ Aside0 (Below w.heap.size w w'))
  case atStart => exact ⟨(by first | rfl | (simp; done)), (by first | rfl | (simp; done)), (by first | rfl | (simp; done)), ⟨S1.below⟩⟩
  case round =>
    clear S1
    obtain ⟨rfl, rfl, rfl, HB⟩ := hrel
    go_wp2
    go_ret
    exact ⟨rfl, HB.out⟩

end Go.Proofs.Ytmpnnppgppoliaa.Ld
