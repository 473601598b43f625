/- What sb.Put and sb.Pop come to: walks of the code. The conditions are those that each theorem names. -/
import Derived.Test.YtmpnnppgppoliaaLdE
import Derived.Great.FillDense
namespace Go.Proofs.Ytmpnnppgppoliaa.Ld
open Go Go.Proofs Go.RowKit Go.Proofs.YtmpnnppgppoliaaW.PrintWords Go.Proofs.YtmpnnppgppoliaaW.PrintLast Go.Proofs.YtmpnnppgppoliaaW.PrintMore Go.Proofs.Ytmpnnppgppoliaa.Boxes Go.Proofs.Ytmpnnppgppoliaa.PFwd
attribute [local go_sem] max2_int min2_int max_two min_two max_three min_three max_four min_four   -- for this text's walks alone
set_option linter.unusedVariables false
set_option linter.unusedSimpArgs false

theorem info64 : (Try.prog.info? 64).map (fun i => (i.zero, i.size, i.bytes)) = some (some (.agg #[(.int .u32 0), (.int .u32 0), (.int .i64 0)]), 3, 16) := by kernel_rfl
def cs48 (x : S48) : List Value := [.int .u32 x.f0, .int .u32 x.f1, .int .i64 x.f2]
theorem KM_64 : ∀ (w w1 : World) (base : Nat) (ok : Nat → Prop) (x : S48) (cs : List Value), k48.K w x cs → k48.M w1 base ok x cs := fun _ _ _ _ _ _ h => by rw [k48_open h]; exact k48_mkM _ _ _ _
section
variable {α : Type} {d : Kd α} {ops : Array Oper} {o : Oper} {a : Act} {w : World} {K : Act → World → Prop} {Q : Exit → Act → World → Prop}
theorem step_bs {E : Prop} (hg : o.guard = none) (t e : TypeId) (y : Operand) (ho : o.op = .buildSlice t 1 #[(0, y)]) {N : Tmp} (hN : o.dst = some N) (bytes : Nat) (z : Value) (hu : Try.prog.underlying t = some (.slice e))
    (hinfo : (Try.prog.info? e).map (fun i => (i.zero, i.size, i.bytes)) = some (some z, d.sz, bytes)) (hz : z.cells.size = d.sz) (h0k : 0 < d.sz) (hks : d.sz ≤ 1000) (cs : List Value) (hl : cs.length = d.sz) (hy : a.eval y = .agg cs.toArray)
    (h : K (a.put (some N) (.slice (some ⟨w.heap.size, 0, none⟩) 1 1)) (w.alloc (.cells cs.toArray e))) : if Region.wanted o (yielded ops a.tmps) = true then Oper.wp Try.prog o a w K Q else E := by
  have hw : Region.wanted o (yielded ops a.tmps) = true := by simp [Region.wanted, hg]
  rw [if_pos hw]
  obtain ⟨i0, hi, hzz⟩ := Option.map_eq_some_iff.1 hinfo
  simp only [Prod.mk.injEq] at hzz
  obtain ⟨hz0, hz1, hz2⟩ := hzz
  refine wp_buildSlice t e 1 _ ho cs.toArray i0 _ hu hi hz0 (by rw [hz1]; omega) (by rw [hz1]; omega) ?_ ?_
  · rw [hz1]
    have := Go.Great.fill_whole (s := d.sz) h0k [Value.agg cs.toArray] ((Array.range (1 * d.sz)).map (z.cells[· % z.cells.size]!)) (fun v hv => by rw [List.mem_singleton.1 hv]; simpa [Value.cells] using hl) (by simp)
    simpa [hy, Value.cells] using this
  · rw [hN]; exact h
theorem step_full {E : Prop} {w0 : World} (hg : o.guard = none) (s x : Operand) (t e : TypeId) (ho : o.op = .call { callee := .builtin .append, args := #[s, x], argTypes := #[t, t] }) {N : Tmp} (hN : o.dst = some N) (bytes : Nat) (z : Value) (hu : Try.prog.underlying t = some (.slice e))
    (hinfo : (Try.prog.info? e).map (fun i => (i.zero, i.size, i.bytes)) = some (some z, d.sz, bytes)) (hz : z.cells.size = d.sz) (h0k : 0 < d.sz) (hKM : ∀ w w1 base ok x cs, d.K w x cs → d.M w1 base ok x cs) {A : Option Addr} {l : List α} {p : α} {cs : List Value} {g : Nat}
    (hs : a.eval s = .slice A l.length l.length) (hx : a.eval x = .slice (some ⟨g, 0, none⟩) 1 1) (hn : w.heap[g]? = some (.cells cs.toArray e (0, 0))) (hp : ∀ w_, d.K w_ p cs) (hC : d.C w A l.length l) (HB : Below w0.heap.size w0 w) (hm : l.length + 1 ≤ maxLen) (hb : (l.length + 1) * bytes ≤ 140737488355328)
    (h : ∀ v' w', d.R e w' w0.heap.size (fun _ => True) v' (l ++ [p]) → Below w0.heap.size w0 w' → K (a.put (some N) v') w') : if Region.wanted o (yielded ops a.tmps) = true then Oper.wp Try.prog o a w K Q else E := by
  rw [← hN] at h
  obtain ⟨i0, hi, hzz⟩ := Option.map_eq_some_iff.1 hinfo
  simp only [Prod.mk.injEq] at hzz
  obtain ⟨hz0, hz1, hz2⟩ := hzz
  have hcl : cs.length = d.sz := d.K_len (hp w)
  obtain ⟨inner, hr, hc⟩ : ∃ inner, Reps (d.K w) d.sz l inner ∧ ∀ b, A = some b → ∀ j u, inner[j]? = some u → w.cell? (b.add j) = some u := by
    rcases Nat.eq_zero_or_pos l.length with h0 | hp
    · obtain rfl : l = [] := List.eq_nil_of_length_eq_zero h0
      exact ⟨[], Reps.none _ _, fun b _ j u h => by simp at h⟩
    · obtain ⟨ad, rfl, _⟩ := hC.2.2 hp
      obtain ⟨inner, hr, hc⟩ := ReadsRow.inner_ hC
      exact ⟨inner, hr, fun b hb => by cases hb; exact hc⟩
  refine step_append_grows hg s x t ho e i0 _ d.sz bytes hu hi hz0 hz1 hz2 hz h0k A l.length l.length inner hs (fun h0 => ?_) hr.1 hc ⟨g, 0, none⟩ 1 1 cs hx (by rw [hcl]; omega) (fun j u hj => ?_) (d.K_one (hp w)) (by omega) hm hb (fun v' w' hown hgr => ?_)
  · have : l.length = 0 := by
      rcases Nat.eq_zero_or_pos l.length with h1 | h1
      · exact h1
      · obtain ⟨ad, q, _⟩ := hC.2.2 h1; rw [h0] at q; cases q
    omega
  · rw [add_plain, cell_of_row _ _ _ _ _ _ hn]
    simpa using hj
  · refine h v' w' ⟨fun _ _ => trivial, inner ++ cs, by rw [List.length_append]; exact own_weaken hown HB.size, ?_⟩ (below_step HB ⟨hgr.os, hgr.tape, hgr.output, hgr.size, fun k hk => hgr.block k hk (by simp)⟩)
    exact (AppKd.reps_append hr (AppKd.Reps.one h0k (hp w) hcl)).imp_ fun x cs h => hKM _ _ _ _ x cs h
end

set_option maxHeartbeats 8000000 in
set_option maxRecDepth 100000 in
theorem sbPut (A0 : Option Addr) (c0 : Nat) (l : List S48) (e : S37) (most : Int) (w : World) (hr0 : Kd.C k48 w A0 l.length l) (hc0 : l.length ≤ c0) (hm : 1 ≤ most ∧ most ≤ 8) (hl : (l.length : Int) < most) :
    Calls Try.prog 16 #[.slice A0 l.length c0, .agg #[.int .u64 e.f0, .int .u32 e.f1, .int .u32 e.f2, .int .i64 e.f3, .bool e.f4], .int .i64 most] w fun e_ w' => (∃ r, e_ = .returned (.tuple #[r, .bool true]) ∧ Kd.R k48 64 w' w.heap.size (fun _ => True) r (l ++ [⟨e.f1, e.f2, e.f3⟩])) ∧ Below w.heap.size w w' := by
  have HR0 := Aside0.mk hr0
  have HC0 := Aside0.mk hc0
  have HL := Aside0.mk (show l.length ≤ 8 by omega)
  have S0 := St.start w
  have h2_ : (if most < 0 then 0 else most) = most := if_neg (by omega)
  have h3_ : (if 8 < most then 8 else most) = most := if_neg (by omega)
  have cb : decide (most ≤ (l.length : Int)) = false := decide_eq_false (by omega)
  clear hr0 hl hm hc0
  go_enter Try.func16, Try.ntmps16
  go_upto_region 3 with (first | ((with_reducible refine gate_dst (N := 4) rfl ?_); refine box_event ?hg (N := 4) ?hd (cs := #[.int .u64 e.f0, .int .u32 e.f1, .int .u32 e.f2, .int .i64 e.f3, .bool e.f4]) (t := 56) ?hr ?_; (case hd => rfl); (case hg => rfl); (case hr => first | (go_simp; done) | (go_simp; rfl)); intro g1 hg w1 hbox hb; have S1 := S0.box hg hbox hb; clear hg hbox hb; clear S0))
  refine start_ (n := 17) (S := fun w_ => w_.heap[g1]? = some (.cells #[.int .u64 e.f0, .int .u32 e.f1, .int .u32 e.f2, .int .i64 e.f3, .bool e.f4] 56 (0, 0))) (ds := [13, 14]) #[false, false, false, false, false, false, false, false, false, false, false, false, false, false, false, false, false] (by kernel_rfl) rfl rfl ((S1.drew.heap ⟨g1, #[.int .u64 e.f0, .int .u32 e.f1, .int .u32 e.f2, .int .i64 e.f3, .bool e.f4], 56⟩ (by simp))) (fun hHeld => ?_)
  have HB9 := Aside0.mk S1.drew.below
  have hc0_ := HC0.out
  generalize World.drew _ = w10 at HB9 hHeld ⊢
  refine pure_ (i := 0) (N := some 15) (v := ?_) (a' := ?_) #[true, false, false, false, false, false, false, false, false, false, false, false, false, false, false, false, false] rfl rfl (by kernel_rfl) (fun _ _ _ h => h) (Or.inl ⟨by rfl, ?_⟩) ?_ ?_
  rotate_left
  · intro w'
    go_simp
    with_reducible rfl
  rotate_left
  · simp only [Act.put, List.setIfInBounds_toArray, List.set_cons_zero, List.set_cons_succ]
    rfl
  refine pure_ (i := 1) (N := some 16) (v := ?_) (a' := ?_) #[true, true, false, false, false, false, false, false, false, false, false, false, false, false, false, false, false] rfl rfl (by kernel_rfl) (fun _ _ _ h => h) (Or.inl ⟨by rfl, ?_⟩) ?_ ?_
  rotate_left
  · intro w'
    go_simp
    with_reducible rfl
  rotate_left
  · simp only [Act.put, List.setIfInBounds_toArray, List.set_cons_zero, List.set_cons_succ]
    rfl
  refine pure_ (i := 2) (N := some 17) (v := ?_) (a' := ?_) #[true, true, true, false, false, false, false, false, false, false, false, false, false, false, false, false, false] rfl rfl (by kernel_rfl) (fun _ _ _ h => h) (Or.inl ⟨by rfl, ?_⟩) ?_ ?_
  rotate_left
  · intro w'
    go_simp
    with_reducible rfl
  rotate_left
  · simp only [Act.put, List.setIfInBounds_toArray, List.set_cons_zero, List.set_cons_succ]
    rfl
  refine pure_ (i := 3) (N := some 18) (v := ?_) (a' := ?_) #[true, true, true, true, false, false, false, false, false, false, false, false, false, false, false, false, false] rfl rfl (by kernel_rfl) (fun _ _ _ h => h) (Or.inl ⟨by rfl, ?_⟩) ?_ ?_
  rotate_left
  · intro w'
    go_simp
    with_reducible rfl
  rotate_left
  · simp only [Act.put, List.setIfInBounds_toArray, List.set_cons_zero, List.set_cons_succ]
    rfl
  refine pure_ (i := 4) (N := some 19) (v := ?_) (a' := ?_) #[true, true, true, true, true, false, false, false, false, false, false, false, false, false, false, false, false] rfl rfl (by kernel_rfl) (fun _ _ _ h => h) (Or.inl ⟨by rfl, ?_⟩) ?_ ?_
  rotate_left
  · intro w'
    go_simp
    with_reducible rfl
  rotate_left
  · simp only [Act.put, List.setIfInBounds_toArray, List.set_cons_zero, List.set_cons_succ]
    rfl
  refine pure_ (i := 5) (N := some 20) (v := ?_) (a' := ?_) #[true, true, true, true, true, true, false, false, false, false, false, false, false, false, false, false, false] rfl rfl (by kernel_rfl) (fun _ _ _ h => h) (Or.inl ⟨by rfl, ?_⟩) ?_ ?_
  rotate_left
  · intro w'
    go_simp
    with_reducible rfl
  rotate_left
  · simp only [Act.put, List.setIfInBounds_toArray, List.set_cons_zero, List.set_cons_succ]
    rfl
  refine pure_ (i := 6) (N := some 21) (v := ?_) (a' := ?_) #[true, true, true, true, true, true, true, false, false, false, false, false, false, false, false, false, false] rfl rfl (by kernel_rfl) (fun _ _ _ h => h) (Or.inl ⟨by rfl, ?_⟩) ?_ ?_
  rotate_left
  · intro w'
    go_simp
    with_reducible rfl
  rotate_left
  · simp only [Act.put, List.setIfInBounds_toArray, List.set_cons_zero, List.set_cons_succ]
    rfl
  refine take_ (i := 7) (N := some 22) (v := .int .u32 e.f1) (a' := ?_) #[true, true, true, true, true, true, true, true, false, false, false, false, false, false, false, false, false] rfl rfl (by kernel_rfl) (fun _ _ _ h => h) (Or.inl ⟨by rfl, fun w_ hw_ => exec_load_cell 32 _ rfl g1 1 rfl _ _ (blk_cell hw_ 1) Try.underlying32 rfl⟩) hHeld ?_ ?_
  rotate_left
  · simp only [Act.put, List.setIfInBounds_toArray, List.set_cons_zero, List.set_cons_succ]
    rfl
  refine pure_ (i := 8) (N := some 23) (v := ?_) (a' := ?_) #[true, true, true, true, true, true, true, true, true, false, false, false, false, false, false, false, false] rfl rfl (by kernel_rfl) (fun _ _ _ h => h) (Or.inl ⟨by rfl, ?_⟩) ?_ ?_
  rotate_left
  · intro w'
    go_simp
    with_reducible rfl
  rotate_left
  · simp only [Act.put, List.setIfInBounds_toArray, List.set_cons_zero, List.set_cons_succ]
    rfl
  refine take_ (i := 9) (N := some 24) (v := .int .u32 e.f2) (a' := ?_) #[true, true, true, true, true, true, true, true, true, true, false, false, false, false, false, false, false] rfl rfl (by kernel_rfl) (fun _ _ _ h => h) (Or.inl ⟨by rfl, fun w_ hw_ => exec_load_cell 32 _ rfl g1 2 rfl _ _ (blk_cell hw_ 2) Try.underlying32 rfl⟩) hHeld ?_ ?_
  rotate_left
  · simp only [Act.put, List.setIfInBounds_toArray, List.set_cons_zero, List.set_cons_succ]
    rfl
  refine pure_ (i := 10) (N := some 25) (v := ?_) (a' := ?_) #[true, true, true, true, true, true, true, true, true, true, true, false, false, false, false, false, false] rfl rfl (by kernel_rfl) (fun _ _ _ h => h) (Or.inl ⟨by rfl, ?_⟩) ?_ ?_
  rotate_left
  · intro w'
    go_simp
    with_reducible rfl
  rotate_left
  · simp only [Act.put, List.setIfInBounds_toArray, List.set_cons_zero, List.set_cons_succ]
    rfl
  refine take_ (i := 11) (N := some 26) (v := .int .i64 e.f3) (a' := ?_) #[true, true, true, true, true, true, true, true, true, true, true, true, false, false, false, false, false] rfl rfl (by kernel_rfl) (fun _ _ _ h => h) (Or.inl ⟨by rfl, fun w_ hw_ => exec_load_cell 3 _ rfl g1 3 rfl _ _ (blk_cell hw_ 3) Try.underlying3 rfl⟩) hHeld ?_ ?_
  rotate_left
  · simp only [Act.put, List.setIfInBounds_toArray, List.set_cons_zero, List.set_cons_succ]
    rfl
  refine pure_ (i := 12) (N := some 27) (v := ?_) (a' := ?_) #[true, true, true, true, true, true, true, true, true, true, true, true, true, false, false, false, false] rfl rfl (by kernel_rfl) (fun _ _ _ h => h) (Or.inl ⟨by rfl, ?_⟩) ?_ ?_
  rotate_left
  · intro w'
    go_simp
    with_reducible rfl
  rotate_left
  · simp only [Act.put, List.setIfInBounds_toArray, List.set_cons_zero, List.set_cons_succ]
    rfl
  refine last_ (i := 13) (N := some 28) #[true, true, true, true, true, true, true, true, true, true, true, true, true, true, false, false, false] rfl rfl (by kernel_rfl) (by decide) (fun K hK => ?_)
  refine step_bs (d := k48) rfl 50 64 _ rfl rfl 16 _ Try.underlying50 info64 rfl (by decide) (by decide) [.int .u32 e.f1, .int .u32 e.f2, .int .i64 e.f3] rfl rfl ?_
  refine hK.out _ _ ?_
  clear hK K
  have HB11 := Aside0.mk (below_alloc HB9.out (.cells ([.int .u32 e.f1, .int .u32 e.f2, .int .i64 e.f3] : List Value).toArray 64))
  have HN11 := Aside0.mk (blk_new w10 (.cells ([.int .u32 e.f1, .int .u32 e.f2, .int .i64 e.f3] : List Value).toArray 64 (0, 0)))
  generalize hgn : w10.heap.size = gn at HN11 ⊢
  generalize World.alloc _ _ = w11 at HB11 HN11 ⊢
  simp only [Act.put, List.setIfInBounds_toArray, List.set_cons_zero, List.set_cons_succ]
  refine last_ (i := 14) (N := some 29) #[true, true, true, true, true, true, true, true, true, true, true, true, true, true, true, false, false] rfl rfl (by kernel_rfl) (by decide) (fun K hK => ?_)
  refine step_full (d := k48) (w0 := w) rfl _ _ 50 64 rfl rfl 16 _ Try.underlying50 info64 rfl (by decide) KM_64 (A := A0) (l := l) (p := ⟨e.f1, e.f2, e.f3⟩) (cs := [.int .u32 e.f1, .int .u32 e.f2, .int .i64 e.f3]) (g := gn) rfl rfl HN11.out (fun _ => k48_mk _ _) (Kd.C_below HR0.out HB11.out) HB11.out (by have := HL.out; simp only [maxLen]; omega) (by have := HL.out; omega) ?_
  intro v12 w12 hR_ hB_
  refine hK.out _ _ ?_
  clear hK K
  have HO12 := Aside0.mk hR_
  have HB12 := Aside0.mk hB_
  clear hR_ hB_
  simp only [Act.put, List.setIfInBounds_toArray, List.set_cons_zero, List.set_cons_succ]
  refine pure_ (i := 15) (N := some 6) (v := ?_) (a' := ?_) #[true, true, true, true, true, true, true, true, true, true, true, true, true, true, true, true, false] rfl rfl (by kernel_rfl) (fun _ _ _ h => h) (Or.inl ⟨by rfl, ?_⟩) ?_ ?_
  rotate_left
  · intro w'
    go_simp
    with_reducible rfl
  rotate_left
  · simp only [Act.put, List.setIfInBounds_toArray, List.set_cons_zero, List.set_cons_succ]
    rfl
  refine pure_ (i := 16) (N := some 7) (v := ?_) (a' := ?_) #[true, true, true, true, true, true, true, true, true, true, true, true, true, true, true, true, true] rfl rfl (by kernel_rfl) (fun _ _ _ h => h) (Or.inl ⟨by rfl, ?_⟩) ?_ ?_
  rotate_left
  · intro w'
    go_simp
    with_reducible rfl
  rotate_left
  · simp only [Act.put, List.setIfInBounds_toArray, List.set_cons_zero, List.set_cons_succ]
    rfl
  refine done_ (by kernel_rfl) ?_
  go_wp2
  go_ret2
  exact ⟨⟨v12, by first | rfl | (simp; done), HO12.out⟩, HB12.out⟩
theorem sbFull (A0 : Option Addr) (c0 : Nat) (l : List S48) (e : S37) (most : Int) (w : World) (hm : 1 ≤ most ∧ most ≤ 8) (hl : most ≤ (l.length : Int)) :
    Calls Try.prog 16 #[.slice A0 l.length c0, .agg #[.int .u64 e.f0, .int .u32 e.f1, .int .u32 e.f2, .int .i64 e.f3, .bool e.f4], .int .i64 most] w fun e_ w' => e_ = .returned (.tuple #[.slice A0 l.length c0, .bool false]) ∧ Below w.heap.size w w' := by
  have S0 := St.start w
  have h2_ : (if most < 0 then 0 else most) = most := if_neg (by omega)
  have h3_ : (if 8 < most then 8 else most) = most := if_neg (by omega)
  have cb : decide (most ≤ (l.length : Int)) = true := decide_eq_true hl
  clear hl hm
  go_enter Try.func16, Try.ntmps16
  go_wp2_with (first | ((with_reducible refine gate_dst (N := 4) rfl ?_); refine box_event ?hg (N := 4) ?hd (cs := #[.int .u64 e.f0, .int .u32 e.f1, .int .u32 e.f2, .int .i64 e.f3, .bool e.f4]) (t := 56) ?hr ?_; (case hd => rfl); (case hg => rfl); (case hr => first | (go_simp; done) | (go_simp; rfl)); intro g1 hg w1 hbox hb; have S1 := S0.box hg hbox hb; clear hg hbox hb; clear S0))
  go_ret2
  exact ⟨by first | rfl | (simp; done), S1.below⟩

end Go.Proofs.Ytmpnnppgppoliaa.Ld
