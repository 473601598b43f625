/- append(nil, l...), append of a row that is read onto a row of the call's own, and append onto a row without room: as rows of elements of several cells. The conditions are those that each theorem names. -/
import Derived.ArgAppend
import Derived.Great.BuildSlice
import Derived.Laws.CopyOwn
import Derived.Test.YtmpnnppgppoliaaWMore
namespace Go.Proofs.Ytmpnnppgppoliaa.AppKd
set_option linter.unusedVariables false
open Go Go.RowKit Go.Proofs.YtmpnnppgppoliaaW.PrintWords Go.Proofs.YtmpnnppgppoliaaW.PrintLast Go.Proofs.YtmpnnppgppoliaaW.PrintMore
section
variable {α : Type} {d : Kd α} {P : Program}
theorem inner_one {l : List α} {R : α → List Value → Prop} {size : Nat} (h0 : 0 < size) {inner : List Value} (hr : Reps R size l inner) (h1 : ∀ x cs, R x cs → ∀ u ∈ cs, u.oneCell' = true) : ∀ u ∈ inner, u.oneCell' = true := by
  intro u hu'
  obtain ⟨j, hj⟩ := List.getElem?_of_mem hu'
  have hjl : j < inner.length := (List.getElem?_eq_some_iff.1 hj).1
  have hq : j / size < l.length := Nat.div_lt_of_lt_mul (by rw [Nat.mul_comm, ← hr.1]; exact hjl)
  refine h1 _ _ (hr.2 (j / size) _ (List.getElem?_eq_getElem hq)) u (List.mem_of_getElem? (i := j % size) ?_)
  rw [List.getElem?_take, if_pos (Nat.mod_lt _ h0), List.getElem?_drop, ← hj]
  congr 1
  rw [Nat.mul_comm]
  exact Nat.div_add_mod _ _
theorem reps_append {R : α → List Value → Prop} {size : Nat} {l m : List α} {a b : List Value} (ha : Reps R size l a) (hb : Reps R size m b) : Reps R size (l ++ m) (a ++ b) := by
  refine ⟨by rw [List.length_append, List.length_append, ha.1, hb.1, Nat.add_mul], fun j p hj => ?_⟩
  by_cases hlt : j < l.length
  · rw [List.getElem?_append_left hlt] at hj
    have := ha.2 j p hj
    have hle : (j + 1) * size ≤ a.length := by rw [ha.1]; exact Nat.mul_le_mul_right _ hlt
    rw [Nat.succ_mul] at hle
    rwa [List.drop_append_of_le_length (by omega), List.take_append_of_le_length (by rw [List.length_drop]; omega)]
  · rw [List.getElem?_append_right (by omega)] at hj
    have := hb.2 (j - l.length) p hj
    have e : j * size = a.length + (j - l.length) * size := by rw [ha.1, ← Nat.add_mul]; congr 1; omega
    rwa [e, ← List.drop_drop, List.drop_left]
theorem Reps.one {R : α → List Value → Prop} {size : Nat} (h0 : 0 < size) {p : α} {c : List Value} (hp : R p c) (hc : c.length = size) : Reps R size [p] c := by
  have := Reps.snoc (Reps.none R size) hp hc
  simpa using this
/-- append of a row that is read onto a row of the call's own (nil too). -/
theorem appended (h0k : 0 < d.sz) (t ty e : TypeId) (bytes : Nat) (z : Value) (hu : P.underlying t = some (.slice e)) (hinfo : (P.info? e).map (fun i => (i.zero, i.size, i.bytes)) = some (some z, d.sz, bytes)) (hz : z.cells.size = d.sz)
    {w w0 : World} {base : Nat} {v : Value} {A : Option Addr} {c : Nat} {xs l : List α} (hbase : base ≤ w.heap.size) (hR : d.R e w base (fun _ => True) v xs) (hC : d.C w A l.length l) (hKM : ∀ w w1 base ok x cs, d.K w x cs → d.M w1 base ok x cs)
    (hm : xs.length + l.length ≤ maxLen) (hb : (xs.length + l.length) * bytes ≤ 140737488355328) :
    ∃ v' w', (Builtin.append_ #[t, t] ty #[v, .slice A l.length c]).run P w = .ok v' w' ∧ d.R e w' base (fun _ => True) v' (xs ++ l) ∧ w.grownBy w' v.ownBlock := by
  obtain ⟨i0, hi, hzz⟩ := Option.map_eq_some_iff.1 hinfo
  simp only [Prod.mk.injEq] at hzz
  obtain ⟨hz0, hz1, hz2⟩ := hzz
  have hx : ∃ (ad : Addr) (inner : List Value), (Builtin.append_ #[t, t] ty #[v, .slice A l.length c]).run P w = (Builtin.append_ #[t, t] ty #[v, .slice (some ad) l.length c]).run P w ∧ Reps (d.K w) d.sz l inner ∧ ∀ j u, inner[j]? = some u → w.cell? (ad.add j) = some u := by
    rcases Nat.eq_zero_or_pos l.length with h0 | hp
    · obtain rfl : l = [] := List.eq_nil_of_length_eq_zero h0
      refine ⟨⟨0, 0, none⟩, [], ?_, Reps.none _ _, fun j u h => by simp at h⟩
      cases A with
      | none =>
        have hl : ∀ (x : Addr), (loadCells x 0).run P w = .ok #[] w := fun x => by simpa using run_loadCells_list (P := P) w x [] (by simp)
        obtain ⟨B, cap, rfl, hle, _⟩ := Kd.R_reads hR
        simp [Builtin.append_, run_underlying hu, sizeOf, typeInfo, hi, Builtin.lenOf, Builtin.firstCells, hl, hle]
      | some ad =>
        have hl : ∀ (x : Addr), (loadCells x 0).run P w = .ok #[] w := fun x => by simpa using run_loadCells_list (P := P) w x [] (by simp)
        obtain ⟨B, cap, rfl, hle, _⟩ := Kd.R_reads hR
        simp [Builtin.append_, run_underlying hu, sizeOf, typeInfo, hi, Builtin.lenOf, Builtin.firstCells, hl, hle]
    · obtain ⟨ad, rfl, _⟩ := hC.2.2 hp
      obtain ⟨inner, hr, hc⟩ := ReadsRow.inner_ hC
      exact ⟨ad, inner, rfl, hr, hc⟩
  obtain ⟨ad, inner, hrw, hr, hc⟩ := hx
  obtain ⟨hok, inner0, ho, hr0⟩ := hR
  obtain ⟨v', w', hrun, h1, h2, h3⟩ := run_append_own (P := P) w base t ty e i0 z d.sz bytes hu hi hz0 hz1 hz2 hz h0k v xs.length inner0 ho ad l.length c inner hr.1 hc (inner_one h0k hr (fun x cs h => d.K_one h)) hm hb hbase
  exact ⟨v', w', hrw.trans hrun, ⟨fun _ _ => trivial, inner0 ++ inner, by rw [List.length_append]; exact h1, reps_append (hr0.imp_ fun x cs h => hKM _ _ _ _ x cs (d.K_of_M h)) (hr.imp_ fun x cs h => hKM _ _ _ _ x cs h)⟩, h2⟩
/-- append(nil, l...) as a law of the walk. -/
theorem wpList_app_nil {ops : Array Oper} {rest : List Oper} {o : Oper} {a : Act} {Q : Exit → Act → World → Prop} (hgd : o.guard = none) (s x : Operand) (t : TypeId)
    (ho : o.op = .call { callee := .builtin .append, args := #[s, x], argTypes := #[t, t] }) (h0k : 0 < d.sz) (e : TypeId) (bytes : Nat) (z : Value) (hu : P.underlying t = some (.slice e)) (hinfo : (P.info? e).map (fun i => (i.zero, i.size, i.bytes)) = some (some z, d.sz, bytes)) (hz : z.cells.size = d.sz)
    (hKM : ∀ w w1 base ok x cs, d.K w x cs → d.M w1 base ok x cs) {w : World} {A : Option Addr} {c : Nat} {l : List α} (hs : a.eval s = .slice none 0 0) (hx : a.eval x = .slice A l.length c) (hC : d.C w A l.length l) (hm : l.length ≤ maxLen) (hb : l.length * bytes ≤ 140737488355328)
    (h : ∀ v' w', d.R e w' w.heap.size (fun _ => True) v' l → Below w.heap.size w w' → wpList P ops Q rest (a.put o.dst v') w') : wpList P ops Q (o :: rest) a w := by
  obtain ⟨v', w', hrun, hR, hg⟩ := appended (P := P) (d := d) (c := c) h0k t o.type e bytes z hu hinfo hz (w0 := w) (Nat.le_refl _) (Kd.R_nil d e w w.heap.size (fun _ => True)) hC hKM (by simpa using hm) (by simpa using hb)
  refine wpList_plain hgd fun K hK => ?_
  unfold Oper.wp
  simp [execOp, ho, resolve, invoke, builtin, hs, hx, hrun, Result.andThen]
  exact hK _ _ (h v' w' hR ⟨hg.os, hg.tape, hg.output, hg.size, fun k hk => hg.block k hk (by simp [Value.ownBlock])⟩)
/-- append(l[:len(l):len(l)], x): the element's own row, and the row that grows. -/
theorem wpList_app_full {ops : Array Oper} {rest : List Oper} {o1 o2 : Oper} {a : Act} {Q : Exit → Act → World → Prop} (hg1 : o1.guard = none) (hg2 : o2.guard = none) (y s x : Operand) (t e : TypeId) (ho1 : o1.op = .buildSlice t 1 #[(0, y)])
    (ho2 : o2.op = .call { callee := .builtin .append, args := #[s, x], argTypes := #[t, t] }) (h0k : 0 < d.sz) (hks : d.sz ≤ 16777216) (bytes : Nat) (z : Value) (hu : P.underlying t = some (.slice e)) (hinfo : (P.info? e).map (fun i => (i.zero, i.size, i.bytes)) = some (some z, d.sz, bytes)) (hz : z.cells.size = d.sz)
    (hKM : ∀ w w1 base ok x cs, d.K w x cs → d.M w1 base ok x cs) {w w0 : World} {A : Option Addr} {l : List α} {p : α} {cs : List Value} (hy : a.eval y = .agg cs.toArray) (hp : d.K w p cs)
    (hf : Instr.fill (fun i => some (i * d.sz, d.sz)) ((Array.range (1 * d.sz)).map (z.cells[· % z.cells.size]!)) [(0, .agg cs.toArray)] = some cs.toArray)
    (hs : ∀ v, (a.put o1.dst v).eval s = .slice A l.length l.length) (hx : ∀ v, (a.put o1.dst v).eval x = v) (hB : Below w0.heap.size w0 w) (hC : d.C w A l.length l) (hm : l.length + 1 ≤ maxLen) (hb : (l.length + 1) * bytes ≤ 140737488355328)
    (h : ∀ u v' w', d.R e w' w0.heap.size (fun _ => True) v' (l ++ [p]) → Below w0.heap.size w0 w' → wpList P ops Q rest ((a.put o1.dst u).put o2.dst v') w') : wpList P ops Q (o1 :: o2 :: rest) a w := by
  obtain ⟨i0, hi, hzz⟩ := Option.map_eq_some_iff.1 hinfo
  simp only [Prod.mk.injEq] at hzz
  obtain ⟨hz0, hz1, hz2⟩ := hzz
  refine wpList_buildSlice hg1 t e 1 _ ho1 cs.toArray i0 z hu hi hz0 (by rw [hz1]; omega) (by rw [hz1]; omega) ?_ ?_
  · rw [hz1]
    simpa [hy] using hf
  obtain ⟨inner, hr, hc⟩ : ∃ inner, Reps (d.K w) d.sz l inner ∧ ∀ b, A = some b → ∀ j u, inner[j]? = some u → w.cell? (b.add j) = some u := by
    rcases Nat.eq_zero_or_pos l.length with h0 | hp
    · obtain rfl : l = [] := List.eq_nil_of_length_eq_zero h0
      exact ⟨[], Reps.none _ _, fun b _ j u h => by simp at h⟩
    · obtain ⟨ad, rfl, _⟩ := hC.2.2 hp
      obtain ⟨inner, hr, hc⟩ := ReadsRow.inner_ hC
      exact ⟨inner, hr, fun b hb => by cases hb; exact hc⟩
  have hW : Below w0.heap.size w0 (w.alloc (.cells cs.toArray e)) := below_alloc hB _
  have hcl : cs.length = d.sz := d.K_len hp
  refine wpList_append_grows (w.alloc (.cells cs.toArray e)) hg2 s x t ho2 e i0 z d.sz bytes hu hi hz0 hz1 hz2 hz h0k A l.length l.length inner (hs _) (fun h0 => ?_) hr.1 (fun b hb j u hj => ?_) ⟨w.heap.size, 0, none⟩ 1 1 cs (hx _) (by rw [hcl]; omega) (fun j u hj => ?_) (d.K_one hp) (by omega) hm hb (fun v' w' hown hgr => ?_)
  · have : l.length = 0 := by
      rcases Nat.eq_zero_or_pos l.length with h1 | h1
      · exact h1
      · obtain ⟨ad, q, _⟩ := hC.2.2 h1; rw [h0] at q; cases q
    omega
  · have := hc b hb j u hj
    rw [World.cell?_alloc_lt _ _ _ (World.block_lt_of_cell? _ _ this)]
    exact this
  · rw [add_plain]
    have hn : (w.alloc (.cells cs.toArray e)).heap[w.heap.size]? = some (.cells cs.toArray e (0, 0)) := blk_new _ _
    rw [cell_of_row _ _ _ _ _ _ hn]
    simpa using hj
  · refine h _ v' w' ⟨fun _ _ => trivial, inner ++ cs, by rw [List.length_append]; exact own_weaken hown (by have := hW.size; exact this), ?_⟩ (below_step hW ⟨hgr.os, hgr.tape, hgr.output, hgr.size, fun k hk => hgr.block k hk (by simp)⟩)
    exact (reps_append hr (Reps.one h0k hp hcl)).imp_ fun x cs h => hKM _ _ _ _ x cs h
end
end Go.Proofs.Ytmpnnppgppoliaa.AppKd
