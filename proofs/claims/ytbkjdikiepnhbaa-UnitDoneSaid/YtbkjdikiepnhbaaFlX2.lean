/- Flights whose cells stay one list, rows of them, and variables that hold one: the walk's laws. The conditions are those that each theorem names. -/
import Derived.Test.YtbkjdikiepnhbaaFlX1
import Derived.Test.YtbkjdikiepnhbaaAppKd
import Derived.Test.YtbkjdikiepnhbaaBoxes4
import Derived.Great.FillDense
namespace Go.Proofs.Ytbkjdikiepnhbaa.Fl
open Go Go.Proofs Go.RowKit Go.Proofs.YtbkjdikiepnhbaaW.PrintWords Go.Proofs.YtbkjdikiepnhbaaW.PrintLast Go.Proofs.YtbkjdikiepnhbaaW.PrintMore Go.Proofs.Ytbkjdikiepnhbaa.Boxes
set_option linter.unusedVariables false
set_option linter.unusedSimpArgs false
/-- The cells of a flight. -/
def cs44 (x : S44) : List Value := [.int .i64 x.f0.f0.f0.f0, .int .i64 x.f0.f0.f0.f1, .int .i64 x.f0.f0.f0.f2, .int .i64 x.f0.f0.f0.f3, .int .i64 x.f0.f0.f0.f4, .int .u32 x.f0.f0.f1.f0, .int .u32 x.f0.f0.f1.f1, .int .i64 x.f0.f0.f1.f2, .int .u32 x.f0.f0.f1.f3, .bool x.f0.f0.f1.f4.f0, .int .u32 x.f0.f0.f1.f4.f1, .int .u32 x.f0.f0.f1.f4.f2.f0, .int .i64 x.f0.f0.f1.f4.f2.f1, .int .u32 x.f0.f0.f1.f4.f2.f2, .int .i64 x.f0.f0.f2, .int .i64 x.f0.f0.f3, .bool x.f0.f0.f4, .int .i64 x.f0.f0.f5.f0, .int .i64 x.f0.f0.f5.f1, .int .i64 x.f0.f0.f5.f2, .int .i64 x.f0.f0.f6, .int .i64 x.f0.f0.f7, .int .u32 x.f0.f0.f8, .int .u64 x.f0.f1, .int .i64 x.f0.f2.f0, .int .i64 x.f0.f2.f1, .int .i64 x.f0.f2.f2, .int .i64 x.f0.f3, .int .i64 x.f0.f4, .int .i64 x.f1, .int .i64 x.f2, .int .u32 x.f3, .int .u32 x.f4, .int .i64 x.f5, .int .u32 x.f6]
theorem cs_len (x : S44) : (cs44 x).length = 35 := rfl
theorem cs_size (x : S44) : (cs44 x).toArray.size = 35 := rfl
theorem cs_one (x : S44) : ∀ u ∈ cs44 x, u.oneCell' = true := fun u hu => k44.K_one (w := default) (k44_mk _ x) u hu
theorem cs_all (x : S44) : (cs44 x).toArray.all (·.oneCell') = true := Array.all_eq_true_iff_forall_mem.2 (fun v hv => cs_one x v (by simpa using hv))
theorem cs_seq (x : S44) : (cs44 x)[23]? = some (.int .u64 x.f0.f1) := rfl
theorem cs_unit (x : S44) : (cs44 x)[29]? = some (.int .i64 x.f1) := rfl
theorem cs_left (x : S44) : (cs44 x)[30]? = some (.int .i64 x.f2) := rfl
theorem cs_set (x : S44) (v : Int) : (cs44 x).set 30 (.int .i64 v) = cs44 {x with f2 := v} := rfl
theorem cs_aset (x : S44) (v : Int) : (cs44 x).toArray.setIfInBounds 30 (.int .i64 v) = (cs44 {x with f2 := v}).toArray := rfl
theorem k44_cs {w : World} {x : S44} {cs : List Value} (h : k44.K w x cs) : cs = cs44 x := k44_open h
theorem cs_k44 (w : World) (x : S44) : k44.K w x (cs44 x) := k44_mk w x
theorem cs_m44 (w : World) (base : Nat) (ok : Nat → Prop) (x : S44) : k44.M w base ok x (cs44 x) := k44_mkM w base ok x
theorem k44_KM : ∀ (w w1 : World) (base : Nat) (ok : Nat → Prop) (x : S44) (cs : List Value), k44.K w x cs → k44.M w1 base ok x cs := fun _ _ _ _ _ _ h => by rw [k44_open h]; exact k44_mkM _ _ _ _
def zs44 : Array Value := #[(.int .i64 0), (.int .i64 0), (.int .i64 0), (.int .i64 0), (.int .i64 0), (.int .u32 0), (.int .u32 0), (.int .i64 0), (.int .u32 0), (.bool false), (.int .u32 0), (.int .u32 0), (.int .i64 0), (.int .u32 0), (.int .i64 0), (.int .i64 0), (.bool false), (.int .i64 0), (.int .i64 0), (.int .i64 0), (.int .i64 0), (.int .i64 0), (.int .u32 0), (.int .u64 0), (.int .i64 0), (.int .i64 0), (.int .i64 0), (.int .i64 0), (.int .i64 0), (.int .i64 0), (.int .i64 0), (.int .u32 0), (.int .u32 0), (.int .i64 0), (.int .u32 0)]
theorem zs_is : zs44 = (cs44 z44).toArray := rfl
/-- The element i of a row: all its cells; those of the Seq, of the unit and of what is left. -/
def Elt (w : World) (ad : Addr) (x : S44) : Prop := ∀ j v, (cs44 x)[j]? = some v → w.cell? (ad.add j) = some v
theorem row44 {w : World} {A : Option Addr} {n : Nat} {xs : List S44} (h : Kd.C k44 w A n xs) (i : Int) (h0 : 0 ≤ i) (h1 : i < n) : ∃ ad, A = some ad ∧ Elt w (ad.add (i.toNat * 35)) (rd_T44 xs i) ∧
    w.cell? ⟨(ad.add (i.toNat * 35)).block, (ad.add (i.toNat * 35)).off + 23, none⟩ = some (.int .u64 (rd_T44 xs i).f0.f1) ∧ w.cell? ⟨(ad.add (i.toNat * 35)).block, (ad.add (i.toNat * 35)).off + 29, none⟩ = some (.int .i64 (rd_T44 xs i).f1) ∧ w.cell? ⟨(ad.add (i.toNat * 35)).block, (ad.add (i.toNat * 35)).off + 30, none⟩ = some (.int .i64 (rd_T44 xs i).f2) := by
  obtain ⟨ad, c, e, _, hK, hc0⟩ := Kd.C_get h z44 i h0 h1
  have hc : ∀ j u, c[j]? = some u → w.cell? (ad.add (i.toNat * 35 + j)) = some u := hc0
  obtain rfl := k44_cs hK
  have hf : ∀ j, 0 < j → ∀ u, (cs44 (rd_T44 xs i))[j]? = some u → w.cell? ⟨(ad.add (i.toNat * 35)).block, (ad.add (i.toNat * 35)).off + j, none⟩ = some u := fun j hj u hu => by rw [← add_field _ _ j hj]; exact hc j u hu
  refine ⟨ad, e, fun j v hv => ?_, hf 23 (by decide) _ rfl, hf 29 (by decide) _ rfl, hf 30 (by decide) _ rfl⟩
  rcases Nat.eq_zero_or_pos j with rfl | hj
  · exact hc 0 v hv
  · have := hf j hj v hv
    rw [show (ad.add (i.toNat * 35)).add j = ⟨(ad.add (i.toNat * 35)).block, (ad.add (i.toNat * 35)).off + j, none⟩ by rw [Addr.add, if_neg (by omega)]]
    exact this
theorem Elt.below {w W : World} {ad : Addr} {x : S44} (h : Elt w ad x) (hb : Below w.heap.size w W) : Elt W ad x := fun j v hv => (hb.cell (World.block_lt_of_cell? w _ (h j v hv))).trans (h j v hv)
section
variable {P : Program} {ops : Array Oper} {rest : List Oper} {op o1 o2 o3 : Oper} {a : Act} {w : World} {Q : Exit → Act → World → Prop}
theorem run_load_elt (P : Program) (w : World) (ty : TypeId) (ad : Addr) (x : S44) (d : TypeDesc) (hc : Elt w ad x) (hu : P.underlying ty = some d) (hd : d.isRow = true) (hi : (P.info? ty).map (·.size) = some 35) :
    (loadVar ty ad).run P w = .ok (.agg (cs44 x).toArray) w := by
  have hl : (loadCells ad 35).run P w = .ok (cs44 x).toArray w := run_loadCells_list (P := P) w ad (cs44 x) hc
  cases hq : P.info? ty with
  | none => simp [hq] at hi
  | some i =>
    have hs : i.size = 35 := by simpa [hq] using hi
    have hagg : (isAgg ty).run P w = .ok true w := by
      unfold isAgg
      rw [Sem.run_bind, run_underlying hu w]
      cases d <;> simp_all
    simp [loadVar, Sem.run_bind, hagg, sizeOf, typeInfo, hq, hs, hl]
/-- An element of a row is read whole. -/
theorem ld_elt (hgd : op.guard = none) (ty : TypeId) (y : Operand) (ho : op.op = .load ty y) (ad : Addr) (hx : a.eval y = .pointer (some ad)) (x : S44) (d : TypeDesc) (hc : Elt w ad x) (hu : P.underlying ty = some d) (hd : d.isRow = true) (hi : (P.info? ty).map (·.size) = some 35)
    (h : wpList P ops Q rest (a.put op.dst (.agg (cs44 x).toArray)) w) : wpList P ops Q (op :: rest) a w :=
  wpList_plain hgd fun _ hK => by
    unfold Oper.wp execOp
    simp only [ho, hx, Instr.loadAt, Instr.sureAddr, Sem.run_bind, Sem.run_pure, Result.andThen_ok, run_load_elt P w ty ad x d hc hu hd hi]
    exact hK _ _ h
theorem fill35 (z : Value) (x : S44) : Instr.fill (fun i => some (i * 35, 35)) ((Array.range (1 * 35)).map (z.cells[· % z.cells.size]!)) [(0, .agg (cs44 x).toArray)] = some (cs44 x).toArray := by
  have := Go.Great.fill_whole (s := 35) (by decide) [Value.agg (cs44 x).toArray] ((Array.range (1 * 35)).map (z.cells[· % z.cells.size]!)) (fun v hv => by rw [List.mem_singleton.1 hv]; rfl) (by simp)
  simpa [Value.cells] using this
/-- append(out, x): the element's own row, and the row of the call's own that grows. -/
theorem app44 (hg1 : o1.guard = none) (hg2 : o2.guard = none) (y s x : Operand) (t e : TypeId) (ho1 : o1.op = .buildSlice t 1 #[(0, y)]) (ho2 : o2.op = .call { callee := .builtin .append, args := #[s, x], argTypes := #[t, t] })
    (bytes : Nat) (z : Value) (hu : P.underlying t = some (.slice e)) (hinfo : (P.info? e).map (fun i => (i.zero, i.size, i.bytes)) = some (some z, 35, bytes)) (hz : z.cells.size = 35) (hb0 : 0 < bytes)
    {w0 : World} {base : Nat} {v : Value} {xs : List S44} {p : S44} (hy : a.eval y = .agg (cs44 p).toArray) (hs : ∀ u, (a.put o1.dst u).eval s = v) (hx : ∀ u, (a.put o1.dst u).eval x = u)
    (HO : k44.R e w base (fun _ => True) v xs) (HB : Below base w0 w) (hbase : base ≤ w.heap.size) (hl : (xs.length + 1) * bytes ≤ 140737488355328)
    (h : ∀ u v' w', k44.R e w' base (fun _ => True) v' (xs ++ [p]) → Below base w0 w' → w.grownBy w' v.ownBlock → wpList P ops Q rest ((a.put o1.dst u).put o2.dst v') w') : wpList P ops Q (o1 :: o2 :: rest) a w := by
  obtain ⟨i0, hi, hzz⟩ := Option.map_eq_some_iff.1 hinfo
  simp only [Prod.mk.injEq] at hzz
  obtain ⟨hz0, hz1, hz2⟩ := hzz
  refine wpList_buildSlice hg1 t e 1 _ ho1 (cs44 p).toArray i0 z hu hi hz0 (by rw [hz1]; decide) (by rw [hz1]; decide) ?_ ?_
  · rw [hz1]
    simpa [hy] using fill35 z p
  refine Kd.R_append k44 (w0 := w0) base hg2 s x t e z bytes ho2 hu hinfo hz (by decide) hb0 v xs p (cs44 p) (fun _ => True) (fun _ => False) (hs _) (hx _) (cs_m44 _ _ _ p) (fun _ hk => hk.elim) (fun _ _ => trivial) HO HB hbase hl ?_
  intro v1 w1 hR hB hg _
  exact h _ v1 w1 hR hB hg
/-- A variable that holds a flight: made, and filled at once. -/
theorem box_fill (hg1 : o1.guard = none) (hg2 : o2.guard = none) {N : Tmp} (hd : o1.dst = some N) (hd2 : o2.dst = none) (y z : Operand) (ho2 : o2.op = .store 44 y z) (hi : (P.info? 44).map (·.size) = some 35)
    (hrun : (execOp a.eval o1).run P w = .ok (.value (.pointer (some ⟨w.heap.size, 0, none⟩))) (w.alloc (.cells zs44 44 (0, 0)))) (x : S44)
    (hy : ∀ u, (a.put (some N) u).eval y = u) (hz : ∀ u, (a.put (some N) u).eval z = .agg (cs44 x).toArray)
    (h : ∀ g, g = w.heap.size → ∀ w1, w1.heap[g]? = some (.cells (cs44 x).toArray 44 (0, 0)) → Below w.heap.size w w1 → wpList P ops Q rest (a.put (some N) (.pointer (some ⟨g, 0, none⟩))) w1) : wpList P ops Q (o1 :: o2 :: rest) a w := by
  refine box_event hg1 hd hrun fun g hg w1 hbox hb => ?_
  rw [hd]
  refine wpList_store_row hg2 44 y z ho2 g (cs44 x).toArray (hy _) (hz _) 44 zs44 hbox hi rfl (cs_all x) ?_
  rw [hd2]
  refine h g hg _ ?_ ⟨hb.os, hb.tape, hb.output, by simpa using hb.size, fun k hk => (heap_setRow_far w1 g _ k (by omega)).trans (hb.block k hk)⟩
  simp [World.setRow, Array.getElem?_modify, hbox]
end
/-- Since w only one block (one of the call's own) has been written. -/
structure Moved (w w1 : World) (g : Nat) : Prop where
  os : w1.os = w.os
  tape : w1.tape = w.tape
  output : w1.output = w.output
  size : w1.heap.size = w.heap.size
  block : ∀ k, k ≠ g → w1.heap[k]? = w.heap[k]?
theorem Moved.below {w0 w w1 : World} {g base : Nat} (h : Moved w w1 g) (hb : Below base w0 w) (hg : base ≤ g) : Below base w0 w1 :=
  ⟨h.os.trans hb.os, h.tape.trans hb.tape, h.output.trans hb.output, by rw [h.size]; exact hb.size, fun k hk => (h.block k (by omega)).trans (hb.block k hk)⟩
theorem Moved.R {w w1 : World} {g base : Nat} {e : Nat} {v : Value} {xs : List S44} (h : Moved w w1 g) (hR : Kd.R k44 e w base (fun k => k ≠ g) v xs) : Kd.R k44 e w1 base (fun k => k ≠ g) v xs := Kd.R_move hR fun k hk => h.block k hk
theorem moved_set (w : World) (g j : Nat) (u : Value) : Moved w (w.setCell ⟨g, j, none⟩ u) g := ⟨rfl, rfl, rfl, by simp [World.setCell], fun k hk => heap_setCell_other w ⟨g, j, none⟩ k u hk⟩
theorem st_left {w w1 : World} {g : Nat} {x : S44} {v : Int} (hbox : w.heap[g]? = some (.cells (cs44 x).toArray 44 (0, 0))) (hw : w1 = w.setCell ⟨g, 30, none⟩ (.int .i64 v)) :
    Moved w w1 g ∧ w1.heap[g]? = some (.cells (cs44 {x with f2 := v}).toArray 44 (0, 0)) ∧ w1.cell? ⟨g, 30, none⟩ = some (.int .i64 v) ∧ w1.frozen? ⟨g, 30, none⟩ = false := by
  subst hw
  have h : (w.setCell ⟨g, 30, none⟩ (.int .i64 v)).heap[g]? = some (.cells (cs44 {x with f2 := v}).toArray 44 (0, 0)) := by rw [← cs_aset]; exact blk_set hbox 30 _
  exact ⟨moved_set _ _ _ _, h, (blk_cell h 30).trans rfl, blk_frozen h 30⟩
end Go.Proofs.Ytbkjdikiepnhbaa.Fl
