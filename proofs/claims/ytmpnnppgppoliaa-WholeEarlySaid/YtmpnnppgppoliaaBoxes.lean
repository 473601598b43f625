/- Variables of a call's own that lie in memory (boxes): what each holds, and what becomes of them. Plain lemmas, no condition. -/
import Derived.Test.YtmpnnppgppoliaaWMore
import Derived.Deep.MidRow
import Derived.Deep.QuietTactic
import Derived.BigQuiet
namespace Go.Proofs.Ytmpnnppgppoliaa.Boxes
open Go Go.Proofs Go.RowKit Go.Proofs.YtmpnnppgppoliaaW.PrintWords
structure Bx where
  g : Nat
  cs : Array Value
  t : TypeId
/-- Since w nothing that was there has changed, and the boxes hold this. -/
structure St (w W : World) (L : List Bx) : Prop where
  below : Below w.heap.size w W
  ge : ∀ b ∈ L, w.heap.size ≤ b.g
  heap : ∀ b ∈ L, W.heap[b.g]? = some (.cells b.cs b.t (0, 0))
  dist : L.Pairwise fun a b => a.g ≠ b.g
section
variable {w W w1 : World} {L L1 L2 : List Bx} {b : Bx}
theorem St.start (w : World) : St w w [] := ⟨Below.refl _ _, fun _ h => by simp at h, fun _ h => by simp at h, List.Pairwise.nil⟩
theorem St.call (h : St w W L) (hb : Below W.heap.size W w1) : St w w1 L := ⟨below_step h.below hb, h.ge, fun b hm => blk_below (h.heap b hm) hb, h.dist⟩
theorem St.drawn (h : St w W L) (hb : Drawn0 W w1) : St w w1 L := by obtain ⟨m, rfl⟩ := hb; exact h.call (pw_below_drewN (Below.refl _ _) m)
theorem St.drewN (h : St w W L) (m : Nat) : St w (W.drewN m) L := h.call (pw_below_drewN (Below.refl _ _) m)
theorem St.drew (h : St w W L) : St w W.drew L := h.call (below_drew (Below.refl _ _))
theorem St.alloc (h : St w W L) (o : Obj) : St w (W.alloc o) L := h.call (below_alloc (Below.refl _ _) o)
theorem St.box {g : Nat} {cs : Array Value} {t : TypeId} (h : St w W L) (hg : g = W.heap.size) (hbox : w1.heap[g]? = some (.cells cs t (0, 0))) (hb : Below W.heap.size W w1) : St w w1 (⟨g, cs, t⟩ :: L) := by
  refine ⟨below_step h.below hb, fun b hm => ?_, fun b hm => ?_, List.Pairwise.cons (fun b hm => ?_) h.dist⟩
  · rcases List.mem_cons.1 hm with rfl | hm
    · exact hg ▸ h.below.size
    · exact h.ge b hm
  · rcases List.mem_cons.1 hm with rfl | hm
    · exact hbox
    · exact blk_below (h.heap b hm) hb
  · have := blk_lt (h.heap b hm)
    show g ≠ b.g
    omega
theorem St.to (h : St w W (L1 ++ b :: L2)) {cs : Array Value} (hb : Below w.heap.size w w1) (h1 : w1.heap[b.g]? = some (.cells cs b.t (0, 0))) (h2 : ∀ k, k ≠ b.g → w1.heap[k]? = W.heap[k]?) : St w w1 (L1 ++ ⟨b.g, cs, b.t⟩ :: L2) := by
  have hd := List.pairwise_append.1 h.dist
  refine ⟨hb, fun c hm => ?_, fun c hm => ?_, ?_⟩
  · rcases List.mem_append.1 hm with hm | hm
    · exact h.ge c (by simp [hm])
    · rcases List.mem_cons.1 hm with rfl | hm
      · exact h.ge b (by simp)
      · exact h.ge c (by simp [hm])
  · rcases List.mem_append.1 hm with hm | hm
    · exact (h2 _ (hd.2.2 c hm b (by simp))).trans (h.heap c (by simp [hm]))
    · rcases List.mem_cons.1 hm with rfl | hm
      · exact h1
      · exact (h2 _ ((List.rel_of_pairwise_cons hd.2.1 hm).symm)).trans (h.heap c (by simp [hm]))
  · refine List.pairwise_append.2 ⟨hd.1, ?_, fun c hc d hm => ?_⟩
    · have := List.pairwise_cons.1 hd.2.1
      exact List.pairwise_cons.2 ⟨fun d hm => this.1 d hm, this.2⟩
    · rcases List.mem_cons.1 hm with rfl | hm
      · exact hd.2.2 c hc b (by simp)
      · exact hd.2.2 c hc d (by simp [hm])
theorem St.set (h : St w W (L1 ++ b :: L2)) (j : Nat) (u : Value) : St w (W.setCell ⟨b.g, j, none⟩ u) (L1 ++ ⟨b.g, b.cs.setIfInBounds j u, b.t⟩ :: L2) :=
  h.to (below_set h.below (h.ge b (by simp))) (blk_set (h.heap b (by simp)) j u) (fun k hk => heap_setCell_other W ⟨b.g, j, none⟩ k u hk)
theorem heap_setRow_far (W : World) (g : Nat) (cs : Array Value) (k : Nat) (h : k ≠ g) : (W.setRow g cs).heap[k]? = W.heap[k]? := by
  simp only [World.setRow, Array.getElem?_modify]
  rw [if_neg (fun e => h e.symm)]
theorem St.row (h : St w W (L1 ++ b :: L2)) (cs : Array Value) : St w (W.setRow b.g cs) (L1 ++ ⟨b.g, cs, b.t⟩ :: L2) := by
  refine h.to ⟨h.below.os, h.below.tape, h.below.output, by simpa using h.below.size, fun k hk => ?_⟩ ?_ (fun k hk => heap_setRow_far W b.g cs k hk)
  · exact (heap_setRow_far W b.g cs k (by have := h.ge b (by simp); omega)).trans (h.below.block k hk)
  · have := h.heap b (by simp)
    simp [World.setRow, Array.getElem?_modify, this]
theorem St.cell (h : St w W L) (hm : b ∈ L) {j : Nat} {v : Value} (hv : b.cs[j]? = some v) : W.cell? ⟨b.g, j, none⟩ = some v := (blk_cell (h.heap b hm) j).trans hv
theorem St.range (h : St w W L) (hm : b ∈ L) {l : List Value} (hl : b.cs = l.toArray) : W.rangeAt b.g 0 l := fun j v hv => by
  rw [Nat.zero_add]
  exact h.cell hm (by rw [hl, List.getElem?_toArray]; exact hv)
theorem St.frozen (h : St w W L) (hm : b ∈ L) (j : Nat) : W.frozen? ⟨b.g, j, none⟩ = false := blk_frozen (h.heap b hm) j
end
/-! ### A region that draws its order, and whose operations and callees leave the boxes as they are: one walk serves every order -/
section
variable {P : Program} {w W : World} {L : List Bx} {ops : Array Oper} {C : World → Prop} {a : Act} {o : Oper}
/-- The worlds in which the boxes hold this. -/
structure Cls (w : World) (L : List Bx) where
  W : World
  st : St w W L
theorem wp_region_st {id : Nat} {Q : Exit → Act → World → Prop} {l : List Oper} (S : St w W L) (hm : P.follows .mixedOrders = true) (hB : Region.lexB .any l.toArray = true)
    (h : wpQuiet P l.toArray (fun W' => ∃ x : Cls w L, W' = x.W) (fun a' => ∀ x : Cls w L, Q .normal a' x.W) l a) : (Code.region id l.toArray true).wp P Q a W := by
  refine wp_region_quiet (C := fun W' => ∃ x : Cls w L, W' = x.W) hm hB ⟨⟨_, S.drew⟩, rfl⟩ ?_
  have : (fun a' => ∀ w', (∃ x : Cls w L, w' = x.W) → Q .normal a' w') = fun a' => ∀ x : Cls w L, Q .normal a' x.W := by
    funext a'
    apply propext
    exact ⟨fun h x => h _ ⟨x, rfl⟩, fun h w' ⟨x, e⟩ => e ▸ h x⟩
  rw [this]
  simpa using h
theorem quiet_st {f : FuncId} {args : Array Value} {v : Value} {x : Cls w L} (h : Calls P f args x.W fun e w' => e = .returned v ∧ Below x.W.heap.size x.W w') :
    Calls P f args x.W fun e w'' => e = .returned v ∧ ∃ x' : Cls w L, w'' = x'.W := h.mono fun _ _ ⟨he, hb⟩ => ⟨he, ⟨_, x.st.call hb⟩, rfl⟩
theorem quiet_load {K : Act → Prop} (ty : TypeId) (x : Operand) (ho : o.op = .load ty x) (g : Nat) (hx : a.eval x = .pointer (some ⟨g, 0, none⟩)) (t : TypeId) (cs : Array Value) (d : TypeDesc)
    (hg : ∀ x : Cls w L, x.W.heap[g]? = some (.cells cs t (0, 0))) (hu : P.underlying ty = some d) (hd : (match d with | .struct _ | .array _ _ => true | _ => false) = true) (hi : (P.info? ty).map (·.size) = some cs.size)
    (h : K (a.put o.dst (.agg cs))) : o.quiet P a (fun W' => ∃ x : Cls w L, W' = x.W) K := by
  refine ⟨_, fun V hV => ?_, h⟩
  obtain ⟨x0, rfl⟩ := hV
  unfold Oper.quietAt execOp
  simp only [ho, hx, Instr.loadAt, Instr.sureAddr, Sem.run_bind, Sem.run_pure, Result.andThen_ok, run_loadVar_row x0.W g t ty cs (0, 0) d (hg x0) hu hd hi]
  exact ⟨rfl, rfl⟩
end
end Go.Proofs.Ytmpnnppgppoliaa.Boxes
