/- copy(dst, src) as a law of the walk, for elements of several cells: dst a row of the call's own, src a row that is read, of one length. The conditions are those that each theorem names. -/
import Derived.Laws.CopyOwn
import Derived.Test.YtgacdbaegjnlfaaWMore
namespace Go.Proofs.Ytgacdbaegjnlfaa.CopyKd
set_option linter.unusedVariables false
open Go Go.RowKit Go.Proofs.YtgacdbaegjnlfaaW.PrintWords Go.Proofs.YtgacdbaegjnlfaaW.PrintLast Go.Proofs.YtgacdbaegjnlfaaW.PrintMore
theorem run_copy_rowN {P : Program} (w : World) (dT sT ty elem : TypeId) (g dLen dCap : Nat) (a : Addr) (sLen sCap k : Nat) (cur : Array Value) (t : TypeId) (cs : List Value)
    (hu : P.underlying dT = some (.slice elem)) (hs : (P.info? elem).map (·.size) = some k)
    (hg : w.heap[g]? = some (.cells cur t (0, 0))) (hn : cs.length = Nat.min sLen dLen * k)
    (hsrc : ∀ j v, cs[j]? = some v → w.cell? (a.add j) = some v) (hfit : cs.length ≤ cur.size) (h1 : ∀ v ∈ cs, v.oneCell' = true) :
    (Builtin.copy_ #[dT, sT] ty #[.slice (some ⟨g, 0, none⟩) dLen dCap, .slice (some a) sLen sCap]).run P w =
      .ok (goInt (Nat.min sLen dLen)) (w.setRow g (cs ++ cur.toList.drop cs.length).toArray) := by
  have hl := run_loadCells_list (P := P) w a cs hsrc
  have hst := run_storeCells_at P g 0 t cs 0 cur w hg (by simpa using hfit) h1
  cases hq : P.info? elem with
  | none => simp [hq] at hs
  | some i =>
    have hi : i.size = k := by simpa [hq] using hs
    simp [Builtin.copy_, run_underlying hu, Builtin.lenOf, Builtin.firstCells, sizeOf, typeInfo, hq, hi, ← hn, hl, hst]
theorem run_copy_noneN {P : Program} (w : World) (dT sT ty elem : TypeId) (d a : Option Addr) (dLen dCap sLen sCap k : Nat) (hu : P.underlying dT = some (.slice elem)) (hs : (P.info? elem).map (·.size) = some k) (hn : Nat.min sLen dLen = 0) :
    (Builtin.copy_ #[dT, sT] ty #[.slice d dLen dCap, .slice a sLen sCap]).run P w = .ok (goInt 0) w := by
  cases hq : P.info? elem with
  | none => simp [hq] at hs
  | some i =>
    have hl : ∀ (x : Addr), (loadCells x 0).run P w = .ok #[] w := fun x => by simpa using run_loadCells_list (P := P) w x [] (by simp)
    cases d <;> cases a <;> simp [Builtin.copy_, run_underlying hu, Builtin.lenOf, Builtin.firstCells, sizeOf, typeInfo, hq, hn, storeCells, hl]
/-- What copy leaves behind it, as the row dst. -/
theorem copied {α : Type} {d : Kd α} {P : Program} (h0k : 0 < d.sz) (dT sT ty elem : TypeId) (hu : P.underlying dT = some (.slice elem)) (hsz : (P.info? elem).map (·.size) = some d.sz) {e : Nat} {w w0 : World} {v : Value} {A1 : Option Addr} {c1 : Nat} {l0 l1 : List α} {P0 : Nat → Prop}
    (hl : l0.length = l1.length) (hB : Below w0.heap.size w0 w) (hR : d.R e w w0.heap.size P0 v l0) (hC : d.C w A1 l1.length l1) (hKM : ∀ w w1 base ok x cs, d.K w x cs → d.M w1 base ok x cs) :
    ∃ w', (Builtin.copy_ #[dT, sT] ty #[v, .slice A1 l1.length c1]).run P w = .ok (goInt l1.length) w' ∧ d.R e w' w0.heap.size (fun k => P0 k ∨ w.heap.size ≤ k) v l1 ∧ Below w0.heap.size w0 w' ∧ Kept w w' P0 := by
  rcases Nat.eq_zero_or_pos l1.length with h0 | hp
  · obtain rfl : l1 = [] := List.eq_nil_of_length_eq_zero h0
    obtain rfl : l0 = [] := List.eq_nil_of_length_eq_zero hl
    obtain ⟨A, c, rfl, _⟩ := Kd.R_reads hR
    exact ⟨w, run_copy_noneN w dT sT ty elem A A1 0 c 0 c1 d.sz hu hsz rfl, Kd.R_mono hR (fun _ h => .inl h), hB, Kept.refl _ _⟩
  · obtain ⟨ad, rfl, _⟩ := hC.2.2 hp
    obtain ⟨inner, hr, hc⟩ := ReadsRow.inner_ hC
    obtain ⟨hok, inner0, ⟨ho1, ho2⟩, hr0⟩ := hR
    rcases ho2 with ⟨rfl, h0⟩ | ⟨g, cap, cur, rfl, hbg, hh, hnc, hcm, hcs, ht⟩
    · omega
    · have hin : inner.length = l1.length * d.sz := hr.1
      have hfit : inner.length ≤ cur.size := by
        rw [hcs, hin, ← hl]
        exact Nat.mul_le_mul_right _ hnc
      have h1 : ∀ u ∈ inner, u.oneCell' = true := by
        intro u hu'
        obtain ⟨j, hj⟩ := List.getElem?_of_mem hu'
        have hjl : j < inner.length := (List.getElem?_eq_some_iff.1 hj).1
        have hq : j / d.sz < l1.length := Nat.div_lt_of_lt_mul (by rw [Nat.mul_comm, ← hin]; exact hjl)
        refine d.K_one (hr.2 (j / d.sz) _ (List.getElem?_eq_getElem hq)) u (List.mem_of_getElem? (i := j % d.sz) ?_)
        rw [List.getElem?_take, if_pos (Nat.mod_lt _ h0k), List.getElem?_drop, ← hj]
        congr 1
        rw [Nat.mul_comm]
        exact Nat.div_add_mod _ _
      have hmin : Nat.min l1.length l0.length = l1.length := by rw [hl]; exact Nat.min_self _
      have hrun := run_copy_rowN (P := P) w dT sT ty elem g l0.length cap ad l1.length c1 d.sz cur e inner hu hsz hh (by rw [hin, hmin]) hc hfit h1
      rw [hmin] at hrun
      refine ⟨_, hrun, ?_, below_setRow hB hbg _, ⟨by simp [World.setRow], fun i hi hn => setRow_other w g i _ (fun e => hn (by rw [e]; exact hok g (by simp [Value.ownBlock])))⟩⟩
      have hh' := setRow_heap w g cur (inner ++ cur.toList.drop inner.length).toArray e (0, 0) hh
      refine ⟨fun k hk => .inl (hok k hk), inner, ⟨hin, .inr ⟨g, cap, _, by rw [hl], hbg, hh', by omega, hcm, ?_, ?_⟩⟩, hr.imp_ (fun x cs h => hKM _ _ _ _ x cs h)⟩
      · show (inner ++ cur.toList.drop inner.length).length = _
        rw [List.length_append, List.length_drop, Array.length_toList (xs := cur), ← hcs]
        omega
      · show (inner ++ cur.toList.drop inner.length).take (l1.length * d.sz) = inner
        rw [← hin, List.take_append_of_le_length (Nat.le_refl _), List.take_length]
theorem wpList_copy_kd {α : Type} {d : Kd α} {P : Program} {ops : Array Oper} {rest : List Oper} {o : Oper} {a : Act} {Q : Exit → Act → World → Prop} (hgd : o.guard = none) (x y : Operand) (dT sT : TypeId)
    (ho : o.op = .call { callee := .builtin .copy, args := #[x, y], argTypes := #[dT, sT] }) (elem : TypeId) (hu : P.underlying dT = some (.slice elem)) (hsz : (P.info? elem).map (·.size) = some d.sz) (h0k : 0 < d.sz) (hKM : ∀ w w1 base ok x cs, d.K w x cs → d.M w1 base ok x cs)
    {e : Nat} {w w0 : World} {v : Value} {A1 : Option Addr} {c1 : Nat} {l0 l1 : List α} {P0 : Nat → Prop} (hd : a.eval x = v) (hs : a.eval y = .slice A1 l1.length c1) (hl : l0.length = l1.length) (hB : Below w0.heap.size w0 w) (hR : d.R e w w0.heap.size P0 v l0) (hC : d.C w A1 l1.length l1)
    (h : ∀ w', d.R e w' w0.heap.size (fun k => P0 k ∨ w.heap.size ≤ k) v l1 → Below w0.heap.size w0 w' → Kept w w' P0 → wpList P ops Q rest (a.put o.dst (goInt l1.length)) w') : wpList P ops Q (o :: rest) a w := by
  obtain ⟨w', hrun, h1, h2, h3⟩ := copied (P := P) (c1 := c1) h0k dT sT o.type elem hu hsz hl hB hR hC hKM
  refine wpList_plain hgd fun K hK => ?_
  unfold Oper.wp
  simp [execOp, ho, resolve, invoke, builtin, hd, hs, hrun, Result.andThen]
  exact hK _ _ (h w' h1 h2 h3)
end Go.Proofs.Ytgacdbaegjnlfaa.CopyKd
