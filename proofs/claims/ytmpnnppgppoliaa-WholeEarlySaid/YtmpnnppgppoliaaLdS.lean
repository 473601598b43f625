/- The plain law of what is under way: the queues and memory against the memory that all stores left. Plain lemmas, no program. The conditions are those that each names. -/
import Derived.Test.YtmpnnppgppoliaaLdP
namespace Go.Proofs.Ytmpnnppgppoliaa.Ld
set_option linter.unusedVariables false
set_option linter.unusedSimpArgs false
open Go Go.Proofs Go.RowKit Go.Proofs.YtmpnnppgppoliaaW.PrintWords Go.Proofs.YtmpnnppgppoliaaW.PrintMore Go.Proofs.Ytmpnnppgppoliaa.Plain Go.Proofs.Ytmpnnppgppoliaa.PFwd
def all2 (q : List S37) (b : List S48) : List SX := b.map ofSb ++ q.map ofSq
structure InvS (x : Int) (flat m : List Int) (q : List S37) (b : List S48) : Prop where
  lf : flat.length = 64
  lm : m.length = 64
  lq : q.length ≤ 16
  lb : b.length ≤ 8
  hq : ∀ e ∈ q, Okm 64 e.f1 e.f3 ∧ U e.f2 ∧ e.f4 = true ∧ e.f0 ≤ x
  hb : ∀ e ∈ b, Okm 64 e.f0 e.f2 ∧ U e.f1
  hf : flat = replS m (all2 q b)
theorem InvS.px {x : Int} {flat m : List Int} {q : List S37} {b : List S48} (h : InvS x flat m q b) : ∀ y ∈ all2 q b, PX y := by
  intro y hy
  rcases List.mem_append.1 hy with h1 | h1
  · obtain ⟨e, he, rfl⟩ := List.mem_map.1 h1
    exact h.hb e he
  · obtain ⟨e, he, rfl⟩ := List.mem_map.1 h1
    exact ⟨(h.hq e he).1, (h.hq e he).2.1⟩
theorem inv_start : InvS 0 (List.replicate 64 0) (List.replicate 64 0) [] [] := ⟨by simp, by simp, by simp, by simp, fun e he => absurd he (by simp), fun e he => absurd he (by simp), rfl⟩
theorem inv_next {x : Int} {flat m : List Int} {q : List S37} {b : List S48} (h : InvS x flat m q b) : InvS (x + 1) flat m q b :=
  ⟨h.lf, h.lm, h.lq, h.lb, fun e he => ⟨(h.hq e he).1, (h.hq e he).2.1, (h.hq e he).2.2.1, by have := (h.hq e he).2.2.2; omega⟩, h.hb, h.hf⟩
theorem idx_end (s : Int) (p : S37) (hp : p.f0 = s) : ∀ (l : List S37) (k : Int), (∀ e ∈ l, e.f0 < s) → idxF s (l ++ [p]) k = k + l.length
  | [], k, _ => by
    show (if p.f0 = s then k else -1) = _
    rw [if_pos hp]
    simp
  | y :: r, k, h => by
    have c : ¬ y.f0 = s := by have := h y (by simp); omega
    show (if y.f0 = s then k else idxF s (r ++ [p]) (k + 1)) = _
    rw [if_neg c, idx_end s p hp r (k + 1) fun e he => h e (by simp [he])]
    simp
    omega
theorem set_end (s a v n : Int) (l : List S37) (h : ∀ e ∈ l, e.f0 < s) : setX (l ++ [⟨s, 0, 0, 0, false⟩]) ⟨s, a, v, n, true⟩ = l ++ [⟨s, a, v, n, true⟩] := by
  have e := idx_end s ⟨s, 0, 0, 0, false⟩ rfl l 0 h
  unfold setX
  rw [show (⟨s, a, v, n, true⟩ : S37).f0 = s from rfl, e, if_pos (by omega), show ((0 : Int) + l.length).toNat = l.length by omega]
  rw [List.set_append_right _ _ (Nat.le_refl _), Nat.sub_self]
  rfl
theorem inv_store {x : Int} {flat m : List Int} {q : List S37} {b : List S48} (h : InvS x flat m q b) (hl : q.length < 16) {a n v : Int} (ho : Okm 64 a n) (hv : U v) : InvS (x + 1) (wrX flat a n v) m (q ++ [⟨x + 1, a, v, n, true⟩]) b := by
  have g := inv_next h
  refine ⟨?_, g.lm, by simp; omega, g.lb, ?_, g.hb, ?_⟩
  · have := wrX_len (m := flat) (a := a) (n := n) v (by rw [h.lf]; exact ho)
    rw [this, h.lf]
  · intro e he
    rcases List.mem_append.1 he with h1 | h1
    · exact g.hq e h1
    · obtain rfl := List.mem_singleton.1 h1
      exact ⟨ho, hv, rfl, Int.le_refl _⟩
  · rw [h.hf]
    unfold all2 replS
    rw [List.map_append, ← List.append_assoc, List.foldl_append (l' := [(⟨x + 1, a, v, n, true⟩ : S37)].map ofSq)]
    rfl
theorem set_inv {x : Int} {flat m : List Int} {q : List S37} {b : List S48} (h : InvS x flat m q b) (a v n : Int) : setX (q ++ [⟨x + 1, 0, 0, 0, false⟩]) ⟨x + 1, a, v, n, true⟩ = q ++ [⟨x + 1, a, v, n, true⟩] :=
  set_end (x + 1) a v n q fun e he => by have := (h.hq e he).2.2.2; omega
theorem old_all {x : Int} {flat m : List Int} {q : List S37} {b : List S48} (h : InvS x flat m q b) : old (x + 1) q b = (all2 q b).reverse := by
  unfold old sqs all2
  rw [List.reverse_append, ← List.map_reverse, ← List.map_reverse, List.filter_eq_self.2]
  intro e he
  have := h.hq e (List.mem_reverse.1 he)
  unfold sqOk
  rw [this.2.2.1, decide_eq_true (by omega)]
  rfl
theorem inv_load {x : Int} {flat m : List Int} {q : List S37} {b : List S48} (h : InvS x flat m q b) {a n : Int} (ho : Okm 64 a n) : (findX a n (old (x + 1) q b)).1 = 2 ∨ (if (findX a n (old (x + 1) q b)).1 = 0 then rdX m a n else (findX a n (old (x + 1) q b)).2.1) = rdX flat a n := by
  rw [old_all h]
  have := load_right h.lm (l := (all2 q b).reverse) (fun y hy => h.px y (List.mem_reverse.1 hy)) ho
  rw [List.reverse_reverse, ← h.hf] at this
  exact this
theorem inv_retire {x : Int} {flat m : List Int} {q : List S37} {b : List S48} (h : InvS x flat m q b) (hp : 0 < q.length) (hl : b.length < 8) : InvS (x + 1) flat m (q.drop 1) (b ++ [⟨(rd_T37 q 0).f1, (rd_T37 q 0).f2, (rd_T37 q 0).f3⟩]) := by
  match q, hp with
  | e :: r, _ =>
    have g := inv_next h
    have he := h.hq e (by simp)
    refine ⟨g.lf, g.lm, ?_, by simp; omega, fun y hy => g.hq y (by simp at hy; simp [hy]), ?_, ?_⟩
    · have := h.lq
      simp at this ⊢
      omega
    · intro y hy
      rcases List.mem_append.1 hy with h1 | h1
      · exact h.hb y h1
      · obtain rfl := List.mem_singleton.1 h1
        exact ⟨he.1, he.2.1⟩
    · rw [h.hf]
      unfold all2 replS
      rw [List.map_append, List.append_assoc, List.foldl_append, List.foldl_append]
      rfl
theorem inv_memory {x : Int} {flat m : List Int} {q : List S37} {b : List S48} (h : InvS x flat m q b) (hp : 0 < b.length) : InvS (x + 1) flat (wrX m (rd_T48 b 0).f0 (rd_T48 b 0).f2 (rd_T48 b 0).f1) q (b.drop 1) := by
  match b, hp with
  | e :: r, _ =>
    have g := inv_next h
    have he := h.hb e (by simp)
    refine ⟨g.lf, ?_, g.lq, ?_, g.hq, fun y hy => h.hb y (by simp at hy; simp [hy]), ?_⟩
    · show (wrX m e.f0 e.f2 e.f1).length = 64
      rw [wrX_len e.f1 (by rw [h.lm]; exact he.1), h.lm]
    · have := h.lb
      simp at this ⊢
      omega
    · rw [h.hf]
      rfl
theorem b_ok {x : Int} {flat m : List Int} {q : List S37} {b : List S48} (h : InvS x flat m q b) (hp : 0 < b.length) : Okm m.length (rd_T48 b 0).f0 (rd_T48 b 0).f2 := by
  rw [h.lm]
  match b, hp with
  | e :: r, _ => exact (h.hb e (by simp)).1
theorem drain_all {x : Int} {flat m : List Int} {q : List S37} {b : List S48} (h : InvS x flat m q b) : ∀ s ∈ b, Okm m.length s.f0 s.f2 := fun s hs => by
  rw [h.lm]
  exact (h.hb s hs).1
/-- Memory behind the stores of a queue. -/
def outX (m : List Int) (q : List S37) : List Int := q.foldl (fun m s => wrX m s.f1 s.f3 s.f2) m
theorem outX_snoc (m : List Int) (l : List S37) (s : S37) : outX m (l ++ [s]) = wrX (outX m l) s.f1 s.f3 s.f2 := by unfold outX; rw [List.foldl_append]; rfl
theorem take37 (l : List S37) {i : Int} (h0 : 0 ≤ i) (h1 : i < (l.length : Int)) : l.take (i + 1).toNat = l.take i.toNat ++ [rd_T37 l i] := by
  have hk : i.toNat < l.length := by omega
  rw [show (i + 1).toNat = i.toNat + 1 by omega, List.take_succ_eq_append_getElem hk]
  unfold rd_T37
  rw [List.getD_eq_getElem?_getD, List.getElem?_eq_getElem hk]
  rfl
theorem mem37 (l : List S37) {i : Int} (h0 : 0 ≤ i) (h1 : i < (l.length : Int)) : rd_T37 l i ∈ l := by
  have hk : i.toNat < l.length := by omega
  unfold rd_T37
  rw [List.getD_eq_getElem?_getD, List.getElem?_eq_getElem hk]
  exact List.getElem_mem hk
theorem inv_end {x : Int} {flat m : List Int} {q : List S37} {b : List S48} (h : InvS x flat m q b) : outX (drainX m b) q = flat := by
  rw [h.hf]
  unfold outX drainX replS all2
  rw [List.foldl_append, List.foldl_map, List.foldl_map]
  rfl
/-! The place of a deed. -/
def szX (s : Int) : Int := if s % 3 = 0 then 1 else if s % 3 = 1 then 2 else 4
def plX (a s : Int) : Int := a % 64 / szX s * szX s
theorem place_ok {a s : Int} (ha : 0 ≤ a) : Okm 64 (plX a s) (szX s) := by
  unfold Okm plX szX
  (repeat' split) <;> omega
end Go.Proofs.Ytmpnnppgppoliaa.Ld
