/- The plain law of loads that go ahead, and what the law's walk asks beside the functions. The conditions are those that each theorem names. -/
import Derived.Test.YtmpnnppgppoliaaEaM2
import Derived.Test.YtmpnnppgppoliaaLdS
namespace Go.Proofs.Ytmpnnppgppoliaa.Ea
set_option linter.unusedVariables false
set_option linter.unusedSimpArgs false
open Go Go.Proofs Go.RowKit Go.Proofs.YtmpnnppgppoliaaW.PrintWords Go.Proofs.YtmpnnppgppoliaaW.PrintMore Go.Proofs.Ytmpnnppgppoliaa.Plain Go.Proofs.Ytmpnnppgppoliaa.PFwd Go.Proofs.Ytmpnnppgppoliaa.Ld
def upd {α : Type} (f : Int → α) (k : Int) (v : α) : Int → α := fun i => if i = k then v else f i
theorem upd_same {α : Type} (f : Int → α) (k : Int) (v : α) : upd f k v k = v := if_pos rfl
theorem upd_ne {α : Type} (f : Int → α) {k i : Int} (v : α) (h : ¬ i = k) : upd f k v i = f i := if_neg h
/-! The queues as functions: which stores are known, what each load is. -/
def qe (K : Int → Bool) (i : Int) (a : Ac) : S37 := if K i = true then ⟨i + 1, plA a, a.f2, 4, true⟩ else ⟨i + 1, 0, 0, 0, false⟩
theorem qe_f0 (K : Int → Bool) (i : Int) (a : Ac) : (qe K i a).f0 = i + 1 := by unfold qe; split <;> rfl
theorem qe_f4 (K : Int → Bool) (i : Int) (a : Ac) : (qe K i a).f4 = K i := by
  unfold qe
  cases h : K i <;> rfl
theorem qe_upd {K : Int → Bool} {k i : Int} (a : Ac) (v : Bool) (h : ¬ i = k) : qe (upd K k v) i a = qe K i a := by unfold qe; rw [upd_ne K v h]
def qs (K : Int → Bool) : Int → List Ac → List S37
  | _, [] => []
  | i, a :: r => if a.f0 = true then qe K i a :: qs K (i + 1) r else qs K (i + 1) r
def ls (E : Int → S79) : Int → List Ac → List S79
  | _, [] => []
  | i, a :: r => if a.f0 = true then ls E (i + 1) r else E i :: ls E (i + 1) r
theorem qs_congr {K K' : Int → Bool} : ∀ (acc : List Ac) (i : Int), (∀ j, i ≤ j → K j = K' j) → qs K i acc = qs K' i acc
  | [], _, _ => rfl
  | a :: r, i, h => by
    unfold qs
    rw [qs_congr r (i + 1) fun j hj => h j (by omega)]
    unfold qe
    rw [h i (Int.le_refl _)]
theorem ls_congr {E E' : Int → S79} : ∀ (acc : List Ac) (i : Int), (∀ j, i ≤ j → E j = E' j) → ls E i acc = ls E' i acc
  | [], _, _ => rfl
  | a :: r, i, h => by
    unfold ls
    rw [ls_congr r (i + 1) fun j hj => h j (by omega), h i (Int.le_refl _)]
theorem qs_len (K : Int → Bool) : ∀ (acc : List Ac) (i : Int), (qs K i acc).length ≤ acc.length
  | [], _ => Nat.le_refl _
  | a :: r, i => by
    have := qs_len K r (i + 1)
    unfold qs
    split <;> simp <;> omega
theorem ls_len (E : Int → S79) : ∀ (acc : List Ac) (i : Int), (ls E i acc).length ≤ acc.length
  | [], _ => Nat.le_refl _
  | a :: r, i => by
    have := ls_len E r (i + 1)
    unfold ls
    split <;> simp <;> omega
/-! Set by number. -/
def setR37 (s : Int) (e : S37) : List S37 → List S37
  | [] => []
  | y :: r => if y.f0 = s then e :: r else y :: setR37 s e r
def setR79 (s : Int) (e : S79) : List S79 → List S79
  | [] => []
  | y :: r => if y.f0 = s then e :: r else y :: setR79 s e r
theorem setX_k (s : Int) (e : S37) : ∀ (l : List S37) (k : Int), 0 ≤ k → (if 0 ≤ idxF s l k then l.set (idxF s l k - k).toNat e else l) = setR37 s e l
  | [], k, h => by show (if 0 ≤ (-1 : Int) then _ else _) = _; rw [if_neg (by decide)]; rfl
  | y :: r, k, h => by
    have ih := setX_k s e r (k + 1) (by omega)
    have hr := idxF_rng s r (k + 1) (by omega)
    by_cases c : y.f0 = s
    · rw [show idxF s (y :: r) k = k from if_pos c, if_pos h, show (k - k).toNat = 0 by omega]
      unfold setR37
      rw [if_pos c]
      rfl
    · rw [show idxF s (y :: r) k = idxF s r (k + 1) from if_neg c]
      unfold setR37
      rw [if_neg c, ← ih]
      rcases hr with h1 | h1
      · rw [h1, if_neg (by decide), if_neg (by decide)]
      · rw [if_pos (by omega), if_pos (by omega), show (idxF s r (k + 1) - k).toNat = (idxF s r (k + 1) - (k + 1)).toNat + 1 by omega]
        rfl
theorem setL_k (s : Int) (e : S79) : ∀ (l : List S79) (k : Int), 0 ≤ k → (if 0 ≤ idxL s l k then l.set (idxL s l k - k).toNat e else l) = setR79 s e l
  | [], k, h => by show (if 0 ≤ (-1 : Int) then _ else _) = _; rw [if_neg (by decide)]; rfl
  | y :: r, k, h => by
    have ih := setL_k s e r (k + 1) (by omega)
    have hr := idxL_rng s r (k + 1) (by omega)
    by_cases c : y.f0 = s
    · rw [show idxL s (y :: r) k = k from if_pos c, if_pos h, show (k - k).toNat = 0 by omega]
      unfold setR79
      rw [if_pos c]
      rfl
    · rw [show idxL s (y :: r) k = idxL s r (k + 1) from if_neg c]
      unfold setR79
      rw [if_neg c, ← ih]
      rcases hr with h1 | h1
      · rw [h1, if_neg (by decide), if_neg (by decide)]
      · rw [if_pos (by omega), if_pos (by omega), show (idxL s r (k + 1) - k).toNat = (idxL s r (k + 1) - (k + 1)).toNat + 1 by omega]
        rfl
theorem setX_R (l : List S37) (e : S37) : setX l e = setR37 e.f0 {e with f4 := true} l := by
  rw [← setX_k _ _ l 0 (by decide)]
  unfold setX
  rw [Int.sub_zero]
theorem setL_R (l : List S79) (e : S79) : setL l e = setR79 e.f0 {e with f4 := true} l := by
  rw [← setL_k _ _ l 0 (by decide)]
  unfold setL
  rw [Int.sub_zero]
theorem nth_next {acc : List Ac} {b : Ac} {i k : Int} {a : Ac} (hi : i ≤ k) (hn : ¬ i = k) (h : (b :: acc)[(k - i).toNat]? = some a) : i + 1 ≤ k ∧ acc[(k - (i + 1)).toNat]? = some a := by
  refine ⟨by omega, ?_⟩
  rw [show (k - i).toNat = (k - (i + 1)).toNat + 1 by omega, List.getElem?_cons_succ] at h
  exact h
theorem nth_here {acc : List Ac} {b : Ac} {i : Int} {a : Ac} (h : (b :: acc)[(i - i).toNat]? = some a) : b = a := by
  rw [show (i - i).toNat = 0 by omega] at h
  simpa using h
theorem set_qs (K : Int → Bool) (k : Int) (a : Ac) (ha : a.f0 = true) : ∀ (acc : List Ac) (i : Int), i ≤ k → acc[(k - i).toNat]? = some a → setR37 (k + 1) ⟨k + 1, plA a, a.f2, 4, true⟩ (qs K i acc) = qs (upd K k true) i acc
  | [], i, _, h => by simp at h
  | b :: r, i, hi, h => by
    by_cases e : i = k
    · subst e
      obtain rfl := nth_here h
      have h1 : qs K i (b :: r) = qe K i b :: qs K (i + 1) r := if_pos ha
      have h2 : qs (upd K i true) i (b :: r) = qe (upd K i true) i b :: qs (upd K i true) (i + 1) r := if_pos ha
      rw [h1, h2, ← qs_congr r (i + 1) (K := K) fun j hj => (upd_ne K true (by omega)).symm]
      unfold setR37
      rw [if_pos (qe_f0 K i b)]
      unfold qe
      rw [upd_same, if_pos rfl]
    · obtain ⟨h1, h2⟩ := nth_next hi e h
      have ih := set_qs K k a ha r (i + 1) h1 h2
      unfold qs
      by_cases c : b.f0 = true
      · rw [if_pos c, if_pos c, ← ih, qe_upd b true e]
        conv => lhs; unfold setR37
        rw [if_neg (by rw [qe_f0]; omega)]
      · rw [if_neg c, if_neg c, ih]
theorem set_ls (E : Int → S79) (hE : ∀ k, (E k).f0 = k + 1) (k : Int) (a : Ac) (e1 : S79) (ha : a.f0 = false) : ∀ (acc : List Ac) (i : Int), i ≤ k → acc[(k - i).toNat]? = some a → setR79 (k + 1) e1 (ls E i acc) = ls (upd E k e1) i acc
  | [], i, _, h => by simp at h
  | b :: r, i, hi, h => by
    by_cases e : i = k
    · subst e
      obtain rfl := nth_here h
      have hb : ¬ b.f0 = true := by rw [ha]; decide
      have h1 : ls E i (b :: r) = E i :: ls E (i + 1) r := if_neg hb
      have h2 : ls (upd E i e1) i (b :: r) = upd E i e1 i :: ls (upd E i e1) (i + 1) r := if_neg hb
      rw [h1, h2, ← ls_congr r (i + 1) (E := E) fun j hj => (upd_ne E e1 (by omega)).symm, upd_same]
      unfold setR79
      rw [if_pos (hE i)]
    · obtain ⟨h1, h2⟩ := nth_next hi e h
      have ih := set_ls E hE k a e1 ha r (i + 1) h1 h2
      unfold ls
      by_cases c : b.f0 = true
      · rw [if_pos c, if_pos c, ih]
      · rw [if_neg c, if_neg c, ← ih, upd_ne E e1 e]
        conv => lhs; unfold setR79
        rw [if_neg (by rw [hE]; omega)]
theorem known_qs (K : Int → Bool) (k : Int) (a : Ac) (ha : a.f0 = true) : ∀ (acc : List Ac) (i : Int), i ≤ k → acc[(k - i).toNat]? = some a → knownQ (k + 1) (qs K i acc) = K k
  | [], i, _, h => by simp at h
  | b :: r, i, hi, h => by
    by_cases e : i = k
    · subst e
      obtain rfl := nth_here h
      have h1 : qs K i (b :: r) = qe K i b :: qs K (i + 1) r := if_pos ha
      rw [h1]
      unfold knownQ
      rw [if_pos (qe_f0 K i b), qe_f4]
    · obtain ⟨h1, h2⟩ := nth_next hi e h
      have ih := known_qs K k a ha r (i + 1) h1 h2
      unfold qs
      by_cases c : b.f0 = true
      · rw [if_pos c]
        unfold knownQ
        rw [if_neg (by rw [qe_f0]; omega), ih]
      · rw [if_neg c, ih]
theorem known_ls (E : Int → S79) (hE : ∀ k, (E k).f0 = k + 1) (k : Int) (a : Ac) (ha : a.f0 = false) : ∀ (acc : List Ac) (i : Int), i ≤ k → acc[(k - i).toNat]? = some a → knownL (k + 1) (ls E i acc) = (E k).f4
  | [], i, _, h => by simp at h
  | b :: r, i, hi, h => by
    by_cases e : i = k
    · subst e
      obtain rfl := nth_here h
      have h1 : ls E i (b :: r) = E i :: ls E (i + 1) r := if_neg (by rw [ha]; decide)
      rw [h1]
      unfold knownL
      rw [if_pos (hE i)]
    · obtain ⟨h1, h2⟩ := nth_next hi e h
      have ih := known_ls E hE k a ha r (i + 1) h1 h2
      unfold ls
      by_cases c : b.f0 = true
      · rw [if_pos c, ih]
      · rw [if_neg c]
        unfold knownL
        rw [if_neg (by rw [hE]; omega), ih]
theorem ls_mem (E : Int → S79) (k : Int) (a : Ac) (ha : a.f0 = false) : ∀ (acc : List Ac) (i : Int), i ≤ k → acc[(k - i).toNat]? = some a → E k ∈ ls E i acc
  | [], i, _, h => by simp at h
  | b :: r, i, hi, h => by
    by_cases e : i = k
    · subst e
      obtain rfl := nth_here h
      have h1 : ls E i (b :: r) = E i :: ls E (i + 1) r := if_neg (by rw [ha]; decide)
      rw [h1]
      simp
    · obtain ⟨h1, h2⟩ := nth_next hi e h
      have ih := ls_mem E k a ha r (i + 1) h1 h2
      unfold ls
      split
      · exact ih
      · exact List.mem_cons_of_mem _ ih
theorem mem_ls (E : Int → S79) : ∀ (acc : List Ac) (i : Int) (e : S79), e ∈ ls E i acc → ∃ k, i ≤ k ∧ e = E k
  | [], i, e, h => by simp [ls] at h
  | b :: r, i, e, h => by
    unfold ls at h
    split at h
    · obtain ⟨k, h1, h2⟩ := mem_ls E r (i + 1) e h
      exact ⟨k, by omega, h2⟩
    · rcases List.mem_cons.1 h with h | h
      · exact ⟨i, Int.le_refl _, h⟩
      · obtain ⟨k, h1, h2⟩ := mem_ls E r (i + 1) e h
        exact ⟨k, by omega, h2⟩
def un0 (n : Int) (e : S79) : S79 := if n = 0 then e else un n e
theorem un0_f0 (n : Int) (e : S79) : (un0 n e).f0 = e.f0 := by
  unfold un0 un
  split
  · rfl
  · split <;> rfl
theorem ls_map (f : S79 → S79) (E : Int → S79) : ∀ (acc : List Ac) (i : Int), (ls E i acc).map f = ls (fun j => f (E j)) i acc
  | [], _ => rfl
  | a :: r, i => by
    unfold ls
    split
    · exact ls_map f E r (i + 1)
    · rw [List.map_cons, ls_map f E r (i + 1)]
theorem redo_ls (n : Int) (E : Int → S79) (acc : List Ac) : redo n (ls E 0 acc) = ls (fun j => un0 n (E j)) 0 acc := by
  unfold redo
  by_cases c : n = 0
  · rw [if_pos c]
    exact ls_congr acc 0 fun j _ => by unfold un0; rw [if_pos c]
  · rw [if_neg c, ls_map]
    exact ls_congr acc 0 fun j _ => by unfold un0; rw [if_neg c]
/-! Who went too early. -/
theorem early_le (s : S37) : ∀ (l : List S79) (least : Int) (sm : Bool), (sm = true → earlyF s l least sm ≤ least) ∧ (∀ e ∈ l, earlyB e s = true → earlyF s l least sm ≤ e.f0)
  | [], least, sm => ⟨fun _ => Int.le_refl _, fun e h => by simp at h⟩
  | y :: r, least, sm => by
    unfold earlyF
    by_cases c : (earlyB y s && (!sm || decide (y.f0 < least))) = true
    · rw [if_pos c]
      obtain ⟨h1, h2⟩ := early_le s r y.f0 true
      refine ⟨fun h => ?_, fun e he hb => ?_⟩
      · subst h
        have := h1 rfl
        simp at c
        omega
      · rcases List.mem_cons.1 he with rfl | he
        · exact h1 rfl
        · exact h2 e he hb
    · rw [if_neg c]
      obtain ⟨h1, h2⟩ := early_le s r least sm
      refine ⟨h1, fun e he hb => ?_⟩
      rcases List.mem_cons.1 he with rfl | he
      · rw [hb] at c
        cases sm with
        | false => simp at c
        | true =>
          have := h1 rfl
          simp at c
          omega
      · exact h2 e he hb
theorem early_pos (s : S37) : ∀ (l : List S79) (least : Int) (sm : Bool), (∀ e ∈ l, 1 ≤ e.f0) → (sm = true → 1 ≤ least) → (sm = true ∨ ∃ e ∈ l, earlyB e s = true) → 1 ≤ earlyF s l least sm
  | [], least, sm, h, h1, h2 => by
    rcases h2 with h2 | ⟨e, he, _⟩
    · exact h1 h2
    · simp at he
  | y :: r, least, sm, h, h1, h2 => by
    unfold earlyF
    by_cases c : (earlyB y s && (!sm || decide (y.f0 < least))) = true
    · rw [if_pos c]
      exact early_pos s r y.f0 true (fun e he => h e (by simp [he])) (fun _ => h y (by simp)) (Or.inl rfl)
    · rw [if_neg c]
      refine early_pos s r least sm (fun e he => h e (by simp [he])) h1 ?_
      rcases h2 with h2 | ⟨e, he, hb⟩
      · exact Or.inl h2
      · rcases List.mem_cons.1 he with rfl | he
        · rw [hb] at c
          cases sm with
          | false => simp at c
          | true => exact Or.inl rfl
        · exact Or.inr ⟨e, he, hb⟩
/-- Who is still known did not go too early. -/
theorem kept {l : List S79} {s : S37} {e : S79} (hp : ∀ e ∈ l, 1 ≤ e.f0) (he : e ∈ l) (hk : (un0 (earlyX l s) e).f4 = true) : e.f4 = true ∧ un0 (earlyX l s) e = e ∧ earlyB e s = false := by
  have h1 := (early_le s l 0 false).2 e he
  have h2 := early_pos s l 0 false hp (by decide)
  have hX : earlyX l s = earlyF s l 0 false := rfl
  rw [hX] at hk ⊢
  have hf : earlyB e s = false := by
    cases hb : earlyB e s with
    | false => rfl
    | true =>
      have := h1 hb
      have := h2 (Or.inr ⟨e, he, hb⟩)
      unfold un0 at hk
      rw [if_neg (by omega)] at hk
      unfold un at hk
      rw [if_pos (by omega)] at hk
      cases hk
  have hu : un0 (earlyF s l 0 false) e = e := by
    unfold un0 un at hk ⊢
    split at hk
    · rename_i c; rw [if_pos c]
    · rename_i c
      rw [if_neg c]
      split at hk
      · cases hk
      · rename_i c2; rw [if_neg c2]
  rw [hu] at hk
  exact ⟨hk, hu, hf⟩
end Go.Proofs.Ytmpnnppgppoliaa.Ea

namespace Go.Proofs.Ytmpnnppgppoliaa.Ea
set_option linter.unusedVariables false
set_option linter.unusedSimpArgs false
open Go Go.Proofs Go.RowKit Go.Proofs.YtmpnnppgppoliaaW.PrintWords Go.Proofs.YtmpnnppgppoliaaW.PrintMore Go.Proofs.Ytmpnnppgppoliaa.Plain Go.Proofs.Ytmpnnppgppoliaa.PFwd Go.Proofs.Ytmpnnppgppoliaa.Ld
def GoodA (a : Ac) : Prop := 0 ≤ a.f1 ∧ a.f1 < 256 ∧ U a.f2
/-- A store of a word. -/
def Al (x : SX) : Prop := x.n = 4 ∧ 0 ≤ x.a ∧ x.a ≤ 60 ∧ x.a % 4 = 0 ∧ U x.d
def findD (p : Int) (r0 : Int × Int × Int) : List SX → Int × Int × Int
  | [] => r0
  | x :: r => if x.a = p then (1, x.d, x.q) else findD p r0 r
theorem find_al {p : Int} (h0 : 0 ≤ p) (h1 : p ≤ 60) (h2 : p % 4 = 0) : ∀ l : List SX, (∀ x ∈ l, Al x) → findX p 4 l = findD p (0, 0, 0) l
  | [], _ => rfl
  | x :: r, h => by
    obtain ⟨g0, g1, g2, g3, g4⟩ := h x (by simp)
    have ih := find_al h0 h1 h2 r fun y hy => h y (by simp [hy])
    have up : U p := ⟨h0, by omega⟩
    have ux : U x.a := ⟨g1, by omega⟩
    have s4 : Sz 4 := Or.inr (Or.inr rfl)
    unfold findX findD
    rw [ih, g0, ov_sz up ux s4 s4]
    by_cases c : x.a = p
    · rw [if_pos c, decide_eq_true (by omega), if_pos rfl]
      unfold hitX
      rw [g0, cov_sz up ux s4 s4, decide_eq_true (by omega), if_pos rfl, c, cut_is' g4 s4 (Int.le_refl _) (by omega)]
      have e : x.d / 2 ^ (8 * (p - p)).toNat % 2 ^ (8 * 4 : Int).toNat = x.d := by
        rw [show (8 * (p - p)).toNat = 0 by omega]
        have := g4.1
        have := g4.2
        rw [show ((2 : Int) ^ (0 : Nat)) = 1 from rfl, show ((2 : Int) ^ (8 * 4 : Int).toNat) = 4294967296 from rfl]
        omega
      rw [e]
    · rw [if_neg c, decide_eq_false (by omega), if_neg (by decide)]
theorem findD_app (p : Int) (Y : List SX) : ∀ (X : List SX) (r0 : Int × Int × Int), findD p r0 (X ++ Y) = findD p (findD p r0 Y) X
  | [], _ => rfl
  | x :: r, r0 => by
    show (if x.a = p then _ else findD p r0 (r ++ Y)) = (if x.a = p then _ else findD p _ r)
    rw [findD_app p Y r r0]
/-- The youngest known older store of a place. -/
def LK (K : Int → Bool) (p s : Int) : Int × Int × Int → Int → List Ac → Int × Int × Int
  | r0, _, [] => r0
  | r0, i, a :: r => LK K p s (if a.f0 = true ∧ K i = true ∧ i + 1 < s ∧ plA a = p then (1, a.f2, i + 1) else r0) (i + 1) r
theorem LK_is (K : Int → Bool) (p s : Int) : ∀ (acc : List Ac) (i : Int) (r0 : Int × Int × Int), findD p r0 (sqs s (qs K i acc).reverse) = LK K p s r0 i acc
  | [], _, _ => rfl
  | a :: r, i, r0 => by
    unfold qs LK
    by_cases c : a.f0 = true
    · rw [if_pos c, List.reverse_cons, sqs_append, findD_app, LK_is K p s r (i + 1)]
      refine congrArg (fun z => LK K p s z (i + 1) r) ?_
      by_cases hK : K i = true
      · have e : qe K i a = ⟨i + 1, plA a, a.f2, 4, true⟩ := if_pos hK
        rw [e]
        unfold sqs
        by_cases c2 : i + 1 < s
        · have h1 : sqOk s ⟨i + 1, plA a, a.f2, 4, true⟩ = true := by unfold sqOk; simp [c2]
          rw [List.filter_cons, if_pos h1]
          show (if plA a = p then ((1 : Int), a.f2, i + 1) else r0) = _
          by_cases c3 : plA a = p
          · rw [if_pos c3, if_pos ⟨c, hK, c2, c3⟩]
          · rw [if_neg c3, if_neg fun h => c3 h.2.2.2]
        · have h1 : ¬ sqOk s ⟨i + 1, plA a, a.f2, 4, true⟩ = true := by unfold sqOk; simp [c2]
          rw [List.filter_cons, if_neg h1, if_neg fun h => c2 h.2.2.1]
          rfl
      · have h1 : ¬ sqOk s (qe K i a) = true := by unfold sqOk; rw [qe_f4]; simp [hK]
        unfold sqs
        rw [List.filter_cons, if_neg h1, if_neg fun h => hK h.2.1]
        rfl
    · rw [if_neg c, if_neg fun h => c h.1]
      exact LK_is K p s r (i + 1) r0
theorem LK_base (K : Int → Bool) (p s : Int) : ∀ (acc : List Ac) (i : Int) (r0 : Int × Int × Int), LK K p s r0 i acc = r0 ∨ ∀ r1, LK K p s r1 i acc = LK K p s r0 i acc
  | [], _, _ => Or.inl rfl
  | a :: r, i, r0 => by
    unfold LK
    by_cases c : a.f0 = true ∧ K i = true ∧ i + 1 < s ∧ plA a = p
    · right
      intro r1
      rw [if_pos c, if_pos c]
    · rw [if_neg c]
      rcases LK_base K p s r (i + 1) r0 with h | h
      · exact Or.inl h
      · right
        intro r1
        rw [if_neg c]
        exact h r1
theorem LK_congr {K K' : Int → Bool} (p s : Int) : ∀ (acc : List Ac) (i : Int) (r0 : Int × Int × Int), (∀ j, i ≤ j → K j = K' j) → LK K p s r0 i acc = LK K' p s r0 i acc
  | [], _, _, _ => rfl
  | a :: r, i, r0, h => by
    unfold LK
    rw [h i (Int.le_refl _), LK_congr p s r (i + 1) _ fun j hj => h j (by omega)]
theorem LK_two (K : Int → Bool) (p s : Int) : ∀ (acc : List Ac) (i : Int) (r0 : Int × Int × Int), r0.1 ≠ 2 → (LK K p s r0 i acc).1 ≠ 2
  | [], _, _, h => h
  | a :: r, i, r0, h => by
    unfold LK
    refine LK_two K p s r (i + 1) _ ?_
    split
    · show (1 : Int) ≠ 2
      decide
    · exact h
/-- One store more is known: who does not see it has what it had. -/
theorem LK_upd {K : Int → Bool} {k : Int} {a0 : Ac} (p s : Int) (hK : K k = false) : ∀ (acc : List Ac) (i : Int) (r0 : Int × Int × Int), i ≤ k → acc[(k - i).toNat]? = some a0 → r0.2.2 ≤ i → (s ≤ k + 1 ∨ plA a0 ≠ p ∨ k + 1 ≤ (LK K p s r0 i acc).2.2) → LK (upd K k true) p s r0 i acc = LK K p s r0 i acc
  | [], i, _, _, h, _, _ => by simp at h
  | b :: r, i, r0, hi, h, h0, hc => by
    unfold LK at hc ⊢
    by_cases e : i = k
    · subst e
      obtain rfl := nth_here h
      rw [← LK_congr (K := K) p s r (i + 1) _ fun j hj => (upd_ne K true (by omega)).symm, upd_same]
      rw [if_neg (show ¬ (b.f0 = true ∧ K i = true ∧ i + 1 < s ∧ plA b = p) from fun h => by rw [hK] at h; exact absurd h.2.1 (by decide))] at hc ⊢
      by_cases c : b.f0 = true ∧ (true : Bool) = true ∧ i + 1 < s ∧ plA b = p
      · rw [if_pos c]
        rcases hc with h1 | h1 | h1
        · omega
        · exact absurd c.2.2.2 h1
        · rcases LK_base K p s r (i + 1) r0 with h2 | h2
          · rw [h2] at h1; omega
          · exact h2 _
      · rw [if_neg c]
    · obtain ⟨h1, h2⟩ := nth_next hi e h
      rw [upd_ne K true e]
      refine LK_upd p s hK r (i + 1) _ h1 h2 ?_ hc
      split
      · exact Int.le_refl _
      · omega
theorem al_plA {a : Ac} (h : GoodA a) : 0 ≤ plA a ∧ plA a ≤ 60 ∧ plA a % 4 = 0 := by unfold plA; omega
theorem qs_al (K : Int → Bool) : ∀ (acc : List Ac) (i : Int), (∀ a ∈ acc, GoodA a) → ∀ y ∈ qs K i acc, y.f4 = true → Al (ofSq y)
  | [], _, _, y, hy, _ => by simp [qs] at hy
  | a :: r, i, h, y, hy, h4 => by
    have ih := qs_al K r (i + 1) (fun b hb => h b (by simp [hb])) y
    unfold qs at hy
    split at hy
    · rcases List.mem_cons.1 hy with rfl | hy
      · rw [qe_f4] at h4
        unfold qe
        rw [if_pos h4]
        have g := h a (by simp)
        have := al_plA g
        exact ⟨rfl, this.1, this.2.1, this.2.2, g.2.2⟩
      · exact ih hy h4
    · exact ih hy h4
theorem old_al {K : Int → Bool} {acc : List Ac} (h : ∀ a ∈ acc, GoodA a) (s : Int) : ∀ x ∈ old s (qs K 0 acc) [], Al x := by
  intro x hx
  unfold old sqs at hx
  simp only [List.reverse_nil, List.map_nil, List.append_nil] at hx
  obtain ⟨y, hy, rfl⟩ := List.mem_map.1 hx
  obtain ⟨h1, h2⟩ := List.mem_filter.1 hy
  unfold sqOk at h2
  simp at h2
  exact qs_al K acc 0 h y (List.mem_reverse.1 h1) h2.1
theorem find_LK {K : Int → Bool} {acc : List Ac} (h : ∀ a ∈ acc, GoodA a) (s : Int) {a : Ac} (ha : GoodA a) : findX (plA a) 4 (old s (qs K 0 acc) []) = LK K (plA a) s (0, 0, 0) 0 acc := by
  have g := al_plA ha
  rw [find_al g.1 g.2.1 g.2.2 _ (old_al h s), ← LK_is]
  unfold old
  simp
/-! How much is left to do. -/
def uS (K : Int → Bool) : Int → List Ac → Int
  | _, [] => 0
  | i, a :: r => (if a.f0 = true ∧ K i = false then 1 else 0) + uS K (i + 1) r
def uL (E : Int → S79) : Int → List Ac → Int
  | _, [] => 0
  | i, a :: r => (if a.f0 = false ∧ (E i).f4 = false then 1 else 0) + uL E (i + 1) r
theorem u_len (K : Int → Bool) (E : Int → S79) : ∀ (acc : List Ac) (i : Int), 0 ≤ uS K i acc ∧ 0 ≤ uL E i acc ∧ uS K i acc + uL E i acc ≤ acc.length
  | [], _ => ⟨Int.le_refl _, Int.le_refl _, Int.le_refl _⟩
  | a :: r, i => by
    have := u_len K E r (i + 1)
    unfold uS uL
    simp only [List.length_cons]
    by_cases c : a.f0 = true
    · rw [if_neg (show ¬ (a.f0 = false ∧ (E i).f4 = false) from fun h => by rw [c] at h; exact absurd h.1 (by decide))]
      split <;> omega
    · rw [if_neg (show ¬ (a.f0 = true ∧ K i = false) from fun h => c h.1)]
      split <;> omega
theorem uS_congr {K K' : Int → Bool} : ∀ (acc : List Ac) (i : Int), (∀ j, i ≤ j → K j = K' j) → uS K i acc = uS K' i acc
  | [], _, _ => rfl
  | a :: r, i, h => by
    unfold uS
    rw [h i (Int.le_refl _), uS_congr r (i + 1) fun j hj => h j (by omega)]
theorem uL_congr {E E' : Int → S79} : ∀ (acc : List Ac) (i : Int), (∀ j, i ≤ j → E j = E' j) → uL E i acc = uL E' i acc
  | [], _, _ => rfl
  | a :: r, i, h => by
    unfold uL
    rw [h i (Int.le_refl _), uL_congr r (i + 1) fun j hj => h j (by omega)]
theorem uS_upd {K : Int → Bool} {k : Int} {a0 : Ac} (hK : K k = false) (ha : a0.f0 = true) : ∀ (acc : List Ac) (i : Int), i ≤ k → acc[(k - i).toNat]? = some a0 → uS (upd K k true) i acc + 1 = uS K i acc
  | [], _, _, h => by simp at h
  | b :: r, i, hi, h => by
    unfold uS
    by_cases e : i = k
    · subst e
      obtain rfl := nth_here h
      rw [← uS_congr (K := K) r (i + 1) fun j hj => (upd_ne K true (by omega)).symm, upd_same, if_neg (show ¬ (b.f0 = true ∧ true = false) by simp), if_pos ⟨ha, hK⟩]
      omega
    · obtain ⟨h1, h2⟩ := nth_next hi e h
      have := uS_upd hK ha r (i + 1) h1 h2
      rw [upd_ne K true e]
      omega
theorem uL_upd {E : Int → S79} {k : Int} {a0 : Ac} {e1 : S79} (hE : (E k).f4 = false) (h4 : e1.f4 = true) (ha : a0.f0 = false) : ∀ (acc : List Ac) (i : Int), i ≤ k → acc[(k - i).toNat]? = some a0 → uL (upd E k e1) i acc + 1 = uL E i acc
  | [], _, _, h => by simp at h
  | b :: r, i, hi, h => by
    unfold uL
    by_cases e : i = k
    · subst e
      obtain rfl := nth_here h
      rw [← uL_congr (E := E) r (i + 1) fun j hj => (upd_ne E e1 (by omega)).symm, upd_same, if_neg (show ¬ (b.f0 = false ∧ e1.f4 = false) by rw [h4]; simp), if_pos ⟨ha, hE⟩]
      omega
    · obtain ⟨h1, h2⟩ := nth_next hi e h
      have := uL_upd hE h4 ha r (i + 1) h1 h2
      rw [upd_ne E e1 e]
      omega
/-! Memory behind the stores ahead of an access. -/
def stX (m : List Int) (a : Ac) : List Int := if a.f0 = true then wrX m (plA a) 4 a.f2 else m
def memX (m : List Int) (acc : List Ac) : List Int := acc.foldl stX m
theorem sqs_none (K : Int → Bool) (s : Int) : ∀ (acc : List Ac) (i : Int), s ≤ i + 1 → sqs s (qs K i acc) = []
  | [], _, _ => rfl
  | a :: r, i, h => by
    have ih := sqs_none K s r (i + 1) (by omega)
    unfold qs
    split
    · unfold sqs at ih ⊢
      rw [List.filter_cons, if_neg (by unfold sqOk; rw [qe_f0]; simp; omega)]
      exact ih
    · exact ih
theorem mem_all (K : Int → Bool) (k : Int) : ∀ (acc : List Ac) (i : Int) (m : List Int), i ≤ k → (∀ (j : Int) (a : Ac), i ≤ j → acc[(j - i).toNat]? = some a → a.f0 = true → K j = true) → replS m (sqs (k + 1) (qs K i acc)) = memX m (acc.take (k - i).toNat)
  | [], i, m, _, _ => by
    rw [List.take_nil]
    rfl
  | a :: r, i, m, hi, h => by
    by_cases e : i = k
    · subst e
      rw [sqs_none K (i + 1) _ i (Int.le_refl _), show (i - i).toNat = 0 by omega]
      rfl
    · have hh : ∀ (j : Int) (b : Ac), i + 1 ≤ j → r[(j - (i + 1)).toNat]? = some b → b.f0 = true → K j = true := fun j b hj hb => h j b (by omega) (by rw [show (j - i).toNat = (j - (i + 1)).toNat + 1 by omega, List.getElem?_cons_succ]; exact hb)
      have ih := fun m => mem_all K k r (i + 1) m (by omega) hh
      rw [show (k - i).toNat = (k - (i + 1)).toNat + 1 by omega, List.take_succ_cons]
      unfold qs
      by_cases c : a.f0 = true
      · have hK := h i a (Int.le_refl _) (by rw [show (i - i).toNat = 0 by omega]; rfl) c
        have eq : qe K i a = ⟨i + 1, plA a, a.f2, 4, true⟩ := if_pos hK
        rw [if_pos c, eq]
        unfold sqs
        rw [List.filter_cons, if_pos (by unfold sqOk; simp; omega), List.map_cons]
        show replS (wrS m ⟨plA a, a.f2, 4, i + 1⟩) (sqs (k + 1) (qs K (i + 1) r)) = memX (stX m a) _
        rw [ih]
        unfold stX
        rw [if_pos c]
        rfl
      · rw [if_neg c]
        show _ = memX (stX m a) _
        rw [ih]
        unfold stX
        rw [if_neg c]
theorem memX_snoc (m : List Int) (l : List Ac) (a : Ac) : memX m (l ++ [a]) = stX (memX m l) a := by unfold memX; rw [List.foldl_append]; rfl
theorem stX_len {m : List Int} (hm : m.length = 64) {a : Ac} : (stX m a).length = 64 := by
  unfold stX
  split
  · rw [wrX_len a.f2 (by rw [hm]; exact plA_ok a), hm]
  · exact hm
theorem memX_len : ∀ (l : List Ac) (m : List Int), m.length = 64 → (memX m l).length = 64
  | [], _, h => h
  | a :: r, m, h => memX_len r (stX m a) (stX_len h)
end Go.Proofs.Ytmpnnppgppoliaa.Ea

namespace Go.Proofs.Ytmpnnppgppoliaa.Ea
set_option linter.unusedVariables false
set_option linter.unusedSimpArgs false
open Go Go.Proofs Go.RowKit Go.Proofs.YtmpnnppgppoliaaW.PrintWords Go.Proofs.YtmpnnppgppoliaaW.PrintMore Go.Proofs.Ytmpnnppgppoliaa.Plain Go.Proofs.Ytmpnnppgppoliaa.PFwd Go.Proofs.Ytmpnnppgppoliaa.Ld
theorem nthA {acc : List Ac} {k : Int} (h0 : 0 ≤ k) (h1 : k < (acc.length : Int)) : acc[(k - 0).toNat]? = some (rdA acc k) := by
  have hk : k.toNat < acc.length := by omega
  rw [Int.sub_zero]
  unfold rdA
  rw [List.getD_eq_getElem?_getD, List.getElem?_eq_getElem hk]
  rfl
theorem memA {acc : List Ac} {k : Int} (h0 : 0 ≤ k) (h1 : k < (acc.length : Int)) : rdA acc k ∈ acc := by
  have hk : k.toNat < acc.length := by omega
  unfold rdA
  rw [List.getD_eq_getElem?_getD, List.getElem?_eq_getElem hk]
  exact List.getElem_mem hk
theorem inA {acc : List Ac} {k : Int} {a : Ac} (h : acc[(k - 0).toNat]? = some a) : a ∈ acc := List.mem_of_getElem? h
theorem has_LK {K : Int → Bool} {acc : List Ac} (h : ∀ a ∈ acc, GoodA a) {a : Ac} (ha : GoodA a) (k : Int) (m : List Int) :
    hasX (qs K 0 acc) a k m = if (LK K (plA a) (k + 1) (0, 0, 0) 0 acc).1 = 0 then (rdX m (plA a) 4, 0) else ((LK K (plA a) (k + 1) (0, 0, 0) 0 acc).2.1, (LK K (plA a) (k + 1) (0, 0, 0) 0 acc).2.2) := by
  rw [← find_LK h (k + 1) ha]
  rfl
/-- A load is right: it has what it would have now. -/
def RightL (acc : List Ac) (m : List Int) (q : List S37) (h : List Int) (E : Int → S79) : Prop :=
  ∀ (k : Int) (a : Ac), 0 ≤ k → acc[(k - 0).toNat]? = some a → a.f0 = false → (E k).f4 = true → (E k).f2 = plA a ∧ (E k).f3 = 4 ∧ rd h k = (hasX q a k m).1 ∧ (E k).f6 = (hasX q a k m).2
structure InvE (acc : List Ac) (m : List Int) (i : Int) (q : List S37) (l : List S79) (h : List Int) : Prop where
  good : ∀ a ∈ acc, GoodA a
  la : acc.length ≤ 12
  lm : m.length = 64
  lh : h.length = acc.length
  ex : ∃ (K : Int → Bool) (E : Int → S79), q = qs K 0 acc ∧ l = ls E 0 acc ∧ (∀ k, (E k).f0 = k + 1) ∧ RightL acc m q h E ∧ i + 13 * uS K 0 acc + uL E 0 acc ≤ 156
theorem InvE.lq {acc : List Ac} {m : List Int} {i : Int} {q : List S37} {l : List S79} {h : List Int} (H : InvE acc m i q l h) : q.length ≤ 12 := by
  obtain ⟨K, E, rfl, _⟩ := H.ex
  exact Nat.le_trans (qs_len K acc 0) H.la
theorem InvE.ll {acc : List Ac} {m : List Int} {i : Int} {q : List S37} {l : List S79} {h : List Int} (H : InvE acc m i q l h) : l.length ≤ 12 := by
  obtain ⟨K, E, _, rfl, _⟩ := H.ex
  exact Nat.le_trans (ls_len E acc 0) H.la
theorem InvE.bound {acc : List Ac} {m : List Int} {i : Int} {q : List S37} {l : List S79} {h : List Int} (H : InvE acc m i q l h) : i ≤ 156 := by
  obtain ⟨K, E, _, _, _, _, hu⟩ := H.ex
  have := u_len K E acc 0
  omega
theorem inv_stores {acc : List Ac} {m : List Int} {i : Int} {q : List S37} {l : List S79} {h : List Int} (H : InvE acc m i q l h) {k : Int} (h0 : 0 ≤ k) (h1 : k < (acc.length : Int)) {a : Ac} (ha : rdA acc k = a) (hs : a.f0 = true) (hg : goneX q l a k = false) :
    InvE acc m (i + 1) (setX q ⟨k + 1, plA a, a.f2, 4, true⟩) (redo (earlyX l ⟨k + 1, plA a, a.f2, 4, true⟩) l) h := by
  obtain ⟨K, E, rfl, rfl, hE, hR, hu⟩ := H.ex
  have hn := nthA h0 h1
  rw [ha] at hn
  have hga : GoodA a := H.good a (inA hn)
  have hK : K k = false := by
    unfold goneX at hg
    rw [if_pos hs, known_qs K k a hs acc 0 h0 hn] at hg
    exact hg
  have hset : setX (qs K 0 acc) ⟨k + 1, plA a, a.f2, 4, true⟩ = qs (upd K k true) 0 acc := by
    rw [setX_R]
    exact set_qs K k a hs acc 0 h0 hn
  refine ⟨H.good, H.la, H.lm, H.lh, upd K k true, fun j => un0 (earlyX (ls E 0 acc) ⟨k + 1, plA a, a.f2, 4, true⟩) (E j), hset, redo_ls _ E acc, fun j => by rw [un0_f0]; exact hE j, ?_, ?_⟩
  · intro j b hj hb hbl h4
    obtain ⟨e4, eu, hb'⟩ := kept (l := ls E 0 acc) (fun e he => by obtain ⟨x, hx, rfl⟩ := mem_ls E acc 0 e he; rw [hE]; omega) (ls_mem E j b hbl acc 0 hj hb) h4
    obtain ⟨p2, p3, p4, p6⟩ := hR j b hj hb hbl e4
    have hgb : GoodA b := H.good b (inA hb)
    have heq : hasX (qs (upd K k true) 0 acc) b j m = hasX (qs K 0 acc) b j m := by
      rw [has_LK H.good hgb, has_LK H.good hgb]
      have hL : LK (upd K k true) (plA b) (j + 1) (0, 0, 0) 0 acc = LK K (plA b) (j + 1) (0, 0, 0) 0 acc := by
        refine LK_upd (plA b) (j + 1) hK acc 0 (0, 0, 0) h0 hn (Int.le_refl _) ?_
        by_cases c1 : j + 1 ≤ k + 1
        · exact Or.inl c1
        · by_cases c2 : plA a = plA b
          · refine Or.inr (Or.inr ?_)
            unfold earlyB at hb'
            have ua := al_plA hga
            have hov : ovB (plA b) 4 (plA a) 4 = true := by
              rw [ov_sz ⟨by omega, by omega⟩ ⟨by omega, by omega⟩ (Or.inr (Or.inr rfl)) (Or.inr (Or.inr rfl))]
              exact decide_eq_true (by omega)
            rw [e4, p2, p3, hE, show (⟨k + 1, plA a, a.f2, 4, true⟩ : S37).f0 = k + 1 from rfl, show (⟨k + 1, plA a, a.f2, 4, true⟩ : S37).f1 = plA a from rfl, show (⟨k + 1, plA a, a.f2, 4, true⟩ : S37).f3 = 4 from rfl, hov, decide_eq_true (show k + 1 < j + 1 by omega)] at hb'
            simp at hb'
            rw [p6, has_LK H.good hgb] at hb'
            by_cases c3 : (LK K (plA b) (j + 1) (0, 0, 0) 0 acc).1 = 0
            · rw [if_pos c3] at hb'
              exact absurd hb' (by show ¬ k + 1 ≤ (0 : Int); omega)
            · rw [if_neg c3] at hb'
              exact hb'
          · exact Or.inr (Or.inl c2)
      rw [hL]
    rw [hset, heq]
    show (un0 _ (E j)).f2 = _ ∧ (un0 _ (E j)).f3 = 4 ∧ _ ∧ (un0 _ (E j)).f6 = _
    rw [eu]
    exact ⟨p2, p3, p4, p6⟩
  · have g1 := uS_upd hK hs acc 0 h0 hn
    have g2 := u_len (upd K k true) (fun j => un0 (earlyX (ls E 0 acc) ⟨k + 1, plA a, a.f2, 4, true⟩) (E j)) acc 0
    have g3 := u_len K E acc 0
    have := H.la
    omega
theorem rd_set (h : List Int) (v : Int) {k j : Int} (h0 : 0 ≤ k) (h1 : k < (h.length : Int)) (hj : 0 ≤ j) : rd (h.set k.toNat v) j = if j = k then v else rd h j := by
  unfold rd
  rw [List.getD_eq_getElem?_getD, List.getD_eq_getElem?_getD, List.getElem?_set]
  by_cases c : j = k
  · subst c
    rw [if_pos rfl, if_pos rfl, if_pos (by omega)]
    rfl
  · rw [if_neg (by omega), if_neg c]
theorem inv_loads {acc : List Ac} {m : List Int} {i : Int} {q : List S37} {l : List S79} {h : List Int} (H : InvE acc m i q l h) {k : Int} (h0 : 0 ≤ k) (h1 : k < (acc.length : Int)) {a : Ac} (ha : rdA acc k = a) (hs : a.f0 = false) (hg : goneX q l a k = false) :
    InvE acc m (i + 1) q (setL l ⟨k + 1, 0, plA a, 4, true, true, (hasX q a k m).2, false⟩) (h.set k.toNat (hasX q a k m).1) := by
  obtain ⟨K, E, rfl, rfl, hE, hR, hu⟩ := H.ex
  have hn := nthA h0 h1
  rw [ha] at hn
  have hK : (E k).f4 = false := by
    unfold goneX at hg
    rw [if_neg (by rw [hs]; decide), known_ls E hE k a hs acc 0 h0 hn] at hg
    exact hg
  refine ⟨H.good, H.la, H.lm, by rw [List.length_set]; exact H.lh, K, upd E k ⟨k + 1, 0, plA a, 4, true, true, (hasX (qs K 0 acc) a k m).2, false⟩, rfl, ?_, ?_, ?_, ?_⟩
  · rw [setL_R]
    exact set_ls E hE k a _ hs acc 0 h0 hn
  · intro j
    by_cases c : j = k
    · subst c
      rw [upd_same]
    · rw [upd_ne E _ c]
      exact hE j
  · intro j b hj hb hbl h4
    rw [rd_set h _ h0 (by rw [H.lh]; exact h1) hj]
    by_cases c : j = k
    · subst c
      have e : b = a := by rw [hb] at hn; exact Option.some.inj hn
      subst e
      rw [upd_same, if_pos rfl]
      exact ⟨rfl, rfl, rfl, rfl⟩
    · rw [upd_ne E _ c] at h4 ⊢
      rw [if_neg c]
      exact hR j b hj hb hbl h4
  · have := uL_upd (e1 := ⟨k + 1, 0, plA a, 4, true, true, (hasX (qs K 0 acc) a k m).2, false⟩) hK rfl hs acc 0 h0 hn
    omega
/-- At the end each load has what the stores ahead of it left. -/
theorem inv_end {acc : List Ac} {m : List Int} {i : Int} {q : List S37} {l : List S79} {h : List Int} (H : InvE acc m i q l h) (hall : ∀ k : Int, 0 ≤ k → k < (acc.length : Int) → goneX q l (rdA acc k) k = true) {k : Int} (h0 : 0 ≤ k) (h1 : k < (acc.length : Int)) (hs : (rdA acc k).f0 = false) :
    rd h k = rdX (memX m (acc.take k.toNat)) (plA (rdA acc k)) 4 := by
  obtain ⟨K, E, rfl, rfl, hE, hR, hu⟩ := H.ex
  have hn := nthA h0 h1
  have hga : GoodA (rdA acc k) := H.good _ (inA hn)
  have h4 : (E k).f4 = true := by
    have hg := hall k h0 h1
    unfold goneX at hg
    rw [if_neg (by rw [hs]; decide), known_ls E hE k _ hs acc 0 h0 hn] at hg
    exact hg
  have hK : ∀ (j : Int) (a : Ac), 0 ≤ j → acc[(j - 0).toNat]? = some a → a.f0 = true → K j = true := by
    intro j a hj ha has
    have hlt : j < (acc.length : Int) := by
      have := (List.getElem?_eq_some_iff.1 ha).1
      omega
    have hg := hall j hj hlt
    have e : rdA acc j = a := Option.some.inj ((nthA hj hlt).symm.trans ha)
    unfold goneX at hg
    rw [e, if_pos has, known_qs K j a has acc 0 hj ha] at hg
    exact hg
  obtain ⟨_, _, p4, _⟩ := hR k _ h0 hn hs h4
  rw [p4]
  have hal := old_al (K := K) H.good (k + 1)
  have g := al_plA hga
  have hl := load_right H.lm (l := old (k + 1) (qs K 0 acc) []) (fun x hx => by
    obtain ⟨a0, a1, a2, a3, a4⟩ := hal x hx
    exact ⟨⟨Or.inr (Or.inr a0), a1, by rw [a0]; omega, Nat.le_refl _⟩, a4⟩) (plA_ok (rdA acc k))
  have h2 : (findX (plA (rdA acc k)) 4 (old (k + 1) (qs K 0 acc) [])).1 ≠ 2 := by
    rw [find_LK H.good (k + 1) hga]
    exact LK_two K _ _ acc 0 (0, 0, 0) (by decide)
  have he : replS m (old (k + 1) (qs K 0 acc) []).reverse = memX m (acc.take k.toNat) := by
    have := mem_all K k acc 0 m h0 (fun j a hj ha has => hK j a hj ha has)
    rw [Int.sub_zero] at this
    rw [← this]
    unfold old sqs
    simp [List.filter_reverse, List.map_reverse]
  rw [he] at hl
  rcases hl with hl | hl
  · exact absurd hl h2
  · rw [← hl]
    unfold hasX
    show (if _ then _ else _ : Int × Int).1 = _
    split <;> rfl
/-! The start. -/
def E0 (k : Int) : S79 := ⟨k + 1, 0, 0, 0, false, false, 0, false⟩
def K0 (_ : Int) : Bool := false
theorem inv_start0 {acc : List Ac} (hg : ∀ a ∈ acc, GoodA a) (hl : acc.length ≤ 12) {m : List Int} (hm : m.length = 64) : InvE acc m 0 (qs K0 0 acc) (ls E0 0 acc) (List.replicate acc.length 0) := by
  refine ⟨hg, hl, hm, by simp, K0, E0, rfl, rfl, fun _ => rfl, ?_, ?_⟩
  · intro k a _ _ _ h
    exact absurd (show false = true from h) (by decide)
  have := u_len K0 E0 acc 0
  omega
theorem qs_snoc (a : Ac) : ∀ (l : List Ac) (i : Int), qs K0 i (l ++ [a]) = qs K0 i l ++ (if a.f0 = true then [⟨i + l.length + 1, 0, 0, 0, false⟩] else [])
  | [], i => by
    show (if a.f0 = true then qe K0 i a :: [] else []) = _
    by_cases c : a.f0 = true
    · rw [if_pos c, if_pos c]
      have e : qe K0 i a = ⟨i + 1, 0, 0, 0, false⟩ := rfl
      rw [e]
      simp [qs]
    · rw [if_neg c, if_neg c]
      rfl
  | b :: r, i => by
    have ih := qs_snoc a r (i + 1)
    have e : i + 1 + (r.length : Int) + 1 = i + ((b :: r).length : Int) + 1 := by simp; omega
    rw [e] at ih
    rw [List.cons_append]
    unfold qs
    by_cases c : b.f0 = true
    · rw [if_pos c, if_pos c, ih]
      rfl
    · rw [if_neg c, if_neg c, ih]
theorem ls_snoc (a : Ac) : ∀ (l : List Ac) (i : Int), ls E0 i (l ++ [a]) = ls E0 i l ++ (if a.f0 = true then [] else [⟨i + l.length + 1, 0, 0, 0, false, false, 0, false⟩])
  | [], i => by
    show (if a.f0 = true then [] else E0 i :: []) = _
    by_cases c : a.f0 = true
    · rw [if_pos c, if_pos c]
      rfl
    · rw [if_neg c, if_neg c]
      have e : E0 i = ⟨i + 1, 0, 0, 0, false, false, 0, false⟩ := rfl
      rw [e]
      simp [ls]
  | b :: r, i => by
    have ih := ls_snoc a r (i + 1)
    have e : i + 1 + (r.length : Int) + 1 = i + ((b :: r).length : Int) + 1 := by simp; omega
    rw [e] at ih
    rw [List.cons_append]
    unfold ls
    by_cases c : b.f0 = true
    · rw [if_pos c, if_pos c, ih]
    · rw [if_neg c, if_neg c, ih]
      rfl
theorem takeA {acc : List Ac} {x : Int} (h0 : 0 ≤ x) (h1 : x < (acc.length : Int)) : acc.take (x + 1).toNat = acc.take x.toNat ++ [rdA acc x] := by
  have hk : x.toNat < acc.length := by omega
  rw [show (x + 1).toNat = x.toNat + 1 by omega, List.take_succ_eq_append_getElem hk]
  unfold rdA
  rw [List.getD_eq_getElem?_getD, List.getElem?_eq_getElem hk]
  rfl
/-- What the rounds of the first loop have built. -/
structure Built (acc : List Ac) (m : List Int) (x : Int) (flat want : List Int) (q : List S37) (l : List S79) : Prop where
  fl : flat = memX m (acc.take x.toNat)
  lw : (want.length : Int) = x
  hw : ∀ k : Int, 0 ≤ k → k < x → rd want k = rdX (memX m (acc.take k.toNat)) (plA (rdA acc k)) 4
  hq : q = qs K0 0 (acc.take x.toNat)
  hl : l = ls E0 0 (acc.take x.toNat)
theorem built_start (acc : List Ac) (m : List Int) : Built acc m 0 m [] [] [] := ⟨rfl, rfl, fun k h0 h1 => by omega, rfl, rfl⟩
theorem rd_snoc (l : List Int) (v : Int) {k : Int} (h0 : 0 ≤ k) : rd (l ++ [v]) k = if k = (l.length : Int) then v else rd l k := by
  unfold rd
  rw [List.getD_eq_getElem?_getD, List.getD_eq_getElem?_getD]
  by_cases c : k = (l.length : Int)
  · rw [if_pos c, List.getElem?_append_right (by omega), show k.toNat - l.length = 0 by omega]
    rfl
  · rw [if_neg c]
    by_cases c2 : k.toNat < l.length
    · rw [List.getElem?_append_left c2]
    · rw [List.getElem?_eq_none (by simp; omega), List.getElem?_eq_none (by omega)]
theorem built_want {acc : List Ac} {m : List Int} {x : Int} {flat want : List Int} {q : List S37} {l : List S79} (H : Built acc m x flat want q l) : ∀ k : Int, 0 ≤ k → k < x + 1 → rd (want ++ [rdX flat (plA (rdA acc x)) 4]) k = rdX (memX m (acc.take k.toNat)) (plA (rdA acc k)) 4 := by
  intro k h0 h1
  rw [rd_snoc _ _ h0, H.lw]
  by_cases c : k = x
  · rw [if_pos c, c, H.fl]
  · rw [if_neg c]
    exact H.hw k h0 (by omega)
theorem built_store {acc : List Ac} {m : List Int} {x : Int} {flat want : List Int} {q : List S37} {l : List S79} (H : Built acc m x flat want q l) (h0 : 0 ≤ x) (h1 : x < (acc.length : Int)) {a : Ac} (ha : rdA acc x = a) (hs : a.f0 = true) :
    Built acc m (x + 1) (wrX flat (plA a) 4 a.f2) (want ++ [rdX flat (plA a) 4]) (q ++ [⟨x + 1, 0, 0, 0, false⟩]) l := by
  have ht := takeA h0 h1
  have hln : (acc.take x.toNat).length = x.toNat := by rw [List.length_take]; omega
  refine ⟨?_, by simp; have := H.lw; omega, by rw [← ha]; exact built_want H, ?_, ?_⟩
  · rw [ht, memX_snoc, ← H.fl, ha]
    unfold stX
    rw [if_pos hs]
  · rw [ht, qs_snoc, ← H.hq, ha, if_pos hs, hln]
    rw [show (0 : Int) + ((x.toNat : Nat) : Int) + 1 = x + 1 by omega]
  · rw [ht, ls_snoc, ← H.hl, ha, if_pos hs, List.append_nil]
theorem built_load {acc : List Ac} {m : List Int} {x : Int} {flat want : List Int} {q : List S37} {l : List S79} (H : Built acc m x flat want q l) (h0 : 0 ≤ x) (h1 : x < (acc.length : Int)) {a : Ac} (ha : rdA acc x = a) (hs : a.f0 = false) :
    Built acc m (x + 1) flat (want ++ [rdX flat (plA a) 4]) q (l ++ [⟨x + 1, 0, 0, 0, false, false, 0, false⟩]) := by
  have ht := takeA h0 h1
  have hln : (acc.take x.toNat).length = x.toNat := by rw [List.length_take]; omega
  have hs' : ¬ a.f0 = true := by rw [hs]; decide
  refine ⟨?_, by simp; have := H.lw; omega, by rw [← ha]; exact built_want H, ?_, ?_⟩
  · rw [ht, memX_snoc, ← H.fl, ha]
    unfold stX
    rw [if_neg hs']
  · rw [ht, qs_snoc, ← H.hq, ha, if_neg hs', List.append_nil]
  · rw [ht, ls_snoc, ← H.hl, ha, if_neg hs', hln]
    rw [show (0 : Int) + ((x.toNat : Nat) : Int) + 1 = x + 1 by omega]
theorem Built.lens {acc : List Ac} {m : List Int} {x : Int} {flat want : List Int} {q : List S37} {l : List S79} (H : Built acc m x flat want q l) (hl : acc.length ≤ 12) (hm : m.length = 64) : flat.length = 64 ∧ q.length ≤ 12 ∧ l.length ≤ 12 := by
  have ht : (acc.take x.toNat).length ≤ 12 := by rw [List.length_take]; omega
  refine ⟨by rw [H.fl]; exact memX_len _ m hm, ?_, ?_⟩
  · rw [H.hq]; exact Nat.le_trans (qs_len _ _ _) ht
  · rw [H.hl]; exact Nat.le_trans (ls_len _ _ _) ht
theorem built_end {acc : List Ac} {m : List Int} {x : Int} {flat want : List Int} {q : List S37} {l : List S79} (H : Built acc m x flat want q l) (hx : x = (acc.length : Int)) (hg : ∀ a ∈ acc, GoodA a) (hl : acc.length ≤ 12) (hm : m.length = 64) : InvE acc m 0 q l (List.replicate acc.length 0) ∧ want.length = acc.length := by
  have h := H.hq
  have h2 := H.hl
  rw [hx, show ((acc.length : Int)).toNat = acc.length by omega, List.take_length] at h h2
  rw [h, h2]
  exact ⟨inv_start0 hg hl hm, by have := H.lw; omega⟩
/-! Who is left. -/
def lf (g : Int → Bool) : Nat → List Int
  | 0 => []
  | x + 1 => lf g x ++ (if g x = true then [] else [(x : Int)])
theorem lf_mem (g : Int → Bool) : ∀ (n : Nat) (k : Int), k ∈ lf g n → 0 ≤ k ∧ k < n ∧ g k = false
  | 0, k, h => by simp [lf] at h
  | x + 1, k, h => by
    unfold lf at h
    rcases List.mem_append.1 h with h | h
    · have := lf_mem g x k h
      exact ⟨this.1, by omega, this.2.2⟩
    · split at h
      · simp at h
      · rename_i c
        obtain rfl := List.mem_singleton.1 h
        exact ⟨by omega, by omega, by simpa using c⟩
theorem lf_nil (g : Int → Bool) : ∀ (n : Nat), lf g n = [] → ∀ k : Int, 0 ≤ k → k < n → g k = true
  | 0, _, k, h0, h1 => by omega
  | x + 1, h, k, h0, h1 => by
    unfold lf at h
    obtain ⟨h2, h3⟩ := List.append_eq_nil_iff.1 h
    by_cases c : k = (x : Int)
    · subst c
      split at h3
      · rename_i c; exact c
      · cases h3
    · exact lf_nil g x h2 k h0 (by omega)
theorem lf_len (g : Int → Bool) : ∀ n : Nat, (lf g n).length ≤ n
  | 0 => Nat.le_refl _
  | x + 1 => by
    have := lf_len g x
    unfold lf
    split <;> simp <;> omega
theorem lf_rd (g : Int → Bool) (n : Nat) {j : Int} (h0 : 0 ≤ j) (h1 : j < ((lf g n).length : Int)) : rd (lf g n) j ∈ lf g n := by
  have hk : j.toNat < (lf g n).length := by omega
  unfold rd
  rw [List.getD_eq_getElem?_getD, List.getElem?_eq_getElem hk]
  exact List.getElem_mem hk
end Go.Proofs.Ytmpnnppgppoliaa.Ea

namespace Go.Proofs.Ytmpnnppgppoliaa.Ea
open Go.Proofs.Ytmpnnppgppoliaa.Ld Go Go.Proofs Go.RowKit Go.Proofs.YtmpnnppgppoliaaW.PrintWords Go.Proofs.YtmpnnppgppoliaaW.PrintLast Go.Proofs.YtmpnnppgppoliaaW.PrintMore Go.Proofs.Ytmpnnppgppoliaa.Boxes Go.Proofs.Ytmpnnppgppoliaa.PFwd
attribute [local go_sem] max2_int min2_int max_two min_two max_three min_three max_four min_four   -- for this text's walks alone
set_option linter.unusedVariables false
set_option linter.unusedSimpArgs false

theorem info32 : (Try.prog.info? 32).map (fun i => (i.zero, i.size, i.bytes)) = some (some (.int .u32 0), 1, 4) := by kernel_rfl
theorem info3 : (Try.prog.info? 3).map (fun i => (i.zero, i.size, i.bytes)) = some (some (.int .i64 0), 1, 8) := by kernel_rfl
theorem St.add {w W w1 : World} {L : List Bx} {g t : Nat} {cs : Array Value} (h : St w W L) (hb : Below W.heap.size W w1) (hg : W.heap.size ≤ g) (hc : w1.heap[g]? = some (.cells cs t (0, 0))) : St w w1 (⟨g, cs, t⟩ :: L) := by
  refine ⟨below_step h.below hb, fun b hm => ?_, fun b hm => ?_, List.Pairwise.cons (fun b hm => ?_) h.dist⟩
  · rcases List.mem_cons.1 hm with rfl | hm
    · exact Nat.le_trans h.below.size hg
    · exact h.ge b hm
  · rcases List.mem_cons.1 hm with rfl | hm
    · exact hc
    · exact blk_below (h.heap b hm) hb
  · have := blk_lt (h.heap b hm)
    show g ≠ b.g
    omega
theorem St.drop2 {w W : World} {L : List Bx} {a b : Bx} (h : St w W (a :: b :: L)) : St w W (a :: L) :=
  ⟨h.below, fun c hc => h.ge c (by rcases List.mem_cons.1 hc with rfl | hc <;> simp [*]), fun c hc => h.heap c (by rcases List.mem_cons.1 hc with rfl | hc <;> simp [*]), by
    have h1 := List.pairwise_cons.1 h.dist
    have h2 := List.pairwise_cons.1 h1.2
    exact List.pairwise_cons.2 ⟨fun c hc => h1.1 c (by simp [hc]), h2.2⟩⟩
theorem St.over {α : Type} {d : Kd α} {e b' : Nat} {ok : Nat → Prop} {v : Value} {ys : List α} {w W w1 : World} {L : List Bx} (h : St w W L) (hv : d.R e W b' ok v ys) (hb : Below w.heap.size w w1) (hg : W.grownBy w1 v.ownBlock) (hn : ∀ b ∈ L, b.t = e → some b.g ≠ v.ownBlock) : St w w1 L := by
  obtain ⟨inner, ho⟩ := Kd.R_own hv
  refine ⟨hb, h.ge, fun b hm => ?_, h.dist⟩
  have hc := h.heap b hm
  rw [← hc]
  refine hg.block b.g (blk_lt hc) fun he => ?_
  by_cases c : b.t = e
  · exact hn b hm c he
  · obtain ⟨cells', hc'⟩ := own_typed ho b.g he.symm
    rw [hc] at hc'
    injection hc' with hc'
    injection hc' with _ hc'
    exact c hc'
/-- A row that lies in a block of its own is read there. -/
theorem cB {k : IntKind} {w : World} {g t : Nat} {cs : Array Value} {xs : List Int} (hg : w.heap[g]? = some (.cells cs t (0, 0))) (hx : cs.toList.take xs.length = xs.map (Value.int k)) (hl : xs.length ≤ 1000) : Kd.C (Kd.int k) w (some ⟨g, 0, none⟩) xs.length xs := by
  refine Kd.C_of_reads (d := 0) ⟨rfl, by omega, fun hp => ⟨_, rfl, fun j hj => ?_⟩⟩
  rw [add_plain, cell_of_row _ _ _ _ _ _ hg]
  have h1 : (cs.toList.take xs.length)[j]? = (xs.map (Value.int k))[j]? := by rw [hx]
  rw [List.getElem?_take, if_pos hj, List.getElem?_map, List.getElem?_eq_getElem hj, Array.getElem?_toList] at h1
  rw [h1]
  simp [rdOf, hj]
/-- A row of the call's own as a block. -/
theorem R_box {k : IntKind} {e : Nat} {w : World} {base n cap : Nat} {A : Option Addr} {ok : Nat → Prop} {xs : List Int} (h : Kd.R (Kd.int k) e w base ok (.slice A n cap) xs) (hp : 0 < xs.length) : ∃ g cs, A = some ⟨g, 0, none⟩ ∧ base ≤ g ∧ w.heap[g]? = some (.cells cs e (0, 0)) ∧ cs.toList.take xs.length = xs.map (Value.int k) := by
  have ho := Kd.own_of_R h
  obtain ⟨_, ⟨h1, _⟩ | ⟨g', cap', cur, h1, hb, h2, _, _, _, h3⟩⟩ := ho
  · injection h1 with e1 e2 e3
    have := (Kd.R_reads' h).1
    omega
  · injection h1 with e1 e2 e3
    exact ⟨g', cur, e1, hb, h2, by simpa [encs] using h3⟩
theorem made32 (n : Nat) : madeCells (Value.int .u32 0).cells (n * 1) = ((List.replicate n (0 : Int)).map (Value.int .u32)).toArray := by
  unfold madeCells
  apply Array.ext
  · simp
  · intro i h1 h2
    simp [Value.cells]
    rw [show i % 1 = 0 from Nat.mod_one i]
    rfl
theorem make_box {ops : Array Oper} {rest : List Oper} {o : Oper} {a : Act} {w : World} {Q : Exit → Act → World → Prop} (hgd : o.guard = none) (x y : Operand) (ho : o.op = .makeSlice 27 x y) {N : Tmp} (hN : o.dst = some N) (n : Nat) (h : List Int) (hh : List.replicate n (0 : Int) = h) (hx : a.eval x = .int .i64 (n : Int)) (hy : a.eval y = .int .i64 (n : Int)) (hn : n ≤ 1000)
    (hk : ∀ nh, nh = w.heap.size → ∀ w1, w1.heap[nh]? = some (.cells (h.map (Value.int .u32)).toArray 32 (0, 0)) → Below w.heap.size w w1 → wpList Try.prog ops Q rest (a.put (some N) (.slice (some ⟨nh, 0, none⟩) h.length n)) w1) : wpList Try.prog ops Q (o :: rest) a w := by
  obtain ⟨i0, hi, hzz⟩ := Option.map_eq_some_iff.1 info32
  simp only [Prod.mk.injEq] at hzz
  obtain ⟨hz0, hz1, hz2⟩ := hzz
  have hr := run_make (P := Try.prog) w 27 32 i0 (.int .u32 0) Try.underlying27 hi hz0 .i64 .i64 (n : Int) (n : Int) (by omega) (by omega) (by rw [hz2]; omega) (by omega)
  rw [Int.toNat_natCast, hz1, made32] at hr
  subst hh
  have hk1 := hk w.heap.size rfl _ (blk_new w _) (below_alloc (Below.refl _ _) _)
  rw [List.length_replicate] at hk1
  refine wpList_plain hgd fun K hK => ?_
  unfold Oper.wp
  rw [← hN] at hk1
  have h2 := hK _ _ hk1
  simp only [execOp, ho, hx, hy, Sem.run_bind, Sem.run_pure, hr, Result.andThen_ok]
  exact h2

set_option maxHeartbeats 8000000 in
set_option maxRecDepth 100000 in
theorem mwriteB (A0 : Option Addr) (c0 : Nat) (m : List Int) (a n v : Int) (ho : Okm m.length a n) (w : World) (hr0 : Kd.C (Kd.int .u8) w A0 m.length m) (hc0 : m.length ≤ c0) :
    Calls Try.prog 7 #[.slice A0 m.length c0, .int .u32 a, .int .i64 n, .int .u32 v] w fun e w' => (∃ g c cs, e = .returned (.tuple #[.slice (some ⟨g, 0, none⟩) (wrX m a n v).length c, .int .i64 0]) ∧ (wrX m a n v).length ≤ c ∧ w.heap.size ≤ g ∧ w'.heap[g]? = some (.cells cs 5 (0, 0)) ∧ cs.toList.take (wrX m a n v).length = (wrX m a n v).map (Value.int .u8)) ∧ Below w.heap.size w w' := by
  have HR0 := Aside0.mk hr0
  have HO := Aside0.mk ho
  have HB := Aside0.mk (Below.refl w.heap.size w)
  have hok := ho
  obtain ⟨h1, h2, h3, h4⟩ := hok
  have HN4 := Aside0.mk (show 1 ≤ n ∧ n ≤ 4 by omega)
  have HOK := Aside0.mk (show 0 ≤ a ∧ a.toNat + n.toNat ≤ m.length ∧ m.length ≤ 64 ∧ 1 ≤ n.toNat by omega)
  have b1 : 0 ≤ a := h2
  have b2 : a ≤ (m.length : Int) := by omega
  have hl := wrX_len v HO.out
  have HWL := Aside0.mk hl
  clear hr0 h1 h2 h3 h4 ho hl
  go_enter Try.func7, Try.ntmps7
  go_upto_region 5 with (first | (go_at_call 22; (with_reducible refine (check A0 c0 m.length a n HO.out _).mono ?_); rintro e_ w2 ⟨rfl, hB_⟩; have HB1 := Aside0.mk (below_step HB.out hB_); clear hB_) | (go_at_call 24; (with_reducible refine (clone8 A0 c0 m _ (Kd.C_below HR0.out HB1.out) (by have := HOK.out; omega) (by have := HOK.out; omega)).mono ?_); rintro e_ w3 ⟨vc, rfl, hR_, hB_⟩; have HB2 := Aside0.mk (below_step HB1.out hB_); have HOc := Aside0.mk (Kd.R_lower hR_ (below_size HB1.out)); obtain ⟨Ao, co, eo⟩ := Kd.R_slice HOc.out; subst eo; clear hR_ hB_))
  try go_wp2
  obtain ⟨go, cap, eo, gb, gl, cells, hG⟩ := Kd.R_form HOc.out (by have := HOK.out; omega)
  have hco := (Kd.R_reads' HOc.out).2.1
  injection eo with ea en ec
  subst ea
  clear en ec hG gl cap
  have GB := Aside0.mk gb
  have HCO := Aside0.mk hco
  have hne : ¬ co = a.toNat := by have := HOK.out; omega
  clear gb hco
  refine start_ (n := 7) (S := fun w_ => True) (ds := [5, 6]) #[false, false, false, false, false, false, false] (by kernel_rfl) rfl rfl (trivial) (fun hHeld => ?_)
  have HO10 := Aside0.mk (Kd.R_below HOc.out (below_drew (Below.refl _ _)))
  have HB10 := Aside0.mk (below_step HB2.out (below_drew (Below.refl _ _)))
  generalize World.drew _ = w10 at HO10 HB10 hHeld ⊢
  refine pure_ (i := 0) (N := some 21) (v := ?_) (a' := ?_) #[true, false, false, false, false, false, false] rfl rfl (by kernel_rfl) (fun _ _ _ h => h) (Or.inl ⟨by rfl, ?_⟩) ?_ ?_
  rotate_left
  · intro w'
    go_simp
    with_reducible rfl
  rotate_left
  · simp only [Act.put, List.setIfInBounds_toArray, List.set_cons_zero, List.set_cons_succ]
    rfl
  refine pure_ (i := 1) (N := some 22) (v := ?_) (a' := ?_) #[true, true, false, false, false, false, false] rfl rfl (by kernel_rfl) (fun _ _ _ h => h) (Or.inl ⟨by rfl, ?_⟩) ?_ ?_
  rotate_left
  · intro w'
    go_simp
    with_reducible rfl
  rotate_left
  · simp only [Act.put, List.setIfInBounds_toArray, List.set_cons_zero, List.set_cons_succ]
    rfl
  refine pure_ (i := 2) (N := some 23) (v := ?_) (a' := ?_) #[true, true, true, false, false, false, false] rfl rfl (by kernel_rfl) (fun _ _ _ h => h) (Or.inl ⟨by rfl, ?_⟩) ?_ ?_
  rotate_left
  · intro w'
    go_simp
    with_reducible rfl
  rotate_left
  · simp only [Act.put, List.setIfInBounds_toArray, List.set_cons_zero, List.set_cons_succ]
    rfl
  refine pure_ (i := 3) (N := some 24) (v := ?_) (a' := ?_) #[true, true, true, true, false, false, false] rfl rfl (by kernel_rfl) (fun _ _ _ h => h) (Or.inl ⟨by rfl, ?_⟩) ?_ ?_
  rotate_left
  · intro w'
    go_simp
    with_reducible rfl
  rotate_left
  · simp only [Act.put, List.setIfInBounds_toArray, List.set_cons_zero, List.set_cons_succ]
    rfl
  refine pure_ (i := 4) (N := some 25) (v := ?_) (a' := ?_) #[true, true, true, true, true, false, false] rfl rfl (by kernel_rfl) (fun _ _ _ h => h) (Or.inl ⟨by rfl, ?_⟩) ?_ ?_
  rotate_left
  · intro w'
    go_simp
    with_reducible rfl
  rotate_left
  · simp only [Act.put, List.setIfInBounds_toArray, List.set_cons_zero, List.set_cons_succ]
    rfl
  refine last_ (i := 5) (N := some 26) #[true, true, true, true, true, true, false] rfl rfl (by kernel_rfl) (by decide) (fun K hK => ?_)
  refine goes_ Try.func25 (by kernel_rfl) rfl #[.int .u32 v, .int .i64 n] rfl rfl rfl (by (try simp only [List.map_toArray, List.map_cons, List.map_nil]); first | done | rfl) ?_
  refine (byts v n (by have := HN4.out; omega) (by have := HN4.out; omega) _).mono ?_
  rintro e_ w11 ⟨vb, rfl, hR_, hB_⟩
  obtain ⟨Ab, cb, eb⟩ := Kd.R_slice hR_
  subst eb
  refine ⟨_, rfl, ?_⟩
  have HO11 := Aside0.mk (Kd.R_below HO10.out hB_)
  have HB11 := Aside0.mk (below_step HB10.out hB_)
  have HC11 := Aside0.mk (Kd.R_reads' hR_).2.2
  clear hR_ hB_
  refine hK.out _ _ ?_
  clear hK K
  simp only [Act.put, List.setIfInBounds_toArray, List.set_cons_zero, List.set_cons_succ]
  refine last_ (i := 6) (N := some 27) #[true, true, true, true, true, true, true] rfl rfl (by kernel_rfl) (by decide) (fun K hK => ?_)
  obtain ⟨cur, hcur, hct⟩ := own_cur HO11.out
  refine step_copy_splice rfl _ _ 23 23 rfl 5 Try.underlying23 (by kernel_rfl) (some ⟨go, a.toNat, none⟩) Ab (m.length - a.toNat) (co - a.toNat) (bytX v n).length cb rfl rfl go a.toNat cur 5 hcur ((bytX v n).map (Value.int .u8)) (by rw [List.length_map, bytX_len]; have := HOK.out; simp only [Nat.min_def]; split <;> omega) (fun hp_ => ⟨rfl, c_cells HC11.out (by simpa using hp_)⟩) (by have h_ := congrArg List.length hct; have := HOK.out; rw [List.length_map, bytX_len]; simp at h_; omega) (by simp [Value.oneCell']) w.heap.size w HB11.out GB.out ?_
  intro w12 hg_ hB_
  refine hK.out _ _ ?_
  clear hK K
  have HG12 := Aside0.mk hg_
  have HX12 := Aside0.mk (show _ = ((wrX m a n v).map (Value.int .u8)) from splice_take (bytX_len v n) (by have := HOK.out; omega) hct)
  have HB12 := Aside0.mk hB_
  clear hg_ hB_ hcur hct
  simp only [Act.put, List.setIfInBounds_toArray, List.set_cons_zero, List.set_cons_succ]
  refine done_ (by kernel_rfl) ?_
  go_wp2
  go_ret2
  exact ⟨⟨go, co, _, by first | rfl | (rw [HWL.out]; rfl) | (simp [HWL.out]; done), by rw [HWL.out]; exact HCO.out, GB.out, (show _ = _ from HG12.out), by rw [HWL.out]; exact HX12.out⟩, HB12.out⟩


theorem cWriteB {a n v : Int} {m f2 : List Int} {A3 : Option Addr} {c3 : Nat} {w : World} (ho : Okm m.length a n) (h : wrX m a n v = f2) (hC : Kd.C (Kd.int .u8) w A3 m.length m) (hc : m.length ≤ c3) :
    Calls Try.prog 7 #[.slice A3 m.length c3, .int .u32 a, .int .i64 n, .int .u32 v] w fun e w' => ∃ g c cs, e = .returned (.tuple #[.slice (some ⟨g, 0, none⟩) f2.length c, .int .i64 0]) ∧ f2.length ≤ c ∧ w.heap.size ≤ g ∧ w'.heap[g]? = some (.cells cs 5 (0, 0)) ∧ cs.toList.take f2.length = f2.map (Value.int .u8) ∧ Below w.heap.size w w' := by
  subst h
  exact (mwriteB A3 c3 m a n v ho w hC hc).mono fun e w' ⟨⟨g, c, cs, h1, h2, h3, h4, h5⟩, h6⟩ => ⟨g, c, cs, h1, h2, h3, h4, h5, h6⟩
theorem cPutQ {q q1 : List S37} {s : Int} {A : Option Addr} {c : Nat} {w : World} (hl : q.length ≤ 12) (h1 : q ++ [⟨s, 0, 0, 0, false⟩] = q1) (hC : Kd.C k37 w A q.length q) :
    Calls Try.prog 8 #[.slice A q.length c, .int .u64 s, .int .i64 16] w fun e w' => ∃ A c, e = .returned (.tuple #[.slice A q1.length c, .bool true]) ∧ Kd.R k37 56 w' w.heap.size (fun _ => True) (.slice A q1.length c) q1 ∧ Below w.heap.size w w' := by
  subst h1
  refine (sqPut A c q s 16 w hC (by omega) (by omega)).mono ?_
  rintro e w' ⟨⟨r, rfl, hR⟩, hB⟩
  obtain ⟨A, c, rfl⟩ := Kd.R_slice hR
  exact ⟨A, c, rfl, hR, hB⟩
theorem cPutL {l l1 : List S79} {s : Int} {A : Option Addr} {c : Nat} {w : World} (hl : l.length ≤ 12) (h1 : l ++ [⟨s, 0, 0, 0, false, false, 0, false⟩] = l1) (hC : Kd.C k79 w A l.length l) :
    Calls Try.prog 9 #[.slice A l.length c, .int .u64 s, .int .u32 0, .int .i64 16] w fun e w' => ∃ A c, e = .returned (.tuple #[.slice A l1.length c, .bool true]) ∧ Kd.R k79 79 w' w.heap.size (fun _ => True) (.slice A l1.length c) l1 ∧ Below w.heap.size w w' := by
  subst h1
  refine (lqPut A c l s 16 w hC (by omega) (by omega)).mono ?_
  rintro e w' ⟨⟨r, rfl, hR⟩, hB⟩
  obtain ⟨A, c, rfl⟩ := Kd.R_slice hR
  exact ⟨A, c, rfl, hR, hB⟩

end Go.Proofs.Ytmpnnppgppoliaa.Ea

namespace Go.Proofs.Ytmpnnppgppoliaa.Ea
open Go.Proofs.Ytmpnnppgppoliaa.Ld Go Go.Proofs Go.RowKit Go.Proofs.YtmpnnppgppoliaaW.PrintWords Go.Proofs.YtmpnnppgppoliaaW.PrintLast Go.Proofs.YtmpnnppgppoliaaW.PrintMore Go.Proofs.Ytmpnnppgppoliaa.Boxes Go.Proofs.Ytmpnnppgppoliaa.PFwd
attribute [local go_sem] max2_int min2_int max_two min_two max_three min_three max_four min_four   -- for this text's walks alone
set_option linter.unusedVariables false
set_option linter.unusedSimpArgs false

variable {w0 w w1 : World} {g nh cq cl ch : Nat} {Aq Al : Option Addr} {q : List S37} {l : List S79} {h : List Int} {L : List Bx} {b0 : Bool} {b1 b2 k : Int}
theorem ES.call (hE : ES w0 w g nh Aq Al cq cl ch q l h L) (hB : Below w.heap.size w w1) : ES w0 w1 g nh Aq Al cq cl ch q l h L := ⟨hE.st.call hB, Kd.R_below hE.rq hB, Kd.R_below hE.rl hB⟩
theorem ES.over {ok : Nat → Prop} {v : Value} {ys : List Int} {b' : Nat} (hE : ES w0 w g nh Aq Al cq cl ch q l h L) (hL : ∀ b ∈ L, b.t ≠ 79 ∧ b.t ≠ 3) (hv : Kd.R (Kd.int .i64) 3 w b' ok v ys) (hb : Below w0.heap.size w0 w1) (hg : w.grownBy w1 v.ownBlock) : ES w0 w1 g nh Aq Al cq cl ch q l h L :=
  ⟨St.over hE.st hv hb hg (by
      intro b hb ht
      rcases List.mem_cons.1 hb with rfl | hb
      · exact absurd ht (by simp)
      · rcases List.mem_cons.1 hb with rfl | hb
        · exact absurd ht (by simp)
        · exact absurd ht (hL b hb).2), Kd.R_over hE.rq hv (by simp [k37_E]) hg, Kd.R_over hE.rl hv (by simp [k79_E]) hg⟩
theorem cGone {r : Bool} (hE : ES w0 w g nh Aq Al cq cl ch q l h L) (hk : 0 ≤ k ∧ k ≤ 1000) (hq : q.length ≤ 12) (hl : l.length ≤ 12) (hr : goneX q l ⟨b0, b1, b2⟩ k = r) :
    Calls Try.prog 10 #[.pointer (some ⟨g, 0, none⟩), .agg #[.bool b0, .int .u8 b1, .int .u32 b2], .int .i64 k] w fun e_ w' => e_ = .returned (.bool r) ∧ Below w.heap.size w w' := by
  subst hr
  exact goneW ⟨b0, b1, b2⟩ k hk g q l Aq Al cq cl _ w (hE.st.heap ⟨g, #[.slice Aq q.length cq, .slice Al l.length cl, .slice (some ⟨nh, 0, none⟩) h.length ch], 31⟩ (by simp)) (Kd.R_reads' hE.rq).2.2 (Kd.R_reads' hE.rl).2.2 (by omega) (by omega)
theorem cStores {q1 : List S37} {l1 : List S79} (hE : ES w0 w g nh Aq Al cq cl ch q l h L) (hL : ∀ b ∈ L, b.t ≠ 79 ∧ b.t ≠ 3) (hk : 0 ≤ k ∧ k ≤ 1000) (hb1 : 0 ≤ b1) (hq : q.length ≤ 12) (hl : l.length ≤ 12) (h1 : setX q ⟨k + 1, plA ⟨true, b1, b2⟩, b2, 4, true⟩ = q1) (h2 : redo (earlyX l ⟨k + 1, plA ⟨true, b1, b2⟩, b2, 4, true⟩) l = l1) :
    Calls Try.prog 11 #[.pointer (some ⟨g, 0, none⟩), .agg #[.bool true, .int .u8 b1, .int .u32 b2], .int .i64 k] w fun e_ w' => e_ = .returned (.tuple #[]) ∧ ∃ Aq' cq', ES w0 w' g nh Aq' Al cq' cl ch q1 l1 h L := by
  subst h1
  subst h2
  exact storesW ⟨true, b1, b2⟩ hb1 k w0 w g nh Aq Al cq cl ch q l h L hE (fun b hb => (hL b hb).1) hk (by omega) (by omega)
theorem cLoads {l1 : List S79} {h1 m : List Int} {Ap : Option Addr} {cp : Nat} (hE : ES w0 w g nh Aq Al cq cl ch q l h L) (hk : 0 ≤ k ∧ k < (h.length : Int) ∧ k ≤ 1000) (hb1 : 0 ≤ b1) (hl : l.length ≤ 12) (hm : m.length = 64) (hmc : m.length ≤ cp) (hC : Kd.C (Kd.int .u8) w Ap m.length m) (e1 : setL l ⟨k + 1, 0, plA ⟨false, b1, b2⟩, 4, true, true, (hasX q ⟨false, b1, b2⟩ k m).2, false⟩ = l1) (e2 : h.set k.toNat (hasX q ⟨false, b1, b2⟩ k m).1 = h1) :
    Calls Try.prog 12 #[.pointer (some ⟨g, 0, none⟩), .agg #[.bool false, .int .u8 b1, .int .u32 b2], .int .i64 k, .slice Ap m.length cp] w fun e_ w' => e_ = .returned (.tuple #[]) ∧ ∃ Al' cl', ES w0 w' g nh Aq Al' cq cl' ch q l1 h1 L := by
  subst e1
  subst e2
  exact loadsW ⟨false, b1, b2⟩ hb1 k w0 w g nh Aq Al Ap cq cl ch cp q l h m L hE hk (by omega) hm hmc hC
theorem St.with {W : World} {gw t : Nat} {cs : Array Value} (H : St w0 W L) (hg : w0.heap.size ≤ gw) (hc : W.heap[gw]? = some (.cells cs t (0, 0))) (hn : ∀ b ∈ L, b.g ≠ gw) : St w0 W (⟨gw, cs, t⟩ :: L) :=
  ⟨H.below, fun b hb => by
    rcases List.mem_cons.1 hb with rfl | hb
    · exact hg
    · exact H.ge b hb, fun b hb => by
    rcases List.mem_cons.1 hb with rfl | hb
    · exact hc
    · exact H.heap b hb, List.pairwise_cons.2 ⟨fun b hb => (hn b hb).symm, H.dist⟩⟩
theorem St.ord {W : World} {a b c d e : Bx} (h : St w0 W [a, b, c, d, e]) : St w0 W [c, d, a, e] :=
  ⟨h.below, fun x hx => h.ge x (by simp at hx ⊢; rcases hx with rfl | rfl | rfl | rfl <;> simp), fun x hx => h.heap x (by simp at hx ⊢; rcases hx with rfl | rfl | rfl | rfl <;> simp), by
    have hd := h.dist
    simp [List.pairwise_cons] at hd ⊢
    omega⟩
theorem cNil {k : IntKind} {w : World} {A : Option Addr} : Kd.C (Kd.int k) w A ([] : List Int).length [] :=
  Kd.C_of_reads (d := 0) ⟨rfl, by simp, fun hp => absurd hp (by simp)⟩
/-- What the loads' rounds read beside: variables of their own. -/
theorem wantL {W : World} {gf g nh gp c10 : Nat} {cf_ gcs hcs cp_ : Array Value} {A10 : Option Addr} {want mm : List Int} (hS : St w0 W [⟨gf, cf_, 5⟩, ⟨g, gcs, 31⟩, ⟨nh, hcs, 32⟩, ⟨gp, cp_, 5⟩]) (hW : Kd.R (Kd.int .u32) 32 W w0.heap.size (fun _ => True) (.slice A10 want.length c10) want) (hN : some nh ≠ (Value.slice A10 want.length c10).ownBlock) (hp : cp_.toList.take mm.length = mm.map (Value.int .u8)) (hmm : mm.length = 64) (hwl : want.length ≤ 1000) :
    ∃ L : List Bx, (∀ b ∈ L, b.t ≠ 79 ∧ b.t ≠ 3) ∧ (∀ W' : World, (∀ b ∈ L, W'.heap[b.g]? = some (.cells b.cs b.t (0, 0))) → Kd.C (Kd.int .u8) W' (some ⟨gp, 0, none⟩) mm.length mm ∧ Kd.C (Kd.int .u32) W' A10 want.length want) ∧ St w0 W (⟨g, gcs, 31⟩ :: ⟨nh, hcs, 32⟩ :: L) := by
  rcases Nat.eq_zero_or_pos want.length with h0 | h0
  · obtain rfl : want = [] := List.eq_nil_of_length_eq_zero h0
    exact ⟨[⟨gp, cp_, 5⟩], by simp, fun W' hW' => ⟨cB (hW' ⟨gp, cp_, 5⟩ (by simp)) hp (by omega), cNil⟩, hS.tail⟩
  · obtain ⟨gw, cw, rfl, hb, hc, hx⟩ := R_box hW h0
    have hne : ∀ b ∈ [(⟨gf, cf_, 5⟩ : Bx), ⟨g, gcs, 31⟩, ⟨nh, hcs, 32⟩, ⟨gp, cp_, 5⟩], b.g ≠ gw := by
      intro b hb' e
      by_cases ht : b.t = 32
      · simp at hb'
        rcases hb' with rfl | rfl | rfl | rfl
        · exact absurd ht (by simp)
        · exact absurd ht (by simp)
        · exact hN (by simp [Value.ownBlock]; exact e)
        · exact absurd ht (by simp)
      · have h1 := hS.heap b hb'
        rw [e, hc] at h1
        injection h1 with h1
        injection h1 with _ h1
        exact ht h1.symm
    have h2 := St.ord (St.with hS hb hc hne)
    exact ⟨[⟨gw, cw, 32⟩, ⟨gp, cp_, 5⟩], by simp, fun W' hW' => ⟨cB (hW' ⟨gp, cp_, 5⟩ (by simp)) hp (by omega), cB (hW' ⟨gw, cw, 32⟩ (by simp)) hx hwl⟩, h2⟩

end Go.Proofs.Ytmpnnppgppoliaa.Ea
