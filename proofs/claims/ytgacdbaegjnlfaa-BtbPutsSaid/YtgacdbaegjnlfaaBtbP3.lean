/- The pure statement of BtbPuts: plain lemmas, no program. The conditions are those that each names. -/
import Derived.Test.YtgacdbaegjnlfaaBtbQ2
import Derived.Test.YtgacdbaegjnlfaaPBtbxP
namespace Go.Proofs.Ytgacdbaegjnlfaa.PBtb
set_option linter.unusedVariables false
set_option linter.unusedSimpArgs false
open Go Go.Proofs Go.RowKit Go.Proofs.YtgacdbaegjnlfaaW.PrintWords Go.Proofs.Ytgacdbaegjnlfaa.Plain
theorem within_any (n h : Int) (h0 : 0 ≤ h) : cotterelref19_within.f n 0 h = some (mn (mx n 0) h) := by
  unfold cotterelref19_within.f mn mx
  (repeat' split) <;> first | rfl | (exfalso; omega) | (congr 1; omega)
theorem rput_is (l : List S26) (n : Int) (e : S26) (hl : (l.length : Int) ≤ 1000) (hp : 0 < l.length) (he : ok e = true) : Ev (fun k => cotterelref19_Put.f k l n e.f0 e.f1 e.f2) (putX l n e) := by
  have hb := clampN_b n l.length (by omega)
  have hc : cotterelref19_within.f n 0 (wrap64 ((l.length : Int) - 1)) = some (clampN n l.length) := by rw [w64 (by omega) (by omega), within_any _ _ (by omega)]; rfl
  have hlt := atX_lt l e.f0
  unfold cotterelref19_Put.f
  refine yes (by omega) (yes (by omega) (Ev.bind (a := l) (Ev.now _) ?_))
  rw [is_is, show okK e.f2 = true from he]
  refine Ev.bind (Ev.now _) (yes rfl ?_)
  rw [show ((l.length : Int) == 0) = false by simp; intro h; simp [h] at hp]
  refine Ev.step (f := fun k => (some (clampN n l.length)).bind fun m => (cotterelref19_at.f k l e.f0).bind fun i => if i ≥ 0 then (if 0 ≤ i then (if i < (l.length : Int) then some (l.set i.toNat e, m) else none) else none) else (if 0 ≤ m then (if m < (l.length : Int) then (if (l.length : Int) = 0 then none else some (l.set m.toNat e, Int.tmod (wrap64 (m + 1)) (l.length : Int))) else none) else none)) (fun k => by
    simp only [cotterelref19_Put.j0, Bool.false_eq_true, if_false]
    rw [hc]) ?_
  refine Ev.bind (Ev.now _) (Ev.bind (rat_is l e.f0 (by omega)) ?_)
  by_cases c : 0 ≤ atX l e.f0
  · rw [show putX l n e = (l.set (atX l e.f0).toNat e, clampN n l.length) from if_pos c]
    exact yes c (yes c (yes hlt (Ev.now _)))
  · rw [show putX l n e = (l.set (clampN n l.length).toNat e, (clampN n l.length + 1) % l.length) from if_neg c]
    refine no c (yes hb.1 (yes hb.2 (no (by omega) ?_)))
    rw [w64 (by omega) (by omega), Int.tmod_eq_emod_of_nonneg (by omega)]
    exact Ev.now _
theorem put_no (l : List S26) (n : Int) (e : S26) (h : ok e = false ∨ l.length = 0) : Ev (fun k => btb_Put.f k l n e.f0 e.f1 e.f2) (l, n) := by
  have last : Ev (fun k => btb_Put.j0 k l n true e.f0 e.f1 e.f2) (l, n) := Ev.step (f := fun _ => some (l, n)) (fun k => by simp only [btb_Put.j0, if_true]) (Ev.now _)
  unfold btb_Put.f
  rw [there_is]
  cases c : okK e.f2 with
  | false => exact Ev.bind (Ev.now _) (no (by decide) last)
  | true =>
    refine Ev.bind (Ev.now _) (yes rfl ?_)
    have : l.length = 0 := by
      rcases h with h | h
      · rw [show ok e = true from c] at h; cases h
      · exact h
    rw [show ((l.length : Int) == 0) = true by simp [this]]
    exact last
theorem rput_no (l : List S26) (n : Int) (e : S26) (hl : (l.length : Int) ≤ 1000) (h : ok e = false ∨ l.length = 0) : Ev (fun k => cotterelref19_Put.f k l n e.f0 e.f1 e.f2) (l, n) := by
  have last : Ev (fun k => cotterelref19_Put.j0 k l n l true e.f0 e.f1 e.f2) (l, n) := Ev.step (f := fun _ => some (l, n)) (fun k => by simp only [cotterelref19_Put.j0, if_true]) (Ev.now _)
  unfold cotterelref19_Put.f
  refine yes (by omega) (yes (by omega) (Ev.bind (a := l) (Ev.now _) ?_))
  rw [is_is]
  cases c : okK e.f2 with
  | false => exact Ev.bind (Ev.now _) (no (by decide) last)
  | true =>
    refine Ev.bind (Ev.now _) (yes rfl ?_)
    have : l.length = 0 := by
      rcases h with h | h
      · rw [show ok e = true from c] at h; cases h
      · exact h
    rw [show ((l.length : Int) == 0) = true by simp [this]]
    exact last
theorem putX_len (l : List S26) (n : Int) (e : S26) : (putX l n e).1.length = l.length := by
  unfold putX
  split <;> simp
theorem puts_pure (l : List S26) (n a b c : Int) : ∃ k, cotterellaw19_BtbPuts.f k l n a b c = some true := by
  refine Ev.rounds ?_
  unfold cotterellaw19_BtbPuts.f
  by_cases c0 : (l.length : Int) > 40
  · exact yes c0 awake_is
  · refine no c0 ?_
    by_cases h : ok (⟨a, b, c⟩ : S26) = false ∨ l.length = 0
    · exact Ev.bind (put_no l n ⟨a, b, c⟩ h) (Ev.bind (rput_no l n ⟨a, b, c⟩ (by omega) h) (Ev.bind (same_is l (by omega)) (yes rfl (yes rfl awake_is))))
    · have h1 : ok (⟨a, b, c⟩ : S26) = true := by
        cases q : ok (⟨a, b, c⟩ : S26) with
        | true => rfl
        | false => exact absurd (.inl q) h
      have h2 : 0 < l.length := Nat.pos_of_ne_zero fun q => h (.inr q)
      have hlen := putX_len l n ⟨a, b, c⟩
      exact Ev.bind (put_is l n ⟨a, b, c⟩ (by omega) h2 h1) (Ev.bind (rput_is l n ⟨a, b, c⟩ (by omega) h2 h1) (Ev.bind (same_is _ (by omega)) (yes rfl (yes rfl awake_is))))
end Go.Proofs.Ytgacdbaegjnlfaa.PBtb
