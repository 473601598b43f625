/- What btb.Put comes to: plain lemmas, no program. The conditions are those that each names. -/
import Derived.Test.YtgacdbaegjnlfaaBtbQ1
namespace Go.Proofs.Ytgacdbaegjnlfaa.PBtb
set_option linter.unusedVariables false
set_option linter.unusedSimpArgs false
open Go Go.Proofs Go.RowKit Go.Proofs.YtgacdbaegjnlfaaW.PrintWords Go.Proofs.Ytgacdbaegjnlfaa.Plain
def clampN (n : Int) (m : Int) : Int := mn (mx n 0) (m - 1)
theorem clampN_b (n m : Int) (h : 0 < m) : 0 ≤ clampN n m ∧ clampN n m < m := by
  unfold clampN mn mx
  constructor <;> (repeat' split) <;> omega
theorem clampN_id (n m : Int) (h0 : 0 ≤ n) (h : n < m) : clampN n m = n := by
  unfold clampN mn mx
  (repeat' split) <;> omega
def putX (l : List S26) (n : Int) (e : S26) : List S26 × Int :=
  if 0 ≤ atX l e.f0 then (l.set (atX l e.f0).toNat e, clampN n l.length) else (l.set (clampN n l.length).toNat e, (clampN n l.length + 1) % l.length)
theorem put_is (l : List S26) (n : Int) (e : S26) (hl : (l.length : Int) ≤ 1000) (hp : 0 < l.length) (he : ok e = true) : Ev (fun k => btb_Put.f k l n e.f0 e.f1 e.f2) (putX l n e) := by
  have hb := clampN_b n l.length (by omega)
  have hc : mn (mx n 0) (wrap64 ((l.length : Int) - 1)) = clampN n l.length := by rw [w64 (by omega) (by omega)]; rfl
  have hlt := atX_lt l e.f0
  unfold btb_Put.f
  rw [there_is, show okK e.f2 = true from he]
  refine Ev.bind (Ev.now _) (yes rfl ?_)
  rw [show ((l.length : Int) == 0) = false by simp; intro h; simp [h] at hp]
  refine Ev.step (f := fun k => (some (List.replicate ((l.length : Int)).toNat z26 : List S26)).bind fun y => (btb_dup.f k y l).bind fun t => (btb_at.f k l e.f0).bind fun i => if i ≥ 0 then (if 0 ≤ i then (if i < (y.length : Int) then some (t.set i.toNat e, clampN n l.length) else none) else none) else (if 0 ≤ clampN n l.length then (if clampN n l.length < (y.length : Int) then (if (l.length : Int) = 0 then none else some (t.set (clampN n l.length).toNat e, Int.tmod (wrap64 (clampN n l.length + 1)) (l.length : Int))) else none) else none)) (fun k => by
    simp only [btb_Put.j0, Bool.false_eq_true, if_false]
    rw [if_pos (by omega), if_pos (by omega), hc]) ?_
  refine Ev.bind (Ev.now _) (Ev.bind (a := l) (Ev.now _) (Ev.bind (at_is l e.f0 (by omega)) ?_))
  have hr : ((List.replicate ((l.length : Int)).toNat z26).length : Int) = l.length := by rw [List.length_replicate]; omega
  rw [hr]
  by_cases c : 0 ≤ atX l e.f0
  · rw [show putX l n e = (l.set (atX l e.f0).toNat e, clampN n l.length) from if_pos c]
    exact yes c (yes c (yes hlt (Ev.now _)))
  · rw [show putX l n e = (l.set (clampN n l.length).toNat e, (clampN n l.length + 1) % l.length) from if_neg c]
    refine no c (yes hb.1 (yes hb.2 (no (by omega) ?_)))
    rw [w64 (by omega) (by omega), Int.tmod_eq_emod_of_nonneg (by omega)]
    exact Ev.now _
end Go.Proofs.Ytgacdbaegjnlfaa.PBtb
