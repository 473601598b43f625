/- A region in the order of the text, over variables in memory that stay as they are: the same walk serves as for a region that draws. Plain lemmas, no condition. -/
import Derived.Test.YtmpnnppgppoliaaBoxes
namespace Go.Proofs.Ytmpnnppgppoliaa.Boxes
open Go Go.Proofs Go.RowKit Go.Proofs.YtmpnnppgppoliaaW.PrintWords
section
variable {P : Program} {w W : World} {L : List Bx} {ops : Array Oper} {C : World → Prop}
theorem wpList_of_quiet {Q : Act → Prop} {Q' : Exit → Act → World → Prop} (hQ : ∀ a w, C w → Q a → Q' .normal a w) : ∀ (l : List Oper) (a : Act) (w : World), C w → wpQuiet P ops C Q l a → wpList P ops Q' l a w
  | [], a, w, hw, h => hQ a w hw h
  | o :: rest, a, w, hw, h => by
    unfold wpQuiet at h
    unfold wpList
    split
    · rename_i hg
      rw [if_pos hg] at h
      exact .inl (Oper.wp_of_quiet hw (fun a' w' hw' h' => wpList_of_quiet hQ rest a' w' hw' h') h)
    · rename_i hg
      rw [if_neg hg] at h
      exact wpList_of_quiet hQ rest _ w hw h
theorem wp_region_st0 {id : Nat} {a : Act} {Q : Exit → Act → World → Prop} {l : List Oper} (S : St w W L)
    (h : wpQuiet P l.toArray (fun W' => ∃ x : Cls w L, W' = x.W) (fun a' => ∀ x : Cls w L, Q .normal a' x.W) l a) : (Code.region id l.toArray false).wp P Q a W :=
  wp_region_lit (wpList_of_quiet (C := fun W' => ∃ x : Cls w L, W' = x.W) (fun _ _ ⟨x, e⟩ hq => e ▸ hq x) l a W ⟨⟨W, S⟩, rfl⟩ h)
theorem run_loadVar_cell (P : Program) (W : World) (g j : Nat) (ty : TypeId) (u : Value) (d : TypeDesc) (hc : W.cell? ⟨g, j, none⟩ = some u) (hu : P.underlying ty = some d) (hd : (match d with | .struct _ | .array _ _ => true | _ => false) = false) :
    (loadVar ty ⟨g, j, none⟩).run P W = .ok u W := by
  have hagg : (isAgg ty).run P W = .ok false W := by
    unfold isAgg
    rw [Sem.run_bind, run_underlying hu W]
    cases d <;> simp_all
  simp [loadVar, Sem.run_bind, hagg, run_load, hc]
theorem quiet_cell {a : Act} {o : Oper} {K : Act → Prop} (ty : TypeId) (x : Operand) (ho : o.op = .load ty x) (g j : Nat) (hx : a.eval x = .pointer (some ⟨g, j, none⟩)) (u : Value) (d : TypeDesc)
    (hc : ∀ x : Cls w L, x.W.cell? ⟨g, j, none⟩ = some u) (hu : P.underlying ty = some d) (hd : (match d with | .struct _ | .array _ _ => true | _ => false) = false)
    (h : K (a.put o.dst u)) : o.quiet P a (fun W' => ∃ x : Cls w L, W' = x.W) K := by
  refine ⟨_, fun V hV => ?_, h⟩
  obtain ⟨x0, rfl⟩ := hV
  unfold Oper.quietAt execOp
  simp only [ho, hx, Instr.loadAt, Instr.sureAddr, Sem.run_bind, Sem.run_pure, Result.andThen_ok, run_loadVar_cell P x0.W g j ty u d (hc x0) hu hd]
  exact ⟨rfl, rfl⟩
end
end Go.Proofs.Ytmpnnppgppoliaa.Boxes
