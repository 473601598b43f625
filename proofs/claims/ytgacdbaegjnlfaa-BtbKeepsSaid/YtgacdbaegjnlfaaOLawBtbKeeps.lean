/- The row of BtbKeeps: for every input the call returns true and leaves all as it was. No condition. -/
import Derived.Test.YtgacdbaegjnlfaaRows
import Derived.Test.YtgacdbaegjnlfaaBtbP2
import Derived.Test.YtgacdbaegjnlfaaOpen
import Derived.WalkKit
import Derived.ProofKit
import Derived.OpenShut
import Derived.ShutString
import Derived.ChangeOld
import Derived.Below
import Derived.SizedLaws
namespace Go.Proofs.Ytgacdbaegjnlfaa.btbKeeps
open Go.ChangeShapes Go.WideShapes Go.ChangeAt Go.RowKit
open Go.Proofs.Ytgacdbaegjnlfaa.Open Go.Proofs.Ytgacdbaegjnlfaa.PBtb Go.Proofs.YtgacdbaegjnlfaaW.PrintWords
set_option linter.unusedVariables false
theorem own : ownKnob Try.prog.godebug = none := by kernel_rfl
theorem laidOut : laidOutB Try.prog = true := by kernel_rfl
def G26 (s : S26) : Prop := True
theorem dec26 {H : Type} {enc : TypeId × Value → H} {w : World} {base : Nat} {spare : Nat → Bool} {held : Bool} (W : World) (n : Nat) (cs : List Value) (x : DataW H × List MemPlace) (hl : cs.length = 3) (h : DataW.trod enc Try.prog w base spare held n 26 cs = some x) : ∃ p, k26.K W p cs ∧ G26 p := by
  obtain ⟨c0, e0, o0⟩ := leaves_get 3 26 [23, 23, 3] n cs x (by kernel_rfl) h 0 23 rfl
  obtain ⟨p0, rfl, w0⟩ := leaf_int Try.underlying23 o0
  obtain ⟨c1, e1, o1⟩ := leaves_get 3 26 [23, 23, 3] n cs x (by kernel_rfl) h 1 23 rfl
  obtain ⟨p1, rfl, w1⟩ := leaf_int Try.underlying23 o1
  obtain ⟨c2, e2, o2⟩ := leaves_get 3 26 [23, 23, 3] n cs x (by kernel_rfl) h 2 3 rfl
  obtain ⟨p2, rfl, w2⟩ := leaf_int Try.underlying3 o2
  match cs, hl with
  | [b0, b1, b2], _ => exact ⟨⟨p0, p1, p2⟩, by simp at e0 e1 e2; rw [e0, e1, e2]; exact k26_mk W _, trivial⟩
set_option maxRecDepth 100000 in
theorem lifted (os : Os) (started : os.Started) (H : Type) (enc : TypeId × Value → H) :
    ReturnsInHanded {} Try.checked os 6 .any (Rows.btbKeepsSpec.pre6 enc Try.prog Try.f6 Rows.btbKeepsRow.domain false) (Rows.btbKeepsSpec.post enc Try.prog Try.f6 false true false false) := by
  refine returnsInHanded_of_change_sized (C := Try.checked) own started (by kernel_rfl) Try.func6
    (ChangeSpec.witness6 (enc := enc) (C := Try.checked) false ⟨#[], #[.int .i64 0, .slice none 0 0], []⟩ 8 (by kernel_rfl) (by kernel_rfl) (by kernel_rfl) (by kernel_rfl)) ?_
  intro W base args ds gs before hval0 hW hcnd hsz0 _
  have hval : ∀ (j : Nat) t v, Try.f6.params[j]? = some t → args[j]? = some v → Value.okWide Try.prog W .any base t v := hval0
  have hW' := hW
  obtain ⟨p, q, hA0, hV, rfl, hfz, hnd⟩ := hW
  have hA : DataW.TrodAll enc Try.prog W 0 (fun _ => true) true Try.f6.params.toList args.toList ds p := hA0
  rw [Try.params6] at hA hval
  obtain ⟨v0, vs0, d0, ds0, p0, q0, hargs, rfl, rfl, h0, r0⟩ := trodAll_cons hA
  obtain ⟨v1, vs1, d1, ds1, p1, q1, rfl, rfl, rfl, h1, r1⟩ := trodAll_cons r0
  obtain ⟨rfl, rfl, rfl⟩ := trodAll_nil r1
  obtain rfl : args = #[v0, v1] := by cases args; simp_all
  obtain ⟨rfl, rfl⟩ := trodVars_none hV
  obtain ⟨a0, rfl, rfl, rfl, w0⟩ := open_int Try.underlying3 (hval 0 3 v0 rfl rfl) h0
  have k1 := h1
  have lt1 : ∀ x ∈ p1, x.block < W.heap.size := by obtain ⟨m, hm⟩ := k1; exact DataW.trod_lt m _ _ _ hm
  obtain ⟨A1, cap1, l1, rfl, hc1, hm1, hr1, hg1⟩ := open_row (R := (k26.K W)) (good := G26) 3 Try.underlying22 (by kernel_rfl) (fun n cs x hl h => dec26 W n cs x hl h) (okWide_slice Try.underlying22 (hval 1 22 v1 rfl rfl)) h1
  clear hA0 hval0 hsz0 hval
  refine (cotterellaw19_BtbKeeps.calls _ a0 A1 cap1 l1 true W hr1 hc1 (keeps_pure a0 l1).choose_spec).mono fun e W' ⟨he, bel⟩ => ?_
  subst he
  exact ⟨_, rfl, _, _, _, [], _, [], hW', trodAll_mk1 (shut_bool Try.underlying4 _), (trodAll_cons_mk (shut_int Try.underlying3 w0) (trodAll_cons_mk (Below.trod laidOut (by kernel_rfl) (of_decide_eq_true (by kernel_rfl)) k1 bel lt1) trodAll_mk0)), rfl, bel.frame _, fun h => by cases h⟩
theorem over : Rows.btbKeepsRow.holds Try.pinned (OpenSpec.ofChange Rows.btbKeepsSpec) :=
  OpenClaim.holds_of_wide 6 Try.f6 rfl rfl rfl rfl rfl rfl rfl ⟨rfl, rfl, rfl, rfl, rfl⟩ rfl rfl rfl rfl rfl (by kernel_rfl) Try.func6 (by kernel_rfl)
    (of_decide_eq_true (by kernel_rfl)) (by unfold Func.isWrapper; first | (rw [if_pos (by decide +kernel)]; kernel_rfl) | (rw [if_neg (by decide +kernel)]; exact ⟨rfl, rfl⟩))
    (fun os started H enc _ => lifted os started H enc)
theorem proved : Rows.BtbKeepsSaid := over
#print axioms proved
end Go.Proofs.Ytgacdbaegjnlfaa.btbKeeps
namespace Go.Proofs.Ytgacdbaegjnlfaa
/-- The row, under a short name, for the claim. -/
theorem btbKeeps_holds : Rows.BtbKeepsSaid := btbKeeps.proved
end Go.Proofs.Ytgacdbaegjnlfaa
