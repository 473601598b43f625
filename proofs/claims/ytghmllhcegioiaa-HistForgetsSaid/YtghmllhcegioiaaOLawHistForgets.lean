/- The row of HistForgets: for every input the call returns true and leaves all as it was. No condition. -/
import Derived.Test.YtghmllhcegioiaaRows
import Derived.Test.YtghmllhcegioiaaWalkHistForgets
import Derived.Test.YtghmllhcegioiaaPureHistForgets
import Derived.Test.YtghmllhcegioiaaOpen
import Derived.WalkKit
import Derived.ProofKit
import Derived.OpenShut
import Derived.ShutString
import Derived.ChangeOld
import Derived.Below
import Derived.SizedLaws
namespace Go.Proofs.Ytghmllhcegioiaa.histForgets
open Go.ChangeShapes Go.WideShapes Go.ChangeAt Go.RowKit
open Go.Proofs.Ytghmllhcegioiaa.Open Go.Proofs.Ytghmllhcegioiaa.Plain Go.Proofs.YtghmllhcegioiaaW.PrintWords
set_option linter.unusedVariables false
theorem own : ownKnob Try.prog.godebug = none := by kernel_rfl
theorem laidOut : laidOutB Try.prog = true := by kernel_rfl
theorem dec_bool {H : Type} {enc : TypeId × Value → H} {w : World} {base : Nat} {spare : Nat → Bool} {held : Bool} (n : Nat) (cs : List Value) (x : DataW H × List MemPlace) (hl : cs.length = 1) (h : DataW.trod enc Try.prog w base spare held n 4 cs = some x) : ∃ b : Bool, cs = [.bool b] ∧ True := by
  obtain ⟨c, hc, hok⟩ := leaves_get 3 4 [4] n cs x (by kernel_rfl) h 0 4 rfl
  obtain ⟨b, rfl⟩ := leaf_bool Try.underlying4 hok
  match cs, hl with
  | [c], _ => exact ⟨b, by simpa using hc, trivial⟩
theorem walk (x0 x1 : Int) (w0 : (Lit.int .u32 x0).wf = true) (w1 : (Lit.int .u32 x1).wf = true) (n : Int) (A : Option Addr) (l : List Bool) (c : Nat) (w : World) (hc : l.length ≤ c) (hr : ReadsRow (fun (b : Bool) cs => cs = [.bool b]) 1 w A l.length l) :
    Calls Try.prog 5 #[.agg #[.int .u32 x0, .int .u32 x1], .int .i64 n, .slice A l.length c] w fun e w' => e = .returned (.bool true) ∧ Below w.heap.size w w' := by
  obtain ⟨h0, h0'⟩ := wf_u32 w0
  obtain ⟨h1, h1'⟩ := wf_u32 w1
  obtain ⟨x, rfl⟩ := nat_of h0
  obtain ⟨y, rfl⟩ := nat_of h1
  by_cases g1 : 60 < l.length
  · exact PHistForgets.early _ _ _ _ _ _ _ g1
  · by_cases g2 : (l.length : Int) < n
    · exact PHistForgets.early2 _ _ _ _ _ _ _ (by omega) g2
    · exact PHistForgets.main _ _ n A l c w hc hr (by omega) (by omega) (Forgets.hs (Forgets.M n) l x) (Forgets.hs (Forgets.M n) l y) rfl rfl (fun k hk => Forgets.hs_push n l x k hk) (fun k hk => Forgets.hs_push n l y k hk) _ (Forgets.mask_f n) (Forgets.hs_end n l x y (by omega))
set_option maxRecDepth 100000 in
theorem lifted (os : Os) (started : os.Started) (H : Type) (enc : TypeId × Value → H) :
    ReturnsInHanded {} Try.checked os 5 .any (Rows.histForgetsSpec.pre6 enc Try.prog Try.f5 Rows.histForgetsRow.domain false) (Rows.histForgetsSpec.post enc Try.prog Try.f5 false true false false) := by
  refine returnsInHanded_of_change_sized (C := Try.checked) own started (by kernel_rfl) Try.func5
    (ChangeSpec.witness6 (enc := enc) (C := Try.checked) false ⟨#[], #[.agg #[.int .u32 0, .int .u32 0], .int .i64 0, .slice none 0 0], []⟩ 8 (by kernel_rfl) (by kernel_rfl) (by kernel_rfl) (by kernel_rfl)) ?_
  intro W base args ds gs before hval0 hW hcnd hsz0 _
  have hval : ∀ (j : Nat) t v, Try.f5.params[j]? = some t → args[j]? = some v → Value.okWide Try.prog W .any base t v := hval0
  have hW' := hW
  obtain ⟨p, q, hA0, hV, rfl, hfz, hnd⟩ := hW
  have hA : DataW.TrodAll enc Try.prog W 0 (fun _ => true) true Try.f5.params.toList args.toList ds p := hA0
  rw [Try.params5] at hA hval
  obtain ⟨v0, vs0, d0, ds0, p0, q0, hargs, rfl, rfl, h0, r0⟩ := trodAll_cons hA
  obtain ⟨v1, vs1, d1, ds1, p1, q1, rfl, rfl, rfl, h1, r1⟩ := trodAll_cons r0
  obtain ⟨v2, vs2, d2, ds2, p2, q2, rfl, rfl, rfl, h2, r2⟩ := trodAll_cons r1
  obtain ⟨rfl, rfl, rfl⟩ := trodAll_nil r2
  obtain rfl : args = #[v0, v1, v2] := by cases args; simp_all
  obtain ⟨rfl, rfl⟩ := trodVars_none hV
  have k0 := h0
  have lt0 : ∀ x ∈ p0, x.block < W.heap.size := by obtain ⟨m, hm⟩ := k0; exact DataW.trod_lt m _ _ _ hm
  obtain ⟨l0, rfl, hl0, hc0⟩ := cells_open [22, 22] (.inr ⟨_, _, Try.underlying31⟩) (by kernel_rfl) (by kernel_rfl) (hval 0 31 v0 rfl rfl)
  obtain _ | ⟨c0_0, l0⟩ := l0
  · simp at hl0
  obtain _ | ⟨c0_1, l0⟩ := l0
  · simp at hl0
  obtain _ | ⟨_, _⟩ := l0
  rotate_left
  · simp at hl0
  obtain ⟨c, e, o⟩ := hc0 0 22 rfl
  obtain rfl : c0_0 = c := by simpa using e
  obtain ⟨x0, rfl, wx0⟩ := cell_int Try.underlying22 o
  clear e
  obtain ⟨c, e, o⟩ := hc0 1 22 rfl
  obtain rfl : c0_1 = c := by simpa using e
  obtain ⟨x1, rfl, wx1⟩ := cell_int Try.underlying22 o
  clear e
  obtain ⟨a1, rfl, rfl, rfl, w1⟩ := open_int Try.underlying3 (hval 1 3 v1 rfl rfl) h1
  have k2 := h2
  have lt2 : ∀ x ∈ p2, x.block < W.heap.size := by obtain ⟨m, hm⟩ := k2; exact DataW.trod_lt m _ _ _ hm
  obtain ⟨A2, cap2, l2, rfl, hc2, hm2, hr2, hg2⟩ := open_row (R := fun (b : Bool) cs => cs = [.bool b]) (good := fun _ => True) 1 Try.underlying27 (by kernel_rfl) (fun n cs x hl h => dec_bool n cs x hl h) (okWide_slice Try.underlying27 (hval 2 27 v2 rfl rfl)) h2
  clear hA0 hval0 hsz0 hval
  refine (walk x0 x1 wx0 wx1 a1 A2 l2 cap2 W hc2 hr2).mono fun e W' ⟨he, bel⟩ => ?_
  subst he
  exact ⟨_, rfl, _, _, _, [], _, [], hW', trodAll_mk1 (shut_bool Try.underlying4 _), (trodAll_cons_mk (Below.trod laidOut (by kernel_rfl) (of_decide_eq_true (by kernel_rfl)) k0 bel lt0) (trodAll_cons_mk (shut_int Try.underlying3 w1) (trodAll_cons_mk (Below.trod laidOut (by kernel_rfl) (of_decide_eq_true (by kernel_rfl)) k2 bel lt2) trodAll_mk0))), rfl, bel.frame _, fun h => by cases h⟩
theorem over : Rows.histForgetsRow.holds Try.pinned (OpenSpec.ofChange Rows.histForgetsSpec) :=
  OpenClaim.holds_of_wide 5 Try.f5 rfl rfl rfl rfl rfl rfl rfl ⟨rfl, rfl, rfl, rfl, rfl⟩ rfl rfl rfl rfl rfl (by kernel_rfl) Try.func5 (by kernel_rfl)
    (of_decide_eq_true (by kernel_rfl)) (by unfold Func.isWrapper; first | (rw [if_pos (by decide +kernel)]; kernel_rfl) | (rw [if_neg (by decide +kernel)]; exact ⟨rfl, rfl⟩))
    (fun os started H enc _ => lifted os started H enc)
theorem proved : Rows.HistForgetsSaid := over
#print axioms proved
end Go.Proofs.Ytghmllhcegioiaa.histForgets
namespace Go.Proofs.Ytghmllhcegioiaa
/-- The row, under a short name, for the claim. -/
theorem histForgets_holds : Rows.HistForgetsSaid := histForgets.proved
end Go.Proofs.Ytghmllhcegioiaa
