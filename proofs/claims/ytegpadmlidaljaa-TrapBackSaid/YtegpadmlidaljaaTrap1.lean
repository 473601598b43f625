/- What the small functions of trap and of its document come to: walks of the code. The one condition is that the cells are a core's. -/
import Derived.Test.YtegpadmlidaljaaCsr1
import Derived.Test.YtegpadmlidaljaaBoxes2
import Derived.Test.YtegpadmlidaljaaTrapP
namespace Go.Proofs.Ytegpadmlidaljaa.Csr
open Go Go.Proofs Go.RowKit Go.Proofs.YtegpadmlidaljaaW.PrintWords Go.Proofs.YtegpadmlidaljaaW.PrintLast Go.Proofs.YtegpadmlidaljaaW.PrintMore Go.Proofs.Ytegpadmlidaljaa.Boxes Go.Proofs.Ytegpadmlidaljaa.Arch Go.Proofs.Ytegpadmlidaljaa.Plain Go.Proofs.Ytegpadmlidaljaa.TrapP
set_option linter.unusedVariables false
set_option linter.unusedSimpArgs false

theorem kb_odd {A : Array Value} (hA : IsArch A) : kb A = (wd A 17 % 2 == 1) := by
  obtain ⟨h0, h1⟩ := hA.lo 17 (by decide)
  unfold kb
  obtain ⟨n, hn⟩ := nat_of h0
  rw [hn] at h1 ⊢
  rw [and32_one n (by omega), Bool.eq_iff_iff]
  simp only [bne_iff_ne, beq_iff_eq]
  omega
set_option maxHeartbeats 400000 in
theorem rkernel (A : Array Value) (hA : IsArch A) (w : World) :
    Calls Try.prog 24 #[.agg A] w fun e w' => e = .returned (.bool (kb A)) ∧ Below w.heap.size w w' := by
  have hs := hA.size
  have h17 : A[17]'(by omega) = .int .u32 (wd A 17) := by have := hA.at 17 (by decide); rw [Array.getElem?_eq_getElem (by omega)] at this; exact Option.some.inj this
  have hx := (hA.lo 17 (by decide)).1
  rw [kb_odd hA]
  go_enter Try.func24, Try.ntmps24
  go_wp2
  go_ret
  exact ⟨rfl, (Below.refl _ _).alloc (Nat.le_refl _) _⟩
set_option maxHeartbeats 4000000 in
theorem rmasked_same (n : Int) (w : World) :
    Calls Try.prog 22 #[.int .i64 n] w fun e w' => e = .returned (.int .u32 (mk n)) ∧ w' = w := by
  by_cases h0 : n < 0
  · have e : mk n = 0 := by unfold mk; rw [if_pos h0]
    have e0 : (n == 0) = false := by rw [beq_eq_false_iff_ne]; omega
    have e1 : (n == 1) = false := by rw [beq_eq_false_iff_ne]; omega
    have e9 : (n == 9) = false := by rw [beq_eq_false_iff_ne]; omega
    have e10 : (n == 10) = false := by rw [beq_eq_false_iff_ne]; omega
    have e5 : (n == 5) = false := by rw [beq_eq_false_iff_ne]; omega
    rw [e]
    clear e
    go_enter Try.func22, Try.ntmps22
    go_wp2
    go_ret
    exact ⟨rfl, rfl⟩
  · by_cases h1 : n ≥ 12
    · have e : mk n = 0 := by unfold mk; rw [if_neg h0, if_pos h1]
      have e0 : (n == 0) = false := by rw [beq_eq_false_iff_ne]; omega
      have e1 : (n == 1) = false := by rw [beq_eq_false_iff_ne]; omega
      have e9 : (n == 9) = false := by rw [beq_eq_false_iff_ne]; omega
      have e10 : (n == 10) = false := by rw [beq_eq_false_iff_ne]; omega
      have e5 : (n == 5) = false := by rw [beq_eq_false_iff_ne]; omega
      have h2 : 11 < n := by omega
      rw [e]
      clear e
      go_enter Try.func22, Try.ntmps22
      go_wp2
      go_ret
      exact ⟨rfl, rfl⟩
    · rcases twelve (by omega) (show n < 12 by omega) with rfl | rfl | rfl | rfl | rfl | rfl | rfl | rfl | rfl | rfl | rfl | rfl
      all_goals
        clear h0 h1
        go_enter Try.func22, Try.ntmps22
        go_wp2
        go_ret
        exact ⟨rfl, rfl⟩
theorem rmasked (n : Int) (w : World) : Calls Try.prog 22 #[.int .i64 n] w fun e w' => e = .returned (.int .u32 (mk n)) ∧ Below w.heap.size w w' :=
  (rmasked_same n w).mono fun e w' ⟨h, h'⟩ => ⟨h, h' ▸ Below.refl _ _⟩


theorem moved (s f t : Int) (w : World) : Calls Try.prog 20 #[.int .u32 s, .int .u32 f, .int .u32 t] w fun e w' => e = .returned (.int .u32 (mv s f t)) ∧ w' = w := by
  cases hb : (Go.bits .and .u32 s f != 0) with
  | true =>
    have e : mv s f t = Go.bits .or .u32 s t := by unfold mv; rw [if_pos hb]
    rw [e]
    clear e
    go_enter Try.func20, Try.ntmps20
    go_wp2
    go_ret
    exact ⟨rfl, rfl⟩
  | false =>
    have e : mv s f t = Go.bits .andNot .u32 s t := by unfold mv; rw [if_neg (by rw [hb]; decide)]
    rw [e]
    clear e
    go_enter Try.func20, Try.ntmps20
    go_wp2
    go_ret
    exact ⟨rfl, rfl⟩
theorem put (s b : Int) (on : Bool) (w : World) : Calls Try.prog 21 #[.int .u32 s, .int .u32 b, .bool on] w fun e w' => e = .returned (.int .u32 (pt s b on)) ∧ w' = w := by
  cases on with
  | true =>
    show Calls Try.prog 21 _ w fun e w' => e = .returned (.int .u32 (Go.bits .or .u32 s b)) ∧ w' = w
    go_enter Try.func21, Try.ntmps21
    go_wp2
    go_ret
    exact ⟨rfl, rfl⟩
  | false =>
    show Calls Try.prog 21 _ w fun e w' => e = .returned (.int .u32 (Go.bits .andNot .u32 s b)) ∧ w' = w
    go_enter Try.func21, Try.ntmps21
    go_wp2
    go_ret
    exact ⟨rfl, rfl⟩
theorem same_below {f : FuncId} {args : Array Value} {v : Value} {w : World} (h : Calls Try.prog f args w fun e w' => e = .returned v ∧ w' = w) : Calls Try.prog f args w fun e w' => e = .returned v ∧ Below w.heap.size w w' :=
  h.mono fun _ _ ⟨h, h'⟩ => ⟨h, h' ▸ Below.refl _ _⟩
/-- Is a bit of the status set? -/
def hasB (A : Array Value) (b : Int) : Bool := Go.bits .and .u32 (wd A 17) b != 0
theorem has (A : Array Value) (hA : IsArch A) (b : Int) (w : World) :
    Calls Try.prog 25 #[.agg A, .int .u32 b] w fun e w' => e = .returned (.bool (hasB A b)) ∧ Below w.heap.size w w' := by
  have hs := hA.size
  have h17 : A[17]'(by omega) = .int .u32 (wd A 17) := by have := hA.at 17 (by decide); rw [Array.getElem?_eq_getElem (by omega)] at this; exact Option.some.inj this
  unfold hasB
  go_enter Try.func25, Try.ntmps25
  go_wp2
  go_ret
  exact ⟨rfl, (Below.refl _ _).alloc (Nat.le_refl _) _⟩
def srcZ : Array Value := #[.int .u32 0, .int .i64 0, .int .u32 0, .int .i64 0, .int .u32 0, .int .i64 0]
def srcA : Array Value := #[.int .u32 1, .int .i64 16, .int .u32 2, .int .i64 17, .int .u32 4, .int .i64 18]
theorem sources (w : World) :
    Calls Try.prog 23 #[] w fun e w' => e = .returned (.agg #[.int .u32 1, .int .i64 16, .int .u32 2, .int .i64 17, .int .u32 4, .int .i64 18]) ∧ Below w.heap.size w w' := by
  have S0 := St.start w
  go_enter Try.func23, Try.ntmps23
  go_wp2_with (first | ((with_reducible refine gate_dst (N := 0) rfl ?_); refine box_event ?hg (N := 0) ?hd (cs := srcZ) (t := 43) ?hr ?_; (case hd => rfl); (case hg => rfl); (case hr => first | (go_simp; done) | (go_simp; rfl)); intro g1 hg w1 hbox hb; have S1 := S0.box hg hbox hb; clear hg hbox hb; clear S0) | ((with_reducible refine gate_store (t := 43) (p := 0) rfl ?_); refine wpList_store_row rfl 43 _ _ rfl g1 srcA rfl rfl 43 _ (S1.heap ⟨g1, srcZ, 43⟩ (by simp)) (by kernel_rfl) (rfl) (by kernel_rfl) ?_; have n_ : St w _ [⟨g1, srcA, 43⟩] := St.row (L1 := []) (b := ⟨g1, srcZ, 43⟩) S1 srcA; clear S1; have S2 := n_; clear n_; generalize World.setRow _ _ _ = w2 at S2 ⊢))
  refine bodyPost_ret (results_cell_row rfl _ _ g1 43 srcA (0, 0) _ rfl (S2.heap ⟨g1, srcA, 43⟩ (by simp)) Try.underlying43 rfl (by kernel_rfl)) rfl ?_
  exact ⟨rfl, S2.below⟩
end Go.Proofs.Ytegpadmlidaljaa.Csr
