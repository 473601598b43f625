/- What the small functions of memory come to: walks of the code. The conditions are those that each theorem names. -/
import Derived.Test.YtmpnnppgppoliaaPFwdx2
import Derived.Test.YtmpnnppgppoliaaAppKd
import Derived.Test.YtmpnnppgppoliaaBoxes4
import Derived.Test.YtmpnnppgppoliaaBits
namespace Go.Proofs.Ytmpnnppgppoliaa.Ld
open Go Go.Proofs Go.RowKit Go.Proofs.YtmpnnppgppoliaaW.PrintWords Go.Proofs.YtmpnnppgppoliaaW.PrintLast Go.Proofs.YtmpnnppgppoliaaW.PrintMore Go.Proofs.Ytmpnnppgppoliaa.Boxes Go.Proofs.Ytmpnnppgppoliaa.PFwd
attribute [local go_sem] max2_int min2_int max_two min_two max_three min_three max_four min_four   -- for this text's walks alone
set_option linter.unusedVariables false
set_option linter.unusedSimpArgs false

/-- A place of so many bytes lies in memory. -/
def Okm (L : Nat) (a n : Int) : Prop := (n = 1 ∨ n = 2 ∨ n = 4) ∧ 0 ≤ a ∧ a + n ≤ (L : Int) ∧ L ≤ 64
theorem wrap_i {x : Int} (h0 : -9223372036854775808 ≤ x) (h1 : x ≤ 9223372036854775807) : wrap64 x = x := by unfold wrap64; omega
theorem wrap_u {x : Int} (h0 : 0 ≤ x) (h1 : x ≤ 18446744073709551615) : IntKind.u64.wrap x = x := by rw [Plain.wrap_u64]; omega
theorem check (A0 : Option Addr) (c0 L : Nat) (a n : Int) (h : Okm L a n) (w : World) : Calls Try.prog 22 #[.slice A0 L c0, .int .u32 a, .int .i64 n] w fun e w' => e = .returned (.int .i64 0) ∧ Below w.heap.size w w' := by
  have HB := Aside0.mk (Below.refl w.heap.size w)
  obtain ⟨h1, h2, h3, h4⟩ := h
  have w1 : IntKind.u64.wrap a = a := wrap_u (by omega) (by omega)
  have w2 : IntKind.u64.wrap n = n := wrap_u (by omega) (by omega)
  have w3 : IntKind.u64.wrap (a + n) = a + n := wrap_u (by omega) (by omega)
  have w4 : IntKind.u64.wrap (L : Int) = (L : Int) := wrap_u (by omega) (by omega)
  have g1 : decide ((L : Int) < a + n) = false := decide_eq_false (by omega)
  rcases h1 with rfl | rfl | rfl
  · clear h2 h3 h4
    go_enter Try.func22, Try.ntmps22
    go_wp2
    go_ret
    exact ⟨rfl, HB.out⟩
  · clear h2 h3 h4
    go_enter Try.func22, Try.ntmps22
    go_wp2
    go_ret
    exact ⟨rfl, HB.out⟩
  · clear h2 h3 h4
    go_enter Try.func22, Try.ntmps22
    go_wp2
    go_ret
    exact ⟨rfl, HB.out⟩
theorem clamp (v : Int) (h0 : 0 ≤ v) (h1 : v ≤ 4) (w : World) : Calls Try.prog 35 #[.int .i64 v, .int .i64 0, .int .i64 4] w fun e w' => e = .returned (.int .i64 v) ∧ Below w.heap.size w w' := by
  have HB := Aside0.mk (Below.refl w.heap.size w)
  have e1 : mx v 0 = v := by unfold mx; split <;> omega
  have e2 : mn v 4 = v := by unfold mn; split <;> omega
  have h2_ : (if v < 0 then 0 else v) = v := e1
  have h3_ : (if 4 < v then 4 else v) = v := e2
  clear h0 h1
  go_enter Try.func35, Try.ntmps35
  go_wp2
  go_ret
  exact ⟨by first | rfl | (simp [*]; done), HB.out⟩

/-- A number out of its bytes, from place i on. -/
def ofI : Int → Int → List Int → Int
  | v, _, [] => v
  | v, i, b :: r => ofI (Go.bits .or .u32 v (b % 4294967296 * 2 ^ min (8 * i).toNat 32 % 4294967296)) (i + 1) r
theorem ofI_cons (v i b : Int) (r : List Int) : ofI v i (b :: r) = ofI (Go.bits .or .u32 v (b % 4294967296 * 2 ^ min (8 * i).toNat 32 % 4294967296)) (i + 1) r := rfl
set_option maxHeartbeats 8000000 in
set_option maxRecDepth 100000 in
theorem bof (A0 : Option Addr) (c0 : Nat) (bs : List Int) (w : World) (hr0 : Kd.C (Kd.int .u8) w A0 bs.length bs) (hc0 : bs.length ≤ c0) (hl : bs.length ≤ 4) :
    Calls Try.prog 23 #[.slice A0 bs.length c0] w fun e w' => e = .returned (.int .u32 (ofI 0 0 bs)) ∧ Below w.heap.size w w' := by
  have HR0 := Aside0.mk hr0
  have HL := Aside0.mk hl
  have HB := Aside0.mk (Below.refl w.heap.size w)
  have hm : mn (bs.length : Int) 4 = (bs.length : Int) := by unfold mn; split <;> omega
  have hm_ : (if (4 : Int) < (bs.length : Int) then 4 else (bs.length : Int)) = (bs.length : Int) := hm
  clear hr0 hl
  go_enter Try.func23, Try.ntmps23
  go_wp2
  go_loopg [3, 12] bs.length (fun kq v3 v12 w' => ∃ (x v : Int), v12 = .int .i64 x ∧ v3 = .int .u32 v ∧ Aside0 (0 ≤ x ∧ x + kq = (bs.length : Int)) ∧ Aside0 (ofI v x (bs.drop x.toNat) = ofI 0 0 bs) ∧ Aside0 (Below w.heap.size w w'))
  case atStart => exact ⟨0, 0, (by first | rfl | (simp; done)), (by first | rfl | (simp; done)), ⟨by simp⟩, ⟨by simp⟩, HB⟩
  case round =>
    clear HB
    obtain ⟨x, v, rfl, rfl, HX, HG, HB⟩ := hrel
    by_cases c : x < (bs.length : Int)
    · have cb : decide (x < (bs.length : Int)) = true := decide_eq_true c
      have CC := Aside0.mk c
      have p1 : 0 ≤ x := HX.out.1
      obtain ⟨ad, e1, hx⟩ := Kd.at_int HR0.out x p1 c
      cases e1
      replace hx := (HB.out.cell (World.block_lt_of_cell? w _ hx)).trans hx
      obtain ⟨y, hy⟩ : ∃ y_, rd bs x = y_ := ⟨_, rfl⟩
      rw [hy] at hx
      have hd_ : bs.drop x.toNat = y :: bs.drop (x + 1).toNat := by
        have hk : x.toNat < bs.length := by omega
        rw [show (x + 1).toNat = x.toNat + 1 by omega, List.drop_eq_getElem_cons hk, ← hy]
        unfold rd
        rw [List.getD_eq_getElem?_getD, List.getElem?_eq_getElem hk]
        rfl
      have HD := Aside0.mk hd_
      have HN := Aside0.mk (wrap_i (x := x + 1) (by omega) (by have := HL.out; omega))
      obtain ⟨j, hj⟩ : ∃ j_ : Int, wrap64 (8 * x) = j_ := ⟨_, rfl⟩
      have hjw : IntKind.i64.wrap (8 * x) = j := (i64_w _).trans hj
      have hjv : j = 8 * x := by rw [← hj]; exact wrap_i (by omega) (by have := HL.out; omega)
      have HJ := Aside0.mk hjv
      have j0 : 0 ≤ j := by omega
      have p1' := decide_eq_true p1
      have j0' := decide_eq_true j0
      clear hy hd_ hj hjv
      replace p1 := eq_true p1
      replace c := eq_true c
      replace j0 := eq_true j0
      go_wp2
      go_roundg (gk - 1)
      case measure => have := HX.out; have := CC.out; omega
      case rel => exact ⟨x + 1, _, (by first | rfl | (simp; done) | (simp [HN.out]; done)), rfl, ⟨by have := HX.out; have := CC.out; omega⟩, ⟨by rw [← HG.out, HD.out, ofI_cons, HJ.out]⟩, HB⟩
    · have cb : decide (x < (bs.length : Int)) = false := decide_eq_false c
      have e : bs.drop x.toNat = [] := List.drop_eq_nil_of_le (by have := HX.out; omega)
      have hg := HG.out
      rw [e] at hg
      have HE := Aside0.mk (hg : v = ofI 0 0 bs)
      clear c e hg
      go_wp2
      go_ret
      exact ⟨by first | (rw [← HE.out]; done) | (rw [← HE.out]; rfl), HB.out⟩

end Go.Proofs.Ytmpnnppgppoliaa.Ld
