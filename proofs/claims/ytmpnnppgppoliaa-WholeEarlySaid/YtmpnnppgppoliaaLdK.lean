/- The law's deeds: a record. No condition. -/
import Derived.Test.YtmpnnppgppoliaaLdJ
import Derived.Test.YtmpnnppgppoliaaLdS
namespace Go.Proofs.Ytmpnnppgppoliaa.Ld
open Go Go.Proofs Go.RowKit Go.Proofs.YtmpnnppgppoliaaW.PrintWords Go.Proofs.YtmpnnppgppoliaaW.PrintLast Go.Proofs.YtmpnnppgppoliaaW.PrintMore Go.Proofs.Ytmpnnppgppoliaa.Boxes Go.Proofs.Ytmpnnppgppoliaa.PFwd
attribute [local go_sem] max2_int min2_int max_two min_two max_three min_three max_four min_four   -- for this text's walks alone
set_option linter.unusedVariables false
set_option linter.unusedSimpArgs false

/-- A deed. -/
structure Dd where
  f0 : Int
  f1 : Int
  f2 : Int
  f3 : Int
def zD : Dd := ⟨0, 0, 0, 0⟩
def kD : Kd Dd := Kd.iso (Kd.pair (Kd.int .u8) (Kd.pair (Kd.int .u8) (Kd.pair (Kd.int .u16) (Kd.int .u32)))) (fun x : Dd => (x.f0, x.f1, x.f2, x.f3))
theorem kD_open {w : World} {x : Dd} {cs : List Value} (h : kD.K w x cs) : cs = [.int .u8 x.f0, .int .u8 x.f1, .int .u16 x.f2, .int .u32 x.f3] := by
  obtain ⟨_, _, rfl, rfl, _, _, rfl, rfl, _, _, rfl, rfl, rfl⟩ := h
  exact rfl
theorem kD_mk (w : World) (x : Dd) : kD.K w x [.int .u8 x.f0, .int .u8 x.f1, .int .u16 x.f2, .int .u32 x.f3] := ⟨[.int .u8 x.f0], _, rfl, rfl, [.int .u8 x.f1], _, rfl, rfl, [.int .u16 x.f2], _, rfl, rfl, rfl⟩
def rdD (xs : List Dd) (i : Int) : Dd := xs.getD i.toNat zD
theorem atD {w : World} {A : Option Addr} {n : Nat} {xs : List Dd} (h : Kd.C kD w A n xs) (i : Int) (h0 : 0 ≤ i) (h1 : i < n) : ∃ ad, A = some ad ∧ w.cell? (ad.add (i.toNat * 4)) = some (.int .u8 (rdD xs i).f0) ∧ w.cell? ⟨(ad.add (i.toNat * 4)).block, (ad.add (i.toNat * 4)).off + 1, none⟩ = some (.int .u8 (rdD xs i).f1) ∧
    w.cell? ⟨(ad.add (i.toNat * 4)).block, (ad.add (i.toNat * 4)).off + 2, none⟩ = some (.int .u16 (rdD xs i).f2) ∧ w.cell? ⟨(ad.add (i.toNat * 4)).block, (ad.add (i.toNat * 4)).off + 3, none⟩ = some (.int .u32 (rdD xs i).f3) := by
  obtain ⟨ad, c, e, _, hK, hc0⟩ := Kd.C_get h zD i h0 h1
  have hc : ∀ j u, c[j]? = some u → w.cell? (ad.add (i.toNat * 4 + j)) = some u := hc0
  obtain rfl := kD_open hK
  exact ⟨ad, e, hc 0 _ rfl, by rw [← add_field _ _ 1 (by omega)]; exact hc 1 _ rfl, by rw [← add_field _ _ 2 (by omega)]; exact hc 2 _ rfl, by rw [← add_field _ _ 3 (by omega)]; exact hc 3 _ rfl⟩

end Go.Proofs.Ytmpnnppgppoliaa.Ld
