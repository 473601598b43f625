/- What the iterator that fwd.older hands back yields: the stores that are older, the youngest first; for every loop body that keeps what lay when the loop began. The conditions are those that each theorem names. -/
import Derived.Test.YtmpnnppgppoliaaPFwdx0
import Derived.Test.YtmpnnppgppoliaaTailIn
import Derived.RangeFuncNested
import Derived.RangeFuncLeaves
import Derived.Shelf.Abstract
import Derived.WalkKit
import Derived.OwnWalkIn
import Derived.TacticsInMore
import Derived.LoopNIn
import Derived.LoopIn
import Derived.Sort.BigQuietIn
namespace Go.Proofs.Ytmpnnppgppoliaa.PFwd
open Go Go.Proofs Go.RowKit Go.Shelf Go.Proofs.YtmpnnppgppoliaaW.PrintWords Go.Proofs.Ytmpnnppgppoliaa.TailIn
set_option linter.unusedVariables false
set_option linter.unusedSimpArgs false
attribute [local go_sem] Oper.semAt_some
/-- A store, wherever it stands. -/
structure SX where
  a : Int
  d : Int
  n : Int
  q : Int
def encX (x : SX) : Array Value := #[.agg #[.int .u32 x.a, .int .u32 x.d, .int .i64 x.n, .int .u64 x.q]]
def ofSq (s : S37) : SX := ⟨s.f1, s.f2, s.f3, s.f0⟩
def ofSb (s : S48) : SX := ⟨s.f0, s.f1, s.f2, 0⟩
def sqOk (q : Int) (s : S37) : Bool := s.f4 && decide (s.f0 < q)
def sqs (q : Int) (l : List S37) : List SX := (l.filter (sqOk q)).map ofSq
/-- The stores that are older than q, the youngest first. -/
def old (q : Int) (l : List S37) (b : List S48) : List SX := sqs q l.reverse ++ b.reverse.map ofSb
theorem sqs_snoc (q : Int) (l : List S37) (s : S37) : sqs q (l ++ [s]) = sqs q l ++ if sqOk q s = true then [ofSq s] else [] := by
  unfold sqs
  rw [List.filter_append, List.map_append]
  by_cases h : sqOk q s = true <;> simp [h]
theorem drop_rev {α : Type} (l : List α) (d : α) {z : Int} (h0 : 0 ≤ z) (h1 : z < (l.length : Int)) : (l.drop z.toNat).reverse = (l.drop (z + 1).toNat).reverse ++ [l.getD z.toNat d] := by
  have hk : z.toNat < l.length := by omega
  rw [show (z + 1).toNat = z.toNat + 1 by omega, List.drop_eq_getElem_cons hk, List.reverse_cons, List.getD_eq_getElem?_getD, List.getElem?_eq_getElem hk]
  rfl
theorem sqs_append (q : Int) (l r : List S37) : sqs q (l ++ r) = sqs q l ++ sqs q r := by unfold sqs; rw [List.filter_append, List.map_append]
theorem sqs_len (q : Int) (l : List S37) : (sqs q l).length ≤ l.length := by unfold sqs; rw [List.length_map]; exact List.length_filter_le _ _
theorem sqs_pre (q : Int) (l : List S37) (b : List S48) (k : Nat) : sqs q (l.drop k).reverse <+: old q l b := by
  refine ⟨sqs q (l.take k).reverse ++ b.reverse.map ofSb, ?_⟩
  unfold old
  rw [← List.append_assoc, ← sqs_append, ← List.reverse_append, List.take_append_drop]
theorem sbs_pre (q : Int) (l : List S37) (b : List S48) (k : Nat) : sqs q l.reverse ++ (b.drop k).reverse.map ofSb <+: old q l b := by
  refine ⟨(b.take k).reverse.map ofSb, ?_⟩
  unfold old
  rw [List.append_assoc, ← List.map_append, ← List.reverse_append, List.take_append_drop]
theorem abides_drewN {β : Type} {B : Nat} {J : β → World → Prop} (h : AbidesFrom B J) {s : β} {W : World} (hs : J s W) (m : Nat) : J s (W.drewN m) :=
  h s W (W.drewN m) none hs ⟨rfl, rfl, rfl, Nat.le_refl _, fun k _ _ => rfl⟩ (fun r e => by cases e)
set_option maxRecDepth 100000 in
set_option maxHeartbeats 8000000 in
theorem older_stops (F : Fence) (n : Nat) (h29 : F.fn 40) (hro : F.round = none) (hn : 1 ≤ n) (w1 : World) (B1 B2 B3 : Nat) (A0 A1 : Option Addr) (c0 c1 : Nat) (l : List S37) (b : List S48) (q : Int)
    (hb1 : w1.cell? ⟨B1, 0, none⟩ = some (.slice A0 l.length c0)) (hb2 : w1.cell? ⟨B2, 0, none⟩ = some (.int .u64 q)) (hb3 : w1.cell? ⟨B3, 0, none⟩ = some (.slice A1 b.length c1))
    (l1 : B1 < w1.heap.size) (l2 : B2 < w1.heap.size) (l3 : B3 < w1.heap.size) (h37 : Kd.C k37 w1 A0 l.length l) (h48 : Kd.C k48 w1 A1 b.length b) (m0 : (l.length : Int) ≤ 9223372036854775807) (m1 : (b.length : Int) ≤ 9223372036854775807) :
    SeqStopsK F n Try.prog 40 #[.pointer (some ⟨B1, 0, none⟩), .pointer (some ⟨B2, 0, none⟩), .pointer (some ⟨B3, 0, none⟩)] encX (Below w1.heap.size) (fun xs => xs = old q l b) (fun pre => pre <+: old q l b) (l.length + b.length) w1 := fun lk J Jx W hW hJ hJx hY h0 => by
  refine callsIn_of_wp Try.func40 rfl h29 ?_ hro
  simp only [Try.ntmps40, List.size_toArray, List.length_cons, List.length_nil, Nat.reduceAdd, Nat.reduceSub, Array.replicate_succ, Array.replicate_zero, List.push_toArray, List.append_toArray, List.nil_append, List.cons_append]
  have hc1 := (hW.cell (p := ⟨B1, 0, none⟩) l1).trans hb1
  gi_wp2
  gi_loopw [5] (fun i wr => ∃ z : Int, -1 ≤ z ∧ z < (l.length : Int) ∧ i = .int .i64 z ∧ J (sqs q (l.drop (z + 1).toNat).reverse) wr ∧ Below w1.heap.size w1 wr) (fun i _ => (intOf i + 1).toNat)
  case atStart => exact ⟨(l.length : Int) - 1, by omega, by omega, rfl, by rw [show ((l.length : Int) - 1 + 1).toNat = l.length by omega, List.drop_length]; exact h0, hW⟩
  case round =>
    clear hc1
    obtain ⟨z, hz0, hz1, rfl, hJs, hnx⟩ := hrel
    have hc1 := (hnx.cell (p := ⟨B1, 0, none⟩) l1).trans hb1
    have hc2 := (hnx.cell (p := ⟨B2, 0, none⟩) l2).trans hb2
    have hc3 := (hnx.cell (p := ⟨B3, 0, none⟩) l3).trans hb3
    by_cases hz : 0 ≤ z
    · obtain ⟨ad, eA, x0, x1, x2, x3, x4⟩ := at_T37 (Kd.C_below h37 hnx) z hz hz1
      cases eA
      have hsn : sqs q (l.drop z.toNat).reverse = sqs q (l.drop (z + 1).toNat).reverse ++ if sqOk q (rd_T37 l z) = true then [ofSq (rd_T37 l z)] else [] := by
        rw [drop_rev l z37 hz hz1, sqs_snoc]; rfl
      obtain ⟨s, es⟩ : ∃ s, rd_T37 l z = s := ⟨_, rfl⟩
      rw [es] at hsn x0 x1 x2 x3 x4
      have HS := Aside0.mk (And.intro hsn es)
      clear hsn es
      by_cases k4 : s.f4 = true
      · rw [k4] at x4
        by_cases kq : s.f0 < q
        · have d0 : decide (s.f0 < q) = true := decide_eq_true kq
          have HQ := Aside0.mk (And.intro k4 kq)
          clear k4 kq
          gi_wp2
          refine wpIn_region_qtail 37 (by kernel_rfl) (by kernel_rfl) (by kernel_rfl) (C := fun w' => ∃ m, w' = wr.drewN m) ⟨1, rfl⟩ ?_
          simp only [List.take_succ_cons, List.take_zero, List.drop_succ_cons, List.drop_zero]
          repeat (gi_big_quiet_step (fail))
          refine wpQuietIn_nil ?_
          rintro w' ⟨m, rfl⟩
          obtain ⟨fn, tmps, assign, body, hy, hR⟩ := hY _ (ofSq s) (wr.drewN m) (abides_drewN hJ hJs m) (by have := sqs_len q (l.drop (z + 1).toNat).reverse; simp at this; omega)
          dsimp only [encX, ofSq] at hy
          gi_wp2
          refine hR.mono ?_
          rintro e W3 (⟨rfl, hJ3, hk3⟩ | ⟨rfl, hJx3⟩)
          · gi_wp2
            go_roundw
            case rel => exact ⟨z - 1, by omega, by omega, rfl, by rw [show z - 1 + 1 = z by omega, HS.out.1, if_pos (by unfold sqOk; rw [HQ.out.1, decide_eq_true HQ.out.2]; rfl)]; exact hJ3, (hnx.trans (pw_below_drewN (Below.refl _ _) m)).trans hk3⟩
            case measure => simp [intOf]; omega
          · gi_wp2
            refine bodyPost_ret (results_none rfl _ _ _) rfl ?_
            refine ⟨⟨_, rfl⟩, .inr ⟨_, ?_, hJx3⟩⟩
            have := sqs_pre q l b z.toNat
            rw [HS.out.1, if_pos (by unfold sqOk; rw [HQ.out.1, decide_eq_true HQ.out.2]; rfl)] at this
            exact this
        · have d0 : decide (s.f0 < q) = false := decide_eq_false kq
          have HQ := Aside0.mk kq
          clear k4 kq
          gi_wp2
          refine wpIn_region_qtail 37 (by kernel_rfl) (by kernel_rfl) (by kernel_rfl) (C := fun w' => ∃ m, w' = wr.drewN m) ⟨1, rfl⟩ ?_
          simp only [List.take_succ_cons, List.take_zero, List.drop_succ_cons, List.drop_zero]
          repeat (gi_big_quiet_step (fail))
          refine wpQuietIn_nil ?_
          rintro w' ⟨m, rfl⟩
          have hJ2 := abides_drewN hJ hJs m
          gi_wp2
          refine ⟨fun _ h => (by cases h), ?_⟩
          gi_wp2
          go_roundw
          case rel => exact ⟨z - 1, by omega, by omega, rfl, by rw [show z - 1 + 1 = z by omega, HS.out.1, if_neg (by unfold sqOk; simp [HQ.out]), List.append_nil]; exact hJ2, hnx.trans (pw_below_drewN (Below.refl _ _) m)⟩
          case measure => simp [intOf]; omega
      · have k4' : s.f4 = false := by simpa using k4
        rw [k4'] at x4
        have HQ := Aside0.mk k4'
        clear k4 k4'
        gi_wp2
        refine wpIn_region_qtail 37 (by kernel_rfl) (by kernel_rfl) (by kernel_rfl) (C := fun w' => ∃ m, w' = wr.drewN m) ⟨1, rfl⟩ ?_
        simp only [List.take_succ_cons, List.take_zero, List.drop_succ_cons, List.drop_zero]
        repeat (gi_big_quiet_step (fail))
        refine wpQuietIn_nil ?_
        rintro w' ⟨m, rfl⟩
        have hJ2 := abides_drewN hJ hJs m
        gi_wp2
        refine ⟨fun _ h => (by cases h), ?_⟩
        gi_wp2
        go_roundw
        case rel => exact ⟨z - 1, by omega, by omega, rfl, by rw [show z - 1 + 1 = z by omega, HS.out.1, if_neg (by unfold sqOk; simp [HQ.out]), List.append_nil]; exact hJ2, hnx.trans (pw_below_drewN (Below.refl _ _) m)⟩
        case measure => simp [intOf]; omega
    · obtain rfl : z = -1 := by omega
      have hJ1 : J (sqs q l.reverse) wr := hJs
      clear hJs
      gi_wp2
      gi_loopw [6] (fun i wr => ∃ z : Int, -1 ≤ z ∧ z < (b.length : Int) ∧ i = .int .i64 z ∧ J (sqs q l.reverse ++ (b.drop (z + 1).toNat).reverse.map ofSb) wr ∧ Below w1.heap.size w1 wr) (fun i _ => (intOf i + 1).toNat)
      case atStart => exact ⟨(b.length : Int) - 1, by omega, by omega, rfl, by rw [show ((b.length : Int) - 1 + 1).toNat = b.length by omega, List.drop_length]; simpa using hJ1, hnx⟩
      case round =>
        clear hc1 hc2 hc3 hJ1 hnx
        obtain ⟨z, hz0, hz1, rfl, hJs, hnx⟩ := hrel
        have hc1 := (hnx.cell (p := ⟨B1, 0, none⟩) l1).trans hb1
        have hc2 := (hnx.cell (p := ⟨B2, 0, none⟩) l2).trans hb2
        have hc3 := (hnx.cell (p := ⟨B3, 0, none⟩) l3).trans hb3
        by_cases hz : 0 ≤ z
        · obtain ⟨ad, eA, x0, x1, x2⟩ := at_T48 (Kd.C_below h48 hnx) z hz hz1
          cases eA
          have hsn : sqs q l.reverse ++ (b.drop z.toNat).reverse.map ofSb = (sqs q l.reverse ++ (b.drop (z + 1).toNat).reverse.map ofSb) ++ [ofSb (rd_T48 b z)] := by
            rw [drop_rev b z48 hz hz1, List.map_append, ← List.append_assoc]; rfl
          obtain ⟨s, es⟩ : ∃ s, rd_T48 b z = s := ⟨_, rfl⟩
          rw [es] at hsn x0 x1 x2
          have HS := Aside0.mk (And.intro hsn es)
          clear hsn es
          gi_wp2
          refine wpIn_region_qtail 17 (by kernel_rfl) (by kernel_rfl) (by kernel_rfl) (C := fun w' => ∃ m, w' = wr.drewN m) ⟨1, rfl⟩ ?_
          simp only [List.take_succ_cons, List.take_zero, List.drop_succ_cons, List.drop_zero]
          repeat (gi_big_quiet_step (fail))
          refine wpQuietIn_nil ?_
          rintro w' ⟨m, rfl⟩
          obtain ⟨fn, tmps, assign, body, hy, hR⟩ := hY _ (ofSb s) (wr.drewN m) (abides_drewN hJ hJs m) (by have := sqs_len q l.reverse; simp at this ⊢; omega)
          dsimp only [encX, ofSb] at hy
          gi_wp2
          refine hR.mono ?_
          rintro e W3 (⟨rfl, hJ3, hk3⟩ | ⟨rfl, hJx3⟩)
          · gi_wp2
            go_roundw
            case rel => exact ⟨z - 1, by omega, by omega, rfl, by rw [show z - 1 + 1 = z by omega, HS.out.1]; exact hJ3, (hnx.trans (pw_below_drewN (Below.refl _ _) m)).trans hk3⟩
            case measure => simp [intOf]; omega
          · gi_wp2
            refine bodyPost_ret (results_none rfl _ _ _) rfl ?_
            refine ⟨⟨_, rfl⟩, .inr ⟨_, ?_, hJx3⟩⟩
            have := sbs_pre q l b z.toNat
            rw [HS.out.1] at this
            exact this
        · obtain rfl : z = -1 := by omega
          gi_wp2
          go_end0
          exact ⟨⟨_, rfl⟩, .inl hJs⟩
end Go.Proofs.Ytmpnnppgppoliaa.PFwd
