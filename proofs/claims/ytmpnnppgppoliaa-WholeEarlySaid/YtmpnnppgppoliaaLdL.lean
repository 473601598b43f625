/- What the law calls, over what is under way: contracts. The conditions are those that each names. -/
import Derived.Test.YtmpnnppgppoliaaLdK
namespace Go.Proofs.Ytmpnnppgppoliaa.Ld
open Go Go.Proofs Go.RowKit Go.Proofs.YtmpnnppgppoliaaW.PrintWords Go.Proofs.YtmpnnppgppoliaaW.PrintLast Go.Proofs.YtmpnnppgppoliaaW.PrintMore Go.Proofs.Ytmpnnppgppoliaa.Boxes Go.Proofs.Ytmpnnppgppoliaa.PFwd
attribute [local go_sem] max2_int min2_int max_two min_two max_three min_three max_four min_four   -- for this text's walks alone
set_option linter.unusedVariables false
set_option linter.unusedSimpArgs false

/-- The four rows that are under way. -/
structure QF (w : World) (flat m : List Int) (q : List S37) (b : List S48) (A3 A4 A5 A6 : Option Addr) (c3 c4 c5 c6 : Nat) : Prop where
  f3 : Kd.C (Kd.int .u8) w A3 flat.length flat
  f4 : Kd.C (Kd.int .u8) w A4 m.length m
  f5 : Kd.C k37 w A5 q.length q
  f6 : Kd.C k48 w A6 b.length b
  g3 : flat.length ≤ c3
  g4 : m.length ≤ c4
  g5 : q.length ≤ c5
  g6 : b.length ≤ c6
theorem QF.below {w w' : World} {flat m : List Int} {q : List S37} {b : List S48} {A3 A4 A5 A6 : Option Addr} {c3 c4 c5 c6 : Nat} (h : QF w flat m q b A3 A4 A5 A6 c3 c4 c5 c6) (hb : Below w.heap.size w w') : QF w' flat m q b A3 A4 A5 A6 c3 c4 c5 c6 :=
  ⟨Kd.C_below h.f3 hb, Kd.C_below h.f4 hb, Kd.C_below h.f5 hb, Kd.C_below h.f6 hb, h.g3, h.g4, h.g5, h.g6⟩
theorem QF.start {w : World} {A3 A4 : Option Addr} {c3 c4 : Nat} (h3 : 64 ≤ c3 ∧ Kd.C (Kd.int .u8) w A3 64 (List.replicate 64 0)) (h4 : 64 ≤ c4 ∧ Kd.C (Kd.int .u8) w A4 64 (List.replicate 64 0)) : QF w (List.replicate 64 0) (List.replicate 64 0) [] [] A3 A4 none none c3 c4 0 0 :=
  ⟨by rw [List.length_replicate]; exact h3.2, by rw [List.length_replicate]; exact h4.2, (Kd.R_reads' (Kd.R_nil k37 56 w w.heap.size (fun _ => True))).2.2, (Kd.R_reads' (Kd.R_nil k48 64 w w.heap.size (fun _ => True))).2.2, by rw [List.length_replicate]; exact h3.1, by rw [List.length_replicate]; exact h4.1, Nat.le_refl _, Nat.le_refl _⟩

/-- What a deed says. -/
def GoodD (y : Dd) : Prop := 0 ≤ y.f1 ∧ 0 ≤ y.f2 ∧ y.f2 ≤ 65535 ∧ U y.f3
theorem deed {y : Dd} (h : GoodD y) : ∃ s n t z a : Int, y.f1.tmod 3 = s ∧ 0 ≤ s ∧ s < 3 ∧ wrap64 (2 ^ s.toNat) = n ∧ n ≠ 0 ∧ wrap64 y.f2 = y.f2 ∧ y.f2.tmod 64 = t ∧ wrap64 (t.tdiv n) = z ∧ wrap64 (z * n) = a ∧ a % 4294967296 = a ∧ Okm 64 a n := by
  obtain ⟨h1, h2, h3, _⟩ := h
  have e1 : y.f1.tmod 3 = y.f1 % 3 := Int.tmod_eq_emod_of_nonneg h1
  have e2 : y.f2.tmod 64 = y.f2 % 64 := Int.tmod_eq_emod_of_nonneg h2
  have g : ∀ n t : Int, (n = 1 ∨ n = 2 ∨ n = 4) → 0 ≤ t → t < 64 → wrap64 (t.tdiv n) = t / n ∧ wrap64 (t / n * n) = t / n * n ∧ (t / n * n) % 4294967296 = t / n * n ∧ Okm 64 (t / n * n) n := by
    intro n t hn h0 h1
    rw [Int.tdiv_eq_ediv_of_nonneg h0]
    unfold Okm
    rcases hn with rfl | rfl | rfl
    · exact ⟨wrap_i (by omega) (by omega), wrap_i (by omega) (by omega), by omega, by omega⟩
    · exact ⟨wrap_i (by omega) (by omega), wrap_i (by omega) (by omega), by omega, by omega⟩
    · exact ⟨wrap_i (by omega) (by omega), wrap_i (by omega) (by omega), by omega, by omega⟩
  obtain ⟨n, hn, hn2⟩ : ∃ n, wrap64 (2 ^ (y.f1 % 3).toNat) = n ∧ (n = 1 ∨ n = 2 ∨ n = 4) := by
    rcases (show y.f1 % 3 = 0 ∨ y.f1 % 3 = 1 ∨ y.f1 % 3 = 2 by omega) with q | q | q <;> rw [q]
    · exact ⟨1, (wrap_i (x := 1) (by decide) (by decide) : _), Or.inl rfl⟩
    · exact ⟨2, (wrap_i (x := 2) (by decide) (by decide) : _), Or.inr (Or.inl rfl)⟩
    · exact ⟨4, (wrap_i (x := 4) (by decide) (by decide) : _), Or.inr (Or.inr rfl)⟩
  obtain ⟨g1, g2, g3, g4⟩ := g n (y.f2 % 64) hn2 (by omega) (by omega)
  exact ⟨y.f1 % 3, n, y.f2 % 64, y.f2 % 64 / n, y.f2 % 64 / n * n, e1, by omega, by omega, hn, by omega, wrap_i (by omega) (by omega), e2, g1, g2, g3, g4⟩
section
variable {x : Int} {flat m : List Int} {q : List S37} {b : List S48} {A3 A4 A5 A6 : Option Addr} {c3 c4 c5 c6 : Nat} {w : World}
theorem cPut (hI : InvS x flat m q b) (hl : q.length < 16) {q1 : List S37} (h1 : q ++ [⟨x + 1, 0, 0, 0, false⟩] = q1) (hQ : QF w flat m q b A3 A4 A5 A6 c3 c4 c5 c6) :
    Calls Try.prog 8 #[.slice A5 q.length c5, .int .u64 (x + 1), .int .i64 16] w fun e w' => ∃ A c, e = .returned (.tuple #[.slice A q1.length c, .bool true]) ∧ Kd.C k37 w' A q1.length q1 ∧ Below w.heap.size w w' := by
  refine (sqPut A5 c5 q (x + 1) 16 w hQ.f5 (by have := hI.lq; omega) (by omega)).mono ?_
  rintro e w' ⟨⟨r, rfl, hR⟩, hB⟩
  obtain ⟨A, c, rfl⟩ := Kd.R_slice hR
  subst h1
  exact ⟨A, c, rfl, (Kd.R_reads' hR).2.2, hB⟩
theorem cFull (hl : ¬ q.length < 16) : Calls Try.prog 8 #[.slice A5 q.length c5, .int .u64 (x + 1), .int .i64 16] w fun e w' => e = .returned (.tuple #[.slice none 0 0, .bool false]) ∧ Below w.heap.size w w' :=
  sqFull A5 c5 q (x + 1) 16 w (by omega)
theorem cSet (hI : InvS x flat m q b) (hl : q.length < 16) {a n v : Int} {q1 q2 : List S37} (h1 : q ++ [⟨x + 1, 0, 0, 0, false⟩] = q1) (h2 : q ++ [⟨x + 1, a, v, n, true⟩] = q2) {A : Option Addr} {c : Nat} (hC : Kd.C k37 w A q1.length q1) :
    Calls Try.prog 13 #[.slice A q1.length c, .agg #[.int .u64 (x + 1), .int .u32 a, .int .u32 v, .int .i64 n, .bool true]] w fun e w' => ∃ A c, e = .returned (.slice A q2.length c) ∧ q2.length ≤ c ∧ Kd.C k37 w' A q2.length q2 ∧ Below w.heap.size w w' := by
  refine (sqSet A c q1 ⟨x + 1, a, v, n, true⟩ w hC (by rw [← h1]; simp; omega)).mono ?_
  rintro e w' ⟨r, rfl, hR, hB⟩
  rw [← h1, set_inv hI, h2] at hR
  obtain ⟨A, c, rfl⟩ := Kd.R_slice hR
  exact ⟨A, c, rfl, (Kd.R_reads' hR).2.1, (Kd.R_reads' hR).2.2, hB⟩
theorem cWrite {a n v : Int} {f2 : List Int} (ho : Okm flat.length a n) (h : wrX flat a n v = f2) (hC : Kd.C (Kd.int .u8) w A3 flat.length flat) (hc : flat.length ≤ c3) :
    Calls Try.prog 7 #[.slice A3 flat.length c3, .int .u32 a, .int .i64 n, .int .u32 v] w fun e w' => ∃ A c, e = .returned (.tuple #[.slice A f2.length c, .int .i64 0]) ∧ f2.length ≤ c ∧ Kd.C (Kd.int .u8) w' A f2.length f2 ∧ Below w.heap.size w w' := by
  subst h
  exact (mwrite A3 c3 flat a n v ho w hC hc).mono fun e w' ⟨⟨A, c, h1, h2, h3⟩, h4⟩ => ⟨A, c, h1, h2, h3, h4⟩
theorem cFind {a n kd v fr : Int} (h : findX a n (old (x + 1) q b) = (kd, v, fr)) (hQ : QF w flat m q b A3 A4 A5 A6 c3 c4 c5 c6) :
    Calls Try.prog 14 #[.slice A5 q.length c5, .slice A6 b.length c6, .int .u64 (x + 1), .int .u32 a, .int .i64 n] w fun e w' => e = .returned (.tuple #[.int .i64 kd, .int .u32 v, .int .u64 fr]) ∧ Below w.heap.size w w' :=
  fwd_Find.calls 0 A5 c5 q A6 c6 b (x + 1) a n kd v fr w hQ.f5 hQ.g5 hQ.f6 hQ.g6 (by unfold fwd_Find.f; rw [h])
theorem cRead {a n r : Int} (ho : Okm flat.length a n) (h : rdX flat a n = r) (hC : Kd.C (Kd.int .u8) w A3 flat.length flat) (hc : flat.length ≤ c3) :
    Calls Try.prog 6 #[.slice A3 flat.length c3, .int .u32 a, .int .i64 n] w fun e w' => e = .returned (.tuple #[.int .u32 r, .int .i64 0]) ∧ Below w.heap.size w w' := by
  subst h
  exact mread A3 c3 flat a n ho w hC hc
theorem cPop (hI : InvS x flat m q b) (hp : 0 < q.length) {y : S37} {q1 : List S37} (hy : rd_T37 q 0 = y) (h1 : q.drop 1 = q1) (hQ : QF w flat m q b A3 A4 A5 A6 c3 c4 c5 c6) :
    Calls Try.prog 15 #[.slice A5 q.length c5, .int .u64 y.f0] w fun e w' => ∃ A c, e = .returned (.tuple #[.slice A q1.length c, .agg #[.int .u64 y.f0, .int .u32 y.f1, .int .u32 y.f2, .int .i64 y.f3, .bool y.f4], .bool true]) ∧ q1.length ≤ c ∧ Kd.C k37 w' A q1.length q1 ∧ Below w.heap.size w w' := by
  subst hy
  subst h1
  refine (sqPop A5 c5 q w hQ.f5 hQ.g5 hp (by have := hI.lq; omega)).mono ?_
  rintro e w' ⟨⟨r, rfl, hR⟩, hB⟩
  obtain ⟨A, c, rfl⟩ := Kd.R_slice hR
  exact ⟨A, c, rfl, (Kd.R_reads' hR).2.1, (Kd.R_reads' hR).2.2, hB⟩
theorem cPutB (hl : b.length < 8) {y : S37} {b1 : List S48} (h1 : b ++ [⟨y.f1, y.f2, y.f3⟩] = b1) (hQ : QF w flat m q b A3 A4 A5 A6 c3 c4 c5 c6) :
    Calls Try.prog 16 #[.slice A6 b.length c6, .agg #[.int .u64 y.f0, .int .u32 y.f1, .int .u32 y.f2, .int .i64 y.f3, .bool y.f4], .int .i64 8] w fun e w' => ∃ A c, e = .returned (.tuple #[.slice A b1.length c, .bool true]) ∧ b1.length ≤ c ∧ Kd.C k48 w' A b1.length b1 ∧ Below w.heap.size w w' := by
  subst h1
  refine (sbPut A6 c6 b y 8 w hQ.f6 hQ.g6 (by decide) (by omega)).mono ?_
  rintro e w' ⟨⟨r, rfl, hR⟩, hB⟩
  obtain ⟨A, c, rfl⟩ := Kd.R_slice hR
  exact ⟨A, c, rfl, (Kd.R_reads' hR).2.1, (Kd.R_reads' hR).2.2, hB⟩
theorem cFullB (hl : ¬ b.length < 8) {y : S37} :
    Calls Try.prog 16 #[.slice A6 b.length c6, .agg #[.int .u64 y.f0, .int .u32 y.f1, .int .u32 y.f2, .int .i64 y.f3, .bool y.f4], .int .i64 8] w fun e w' => e = .returned (.tuple #[.slice A6 b.length c6, .bool false]) ∧ Below w.heap.size w w' :=
  sbFull A6 c6 b y 8 w (by decide) (by omega)
theorem cPopB (hI : InvS x flat m q b) (hp : 0 < b.length) {y : S48} {b1 : List S48} (hy : rd_T48 b 0 = y) (h1 : b.drop 1 = b1) (hQ : QF w flat m q b A3 A4 A5 A6 c3 c4 c5 c6) :
    Calls Try.prog 17 #[.slice A6 b.length c6] w fun e w' => ∃ A c, e = .returned (.tuple #[.slice A b1.length c, .agg #[.int .u32 y.f0, .int .u32 y.f1, .int .i64 y.f2], .bool true]) ∧ b1.length ≤ c ∧ Kd.C k48 w' A b1.length b1 ∧ Below w.heap.size w w' := by
  subst hy
  subst h1
  exact (sbPop A6 c6 b w hQ.f6 hQ.g6 hp (by have := hI.lb; omega)).mono fun e w' ⟨⟨A, h1, h2⟩, h4⟩ => ⟨A, _, h1, Nat.le_refl _, h2, h4⟩
theorem cNoneB (hp : ¬ 0 < b.length) : Calls Try.prog 17 #[.slice A6 b.length c6] w fun e w' => e = .returned (.tuple #[.slice none 0 0, .agg #[.int .u32 0, .int .u32 0, .int .i64 0], .bool false]) ∧ Below w.heap.size w w' := by
  rw [show b.length = 0 by omega]
  exact sbNone A6 c6 w
theorem cDrain (hI : InvS x flat m q b) {d : List Int} (h : drainX m b = d) (hQ : QF w flat m q b A3 A4 A5 A6 c3 c4 c5 c6) :
    Calls Try.prog 18 #[.slice A6 b.length c6, .slice A4 m.length c4] w fun e w' => ∃ A c, e = .returned (.slice A d.length c) ∧ d.length ≤ c ∧ Kd.C (Kd.int .u8) w' A d.length d ∧ Below w.heap.size w w' := by
  subst h
  refine (sbDrain A6 c6 b A4 c4 m w hQ.f6 (by have := hI.lb; omega) hQ.f4 hQ.g4 (drain_all hI)).mono ?_
  rintro e w' ⟨⟨A, c, rfl, h1, h2, h3⟩, hB⟩
  rw [← h2] at h3 h1
  exact ⟨A, c, by rw [h2], h1, h3, hB⟩
end

end Go.Proofs.Ytmpnnppgppoliaa.Ld
