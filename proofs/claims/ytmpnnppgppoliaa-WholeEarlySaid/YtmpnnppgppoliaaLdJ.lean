/- What the law's own example comes to: a walk of the code. No condition. -/
import Derived.Test.YtmpnnppgppoliaaLdI
namespace Go.Proofs.Ytmpnnppgppoliaa.Ld
open Go Go.Proofs Go.RowKit Go.Proofs.YtmpnnppgppoliaaW.PrintWords Go.Proofs.YtmpnnppgppoliaaW.PrintLast Go.Proofs.YtmpnnppgppoliaaW.PrintMore Go.Proofs.Ytmpnnppgppoliaa.Boxes Go.Proofs.Ytmpnnppgppoliaa.PFwd
attribute [local go_sem] max2_int min2_int max_two min_two max_three min_three max_four min_four   -- for this text's walks alone
set_option linter.unusedVariables false
set_option linter.unusedSimpArgs false

def p0 : S37 := ⟨1, 0, 0, 0, false⟩
def q1 : S37 := ⟨1, 8, 7, 4, true⟩
theorem set1 : setX [p0] q1 = [q1] := by
  unfold setX
  rw [if_pos (by decide)]
  rfl
theorem find1 : findX 8 4 (old 2 [q1] []) = (1, 7, 1) := by decide +kernel
theorem has1 : (([⟨8, 7, 4⟩] : List S48).any fun s => ovB s.f0 s.f2 8 4) = true := by decide +kernel
theorem put0 (w : World) : Calls Try.prog 8 #[.slice none 0 0, .int .u64 1, .int .i64 4] w fun e w' => (∃ r, e = .returned (.tuple #[r, .bool true]) ∧ Kd.R k37 56 w' w.heap.size (fun _ => True) r [p0]) ∧ Below w.heap.size w w' :=
  sqPut none 0 [] 1 4 w (Kd.R_reads' (Kd.R_nil k37 56 w w.heap.size (fun _ => True))).2.2 (by decide) (by decide)
theorem setq (A : Option Addr) (c : Nat) (w : World) (hC : Kd.C k37 w A 1 [p0]) : Calls Try.prog 13 #[.slice A 1 c, .agg #[.int .u64 1, .int .u32 8, .int .u32 7, .int .i64 4, .bool true]] w fun e_ w' => ∃ r, e_ = .returned r ∧ Kd.R k37 56 w' w.heap.size (fun _ => True) r [q1] ∧ Below w.heap.size w w' := by
  have := sqSet A c [p0] q1 w hC (by decide)
  rw [set1] at this
  exact this
theorem findq (A : Option Addr) (c : Nat) (w : World) (hC : Kd.C k37 w A 1 [q1]) (hc : 1 ≤ c) : Calls Try.prog 14 #[.slice A 1 c, .slice none 0 0, .int .u64 2, .int .u32 8, .int .i64 4] w fun e w' => e = .returned (.tuple #[.int .i64 1, .int .u32 7, .int .u64 1]) ∧ Below w.heap.size w w' :=
  fwd_Find.calls 0 A c [q1] none 0 [] 2 8 4 1 7 1 w hC hc (Kd.R_reads' (Kd.R_nil k48 64 w w.heap.size (fun _ => True))).2.2 (Nat.le_refl _) (by unfold fwd_Find.f; rw [find1])
theorem zok : Okm 64 8 4 := by unfold Okm; omega
theorem writeq (A : Option Addr) (c : Nat) (w : World) (hC : Kd.C (Kd.int .u8) w A 64 (List.replicate 64 0)) (hc : 64 ≤ c) : Calls Try.prog 7 #[.slice A 64 c, .int .u32 8, .int .i64 4, .int .u32 9] w fun e w' => (∃ A c, e = .returned (.tuple #[.slice A 64 c, .int .i64 0])) ∧ Below w.heap.size w w' := by
  have hl : (List.replicate 64 (0 : Int)).length = 64 := by simp
  have ho : Okm (List.replicate 64 (0 : Int)).length 8 4 := by rw [hl]; exact zok
  have := mwrite A c (List.replicate 64 0) 8 4 9 ho w (by rw [hl]; exact hC) (by rw [hl]; exact hc)
  rw [wrX_len 9 ho, hl] at this
  exact this.mono fun e w' ⟨⟨A, c, h, _, _⟩, hb⟩ => ⟨⟨A, c, h⟩, hb⟩
theorem sbq (w : World) : Calls Try.prog 16 #[.slice none 0 0, .agg #[.int .u64 1, .int .u32 8, .int .u32 7, .int .i64 4, .bool true], .int .i64 1] w fun e_ w' => (∃ r, e_ = .returned (.tuple #[r, .bool true]) ∧ Kd.R k48 64 w' w.heap.size (fun _ => True) r [⟨8, 7, 4⟩]) ∧ Below w.heap.size w w' :=
  sbPut none 0 [] q1 1 w (Kd.R_reads' (Kd.R_nil k48 64 w w.heap.size (fun _ => True))).2.2 (Nat.le_refl _) (by decide) (by decide)
theorem hasq (A : Option Addr) (c : Nat) (w : World) (hC : Kd.C k48 w A 1 [⟨8, 7, 4⟩]) : Calls Try.prog 20 #[.slice A 1 c, .int .u32 8, .int .i64 4] w fun e w' => e = .returned (.bool true) ∧ Below w.heap.size w w' := by
  have := sbHas A c [⟨8, 7, 4⟩] 8 4 w hC (by decide)
  rw [has1] at this
  exact this
theorem earlyq (w : World) : Calls Try.prog 21 #[.slice none 0 0, .agg #[.int .u64 1, .int .u32 8, .int .u32 7, .int .i64 4, .bool true]] w fun e_ w' => e_ = .returned (.int .u64 0) ∧ Below w.heap.size w w' := early0 q1 w

theorem hg_below {w w1 : World} (h : w.grownBy w1 none) : Below w.heap.size w w1 := ⟨h.os, h.tape, h.output, h.size, fun k hk => h.block k hk (by simp)⟩
set_option maxHeartbeats 16000000 in
set_option maxRecDepth 100000 in
theorem awake (w : World) : Calls Try.prog 5 #[] w fun e w' => e = .returned (.bool true) ∧ Below w.heap.size w w' := by
  go_enter Try.func5, Try.ntmps5
  go_upto_region 9 with (first | (go_at_call 8; (with_reducible refine (put0 _).mono ?_); rintro e_ w1 ⟨⟨v1, rfl, hR_⟩, hB_⟩; have HB1 := Aside0.mk hB_; have HO1 := Aside0.mk hR_; obtain ⟨A1, c1, e1⟩ := Kd.R_slice HO1.out; rw [show ([p0] : List S37).length = 1 from rfl] at e1; subst e1; clear hR_ hB_) | (go_at_call 13; (with_reducible refine (setq A1 c1 _ (Kd.R_reads' HO1.out).2.2).mono ?_); rintro e_ w2 ⟨v2, rfl, hR_, hB_⟩; have HB2 := Aside0.mk (below_step HB1.out hB_); have HO2 := Aside0.mk (Kd.R_lower hR_ (below_size HB1.out)); obtain ⟨A2, c2, e2⟩ := Kd.R_slice HO2.out; rw [show ([q1] : List S37).length = 1 from rfl] at e2; subst e2; clear hR_ hB_) | (go_at_call 14; (with_reducible refine (findq A2 c2 _ (Kd.R_reads' HO2.out).2.2 (Kd.R_reads' HO2.out).2.1).mono ?_); rintro e_ w3 ⟨rfl, hB_⟩; have HB3 := Aside0.mk (below_step HB2.out hB_); have HO3 := Aside0.mk (Kd.R_below HO2.out hB_); clear hB_) | ((with_reducible refine gate_dst (N := 34) rfl ?_); refine Kd.R_make (Kd.int .u8) _ 5 rfl (N := 34) rfl 23 _ _ rfl (64) rfl rfl Try.underlying23 (.int .u8 0) 1 info5 rfl (by decide) (by omega) 0 (ok := fun _ => True) (okp := fun _ => True) ?hz (fun _ hk => hk) trivial (by decide) (by decide) HB3.out (HB3.out).size ?_; (case hz => rfl); intro v9 w9 hR_ hB_ hg_ hn_; have HO4 := Aside0.mk (Kd.R_below HO3.out (hg_below hg_)); have HM4 := Aside0.mk hR_; have HB4 := Aside0.mk hB_; obtain ⟨A4, c4, e4⟩ := Kd.R_slice HM4.out; rw [show (List.replicate (64 : Int).toNat (0 : Int)).length = 64 by simp] at e4; subst e4; clear hR_ hg_ hn_ hB_) | (go_at_call 7; (with_reducible refine (writeq A4 c4 _ (Kd.R_reads' HM4.out).2.2 (Kd.R_reads' HM4.out).2.1).mono ?_); rintro e_ w5 ⟨⟨A5, c5, rfl⟩, hB_⟩; have HB5 := Aside0.mk (below_step HB4.out hB_); have HO5 := Aside0.mk (Kd.R_below HO4.out hB_); clear hB_))
  obtain ⟨ad, eA, h0, h1, h2, h3, h4⟩ := at_T37 (Kd.R_reads' HO5.out).2.2 0 (by decide) (by decide)
  subst eA
  have e0 : ad.add ((0 : Int).toNat * 5) = ad := by unfold Addr.add; rfl
  rw [e0] at h0 h1 h2 h3 h4
  have HSF := Aside0.mk (fun (w_ : World) (hb_ : Below w5.heap.size w5 w_) => (⟨(hb_.cell (World.block_lt_of_cell? w5 _ h0)).trans h0, (hb_.cell (World.block_lt_of_cell? w5 _ h1)).trans h1, (hb_.cell (World.block_lt_of_cell? w5 _ h2)).trans h2, (hb_.cell (World.block_lt_of_cell? w5 _ h3)).trans h3, (hb_.cell (World.block_lt_of_cell? w5 _ h4)).trans h4⟩ : w_.cell? ad = some (.int .u64 1) ∧ w_.cell? ⟨ad.block, ad.off + 1, none⟩ = some (.int .u32 8) ∧ w_.cell? ⟨ad.block, ad.off + 2, none⟩ = some (.int .u32 7) ∧ w_.cell? ⟨ad.block, ad.off + 3, none⟩ = some (.int .i64 4) ∧ w_.cell? ⟨ad.block, ad.off + 4, none⟩ = some (.bool true)))
  clear e0 h0 h1 h2 h3 h4
  obtain ⟨h0_, h1_, h2_, h3_, h4_⟩ := HSF.out _ (Below.refl _ _)
  go_wp2_with (first | (go_at_call 16; (with_reducible refine (sbq _).mono ?_); rintro e_ w6 ⟨⟨v6, rfl, hR_⟩, hB_⟩; have HB6 := Aside0.mk (below_step HB5.out hB_); have HBf := Aside0.mk hB_; have HS6 := Aside0.mk hR_; obtain ⟨A6, c6, e6⟩ := Kd.R_slice HS6.out; rw [show ([⟨8, 7, 4⟩] : List S48).length = 1 from rfl] at e6; subst e6; clear h0_ h1_ h2_ h3_ h4_; clear hR_ hB_) | (go_at_call 20; (with_reducible refine (hasq A6 c6 _ (Kd.R_reads' HS6.out).2.2).mono ?_); rintro e_ w7 ⟨rfl, hB_⟩; have HB7 := Aside0.mk (below_step HB6.out hB_); obtain ⟨h0_, h1_, h2_, h3_, h4_⟩ := HSF.out _ (below_step HBf.out hB_); clear hB_) | (go_at_call 21; (with_reducible refine (earlyq _).mono ?_); rintro e_ w8 ⟨rfl, hB_⟩; have HB8 := Aside0.mk (below_step HB7.out hB_); clear hB_))
  go_ret
  exact ⟨rfl, HB8.out⟩

end Go.Proofs.Ytmpnnppgppoliaa.Ld
