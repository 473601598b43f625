/- What sq.Set comes to: a walk of the code; steps over rows of any elements. The conditions are those that each theorem names. -/
import Derived.Test.YtmpnnppgppoliaaLdD
import Derived.Deep.RegionLawGrows
namespace Go.Proofs.Ytmpnnppgppoliaa.Ld
open Go Go.Proofs Go.RowKit Go.Proofs.YtmpnnppgppoliaaW.PrintWords Go.Proofs.YtmpnnppgppoliaaW.PrintLast Go.Proofs.YtmpnnppgppoliaaW.PrintMore Go.Proofs.Ytmpnnppgppoliaa.Boxes Go.Proofs.Ytmpnnppgppoliaa.PFwd
attribute [local go_sem] max2_int min2_int max_two min_two max_three min_three max_four min_four   -- for this text's walks alone
set_option linter.unusedVariables false
set_option linter.unusedSimpArgs false

section
variable {α : Type} {d : Kd α} {e : Nat} {w w1 : World} {base g n cap : Nat} {v : Value} {xs : List α}
theorem R_setfar (h : d.R e w base (fun _ => True) v xs) (hg : g < base) (j : Nat) (u : Value) : d.R e (w.setCell ⟨g, j, none⟩ u) base (fun _ => True) v xs :=
  Kd.R_mono (Kd.R_far (p := ⟨g, j, none⟩) (Kd.R_mono (ok' := fun k => k ≠ g) (Kd.R_bound h) (fun k hk => by have := hk.2.1; omega)) (fun k hk => hk) u) (fun _ _ => trivial)
/-- An element of a row of the call's own is written whole. -/
theorem st_elt {ops : Array Oper} {rest : List Oper} {op : Oper} {a : Act} {Q : Exit → Act → World → Prop} {P : Program} (hgd : op.guard = none) (t : TypeId) (y z : Operand) (ho : op.op = .store t y z) (hi : (P.info? t).map (·.size) = some d.sz) {w0 : World} {ok : Nat → Prop}
    (hR : d.R e w base ok (.slice (some ⟨g, 0, none⟩) n cap) xs) (i : Int) (h0 : 0 ≤ i) (h1 : i < n) (z0 x : α) (cs : List Value) (hM : ∀ okp, d.M w base okp x cs) (hl : cs.length = d.sz) (h1c : ∀ u ∈ cs, u.oneCell' = true)
    (hy : a.eval y = .pointer (some ⟨g, i.toNat * d.sz, none⟩)) (hz : a.eval z = .agg cs.toArray)
    (HB : Below base w0 w) (hg : base ≤ g) (h : ∀ w1, d.R e w1 base ok (.slice (some ⟨g, 0, none⟩) n cap) (xs.set i.toNat x) → Below base w0 w1 → wpList P ops Q rest (a.put op.dst undef) w1) : wpList P ops Q (op :: rest) a w := by
  obtain ⟨c, hcl, hMc, hcc, hfr⟩ := Kd.R_elem hR z0 i h0 h1
  obtain ⟨hR2, hgr⟩ := Kd.R_seg hR i h0 h1 (seg := cs) (j := 0) hcl hcc (by omega) (x' := x) (by rw [List.take_zero, List.nil_append, List.drop_of_length_le (by omega), List.append_nil]; exact hM _) (fun _ hk => hk)
  refine wpList_store_mid hgd t y z ho g (i.toNat * d.sz) cs.toArray hy hz (fun j hj => ⟨?_, hfr j⟩) (by rw [List.size_toArray, hl]; exact hi) (all_oneCell_toArray h1c) ?_
  · have hk : j < c.length := by simp at hj; omega
    rw [hcc j _ (List.getElem?_eq_getElem hk)]
    rfl
  have hgl : g < w.heap.size := Kd.R_lt hR g (by simp [Value.ownBlock])
  exact h _ hR2 ⟨hgr.os.trans HB.os, hgr.tape.trans HB.tape, hgr.output.trans HB.output, Nat.le_trans HB.size hgr.size, fun k hk => (hgr.block k (by omega) (by intro q; injection q; omega)).trans (HB.block k hk)⟩
end
theorem idxF_rng (s : Int) : ∀ (l : List S37) (k : Int), 0 ≤ k → idxF s l k = -1 ∨ (k ≤ idxF s l k ∧ idxF s l k < k + l.length)
  | [], k, h => Or.inl rfl
  | y :: r, k, h => by
    unfold idxF
    by_cases c : y.f0 = s
    · rw [if_pos c]; right; simp; omega
    · rw [if_neg c]
      rcases idxF_rng s r (k + 1) (by omega) with h1 | h1
      · exact Or.inl h1
      · right; simp; omega
/-- A queue in which a store is known. -/
def setX (l : List S37) (e : S37) : List S37 := if 0 ≤ idxF e.f0 l 0 then l.set (idxF e.f0 l 0).toNat {e with f4 := true} else l

set_option maxHeartbeats 8000000 in
set_option maxRecDepth 100000 in
theorem sqSet (A0 : Option Addr) (c0 : Nat) (l : List S37) (e : S37) (w : World) (hr0 : Kd.C k37 w A0 l.length l) (hl : l.length ≤ 200) :
    Calls Try.prog 13 #[.slice A0 l.length c0, .agg #[.int .u64 e.f0, .int .u32 e.f1, .int .u32 e.f2, .int .i64 e.f3, .bool e.f4]] w fun e_ w' => ∃ r, e_ = .returned r ∧ Kd.R k37 56 w' w.heap.size (fun _ => True) r (setX l e) ∧ Below w.heap.size w w' := by
  have HR0 := Aside0.mk hr0
  have HL := Aside0.mk hl
  have S0 := St.start w
  have AX := Aside0.mk (fun w_ (hC_ : Kd.C k37 w_ A0 l.length l) => atX A0 c0 l e.f0 w_ hC_ hl)
  have hrng := idxF_rng e.f0 l 0 (by decide)
  unfold setX
  obtain ⟨i, hi⟩ : ∃ i_, idxF e.f0 l 0 = i_ := ⟨_, rfl⟩
  rw [hi] at AX hrng ⊢
  clear hr0 hl hi
  by_cases c : 0 ≤ i
  · rw [if_pos c]
    have cb : decide (0 ≤ i) = true := decide_eq_true c
    have q1 : i < (l.length : Int) := by omega
    have HI := Aside0.mk (And.intro c q1)
    have q1' := decide_eq_true q1
    replace c := eq_true c
    replace q1 := eq_true q1
    clear hrng
    go_enter Try.func13, Try.ntmps13
    go_upto_region 5 with (first | ((with_reducible refine gate_dst (N := 3) rfl ?_); refine box_event ?hg (N := 3) ?hd (cs := #[.int .u64 e.f0, .int .u32 e.f1, .int .u32 e.f2, .int .i64 e.f3, .bool e.f4]) (t := 56) ?hr ?_; (case hd => rfl); (case hg => rfl); (case hr => first | (go_simp; done) | (go_simp; rfl)); intro g1 hg w1 hbox hb; have S1 := S0.box hg hbox hb; clear hg hbox hb; clear S0) | (go_at_call 26; (with_reducible refine (clone37 A0 c0 l _ (Kd.C_below HR0.out S1.below) HL.out).mono ?_); rintro e_ w2 ⟨v2, rfl, hR_, hB_⟩; have S2 := S1.call hB_; have HG1 := Aside0.mk (blk_lt (S1.heap ⟨g1, #[.int .u64 e.f0, .int .u32 e.f1, .int .u32 e.f2, .int .i64 e.f3, .bool e.f4], 56⟩ (by simp))); have HSZ := Aside0.mk (below_size S1.below); have HO2 := Aside0.mk hR_; obtain ⟨Ao, co, eo⟩ := Kd.R_slice HO2.out; subst eo; clear hR_ hB_; clear S1; have c0_ := S2.cell (b := ⟨g1, #[.int .u64 e.f0, .int .u32 e.f1, .int .u32 e.f2, .int .i64 e.f3, .bool e.f4], 56⟩) (by simp) (j := 0) (v := .int .u64 e.f0) rfl) | (go_at_call 29; (with_reducible refine (AX.out _ (Kd.C_below HR0.out S2.below)).mono ?_); rintro e_ w3 ⟨rfl, hB_⟩; have S3 := S2.call hB_; have HO3 := Aside0.mk (Kd.R_below HO2.out hB_); clear hB_; clear S2; have c4_ := S3.cell (b := ⟨g1, #[.int .u64 e.f0, .int .u32 e.f1, .int .u32 e.f2, .int .i64 e.f3, .bool e.f4], 56⟩) (by simp) (j := 4) (v := .bool e.f4) rfl; have z4_ := S3.frozen (b := ⟨g1, #[.int .u64 e.f0, .int .u32 e.f1, .int .u32 e.f2, .int .i64 e.f3, .bool e.f4], 56⟩) (by simp) 4))
    have S4 : St w (w3.setCell ⟨g1, 4, none⟩ (.bool true)) [⟨g1, #[.int .u64 e.f0, .int .u32 e.f1, .int .u32 e.f2, .int .i64 e.f3, .bool true], 56⟩] := St.set (L1 := []) (b := ⟨g1, #[.int .u64 e.f0, .int .u32 e.f1, .int .u32 e.f2, .int .i64 e.f3, .bool e.f4], 56⟩) S3 4 _
    have HO4 := Aside0.mk (R_setfar HO3.out HG1.out 4 (.bool true))
    clear S3 c0_ c4_ z4_
    generalize World.setCell _ _ _ = w4 at S4 HO4 ⊢
    obtain ⟨go, cap, eo, gb, gl, cells, hG⟩ := Kd.R_form HO4.out (by have := HI.out; omega)
    injection eo with ea en ec
    subst ea
    clear en ec hG gl cap
    have GB := Aside0.mk gb
    have HB4 := Aside0.mk (Below.refl w1.heap.size w4)
    have HS4 := Aside0.mk S4
    obtain ⟨w4b, hw4⟩ : ∃ x_, w4 = x_ := ⟨_, rfl⟩
    have HW4 := Aside0.mk hw4
    have HB4 := Aside0.mk (hw4 ▸ Below.refl w1.heap.size w4 : Below w1.heap.size w4b w4)
    clear hw4
    clear gb
    go_wp2_with (first | ((with_reducible refine gate_dst (N := 18) rfl ?_); refine wpList_load_row rfl 56 _ rfl g1 rfl 56 #[.int .u64 e.f0, .int .u32 e.f1, .int .u32 e.f2, .int .i64 e.f3, .bool true] (0, 0) _ (S4.heap ⟨g1, #[.int .u64 e.f0, .int .u32 e.f1, .int .u32 e.f2, .int .i64 e.f3, .bool true], 56⟩ (by simp)) Try.underlying56 rfl (by kernel_rfl) ?_) | ((with_reducible refine gate_store (t := 56) (p := 19) rfl ?_); refine st_elt (d := k37) (w0 := w4b) rfl 56 _ _ rfl (by kernel_rfl) HO4.out i HI.out.1 HI.out.2 z37 {e with f4 := true} (cs37 {e with f4 := true}) (fun _ => k37_mkM _ _ _ _) rfl (by simp [cs37, Value.oneCell']) rfl rfl HB4.out GB.out ?_; intro w5 hR_ hB_; have HO5 := Aside0.mk hR_; have HB5 := Aside0.mk hB_; clear hR_ hB_))
    go_ret
    refine ⟨_, rfl, Kd.R_lower HO5.out HSZ.out, ?_⟩
    have h_ := HB5.out
    rw [← HW4.out] at h_
    exact (HS4.out.below).trans ⟨h_.os, h_.tape, h_.output, h_.size, fun k hk => h_.block k (Nat.lt_of_lt_of_le hk HSZ.out)⟩
  · rw [if_neg c]
    have cb : decide (0 ≤ i) = false := decide_eq_false c
    clear c hrng
    go_enter Try.func13, Try.ntmps13
    go_wp2_with (first | ((with_reducible refine gate_dst (N := 3) rfl ?_); refine box_event ?hg (N := 3) ?hd (cs := #[.int .u64 e.f0, .int .u32 e.f1, .int .u32 e.f2, .int .i64 e.f3, .bool e.f4]) (t := 56) ?hr ?_; (case hd => rfl); (case hg => rfl); (case hr => first | (go_simp; done) | (go_simp; rfl)); intro g1 hg w1 hbox hb; have S1 := S0.box hg hbox hb; clear hg hbox hb; clear S0) | (go_at_call 26; (with_reducible refine (clone37 A0 c0 l _ (Kd.C_below HR0.out S1.below) HL.out).mono ?_); rintro e_ w2 ⟨v2, rfl, hR_, hB_⟩; have S2 := S1.call hB_; have HG1 := Aside0.mk (blk_lt (S1.heap ⟨g1, #[.int .u64 e.f0, .int .u32 e.f1, .int .u32 e.f2, .int .i64 e.f3, .bool e.f4], 56⟩ (by simp))); have HSZ := Aside0.mk (below_size S1.below); have HO2 := Aside0.mk hR_; obtain ⟨Ao, co, eo⟩ := Kd.R_slice HO2.out; subst eo; clear hR_ hB_; clear S1; have c0_ := S2.cell (b := ⟨g1, #[.int .u64 e.f0, .int .u32 e.f1, .int .u32 e.f2, .int .i64 e.f3, .bool e.f4], 56⟩) (by simp) (j := 0) (v := .int .u64 e.f0) rfl) | (go_at_call 29; (with_reducible refine (AX.out _ (Kd.C_below HR0.out S2.below)).mono ?_); rintro e_ w3 ⟨rfl, hB_⟩; have S3 := S2.call hB_; have HO3 := Aside0.mk (Kd.R_below HO2.out hB_); clear hB_; clear S2; have c4_ := S3.cell (b := ⟨g1, #[.int .u64 e.f0, .int .u32 e.f1, .int .u32 e.f2, .int .i64 e.f3, .bool e.f4], 56⟩) (by simp) (j := 4) (v := .bool e.f4) rfl; have z4_ := S3.frozen (b := ⟨g1, #[.int .u64 e.f0, .int .u32 e.f1, .int .u32 e.f2, .int .i64 e.f3, .bool e.f4], 56⟩) (by simp) 4))
    go_ret
    exact ⟨_, rfl, Kd.R_lower HO3.out HSZ.out, S3.below⟩

end Go.Proofs.Ytmpnnppgppoliaa.Ld
