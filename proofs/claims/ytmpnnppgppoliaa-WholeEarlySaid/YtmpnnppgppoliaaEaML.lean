/- The law's walk: accesses of words that are done in whatever order. The conditions are those that each theorem names. -/
import Derived.Test.YtmpnnppgppoliaaEaM3
namespace Go.Proofs.Ytmpnnppgppoliaa.Ea
open Go.Proofs.Ytmpnnppgppoliaa.Ld Go Go.Proofs Go.RowKit Go.Proofs.YtmpnnppgppoliaaW.PrintWords Go.Proofs.YtmpnnppgppoliaaW.PrintLast Go.Proofs.YtmpnnppgppoliaaW.PrintMore Go.Proofs.Ytmpnnppgppoliaa.Boxes Go.Proofs.Ytmpnnppgppoliaa.PFwd
attribute [local go_sem] max2_int min2_int max_two min_two max_three min_three max_four min_four   -- for this text's walks alone
set_option linter.unusedVariables false
set_option linter.unusedSimpArgs false

theorem tk8 {k : IntKind} (xs : List Int) : ((xs.map (Value.int k)).toArray).toList.take xs.length = xs.map (Value.int k) := by
  rw [List.toList_toArray, List.take_of_length_le (by simp)]
theorem app_rowE {α : Type} (d : Kd α) {ops : Array Oper} {rest : List Oper} {o : Oper} {a : Act} {Q : Exit → Act → World → Prop} {w w0 : World} {N : Tmp} (hg : o.guard = none) (hN : o.dst = some N) (s x : Operand) (t e : TypeId) (ho : o.op = .call { callee := .builtin .append, args := #[s, x], argTypes := #[t, t] })
    (bytes : Nat) (z : Value) (hu : Try.prog.underlying t = some (.slice e)) (hinfo : (Try.prog.info? e).map (fun i => (i.zero, i.size, i.bytes)) = some (some z, d.sz, bytes)) (hz : z.cells.size = d.sz) (h0k : 0 < d.sz)
    (hKM : ∀ w w1 base ok x cs, d.K w x cs → d.M w1 base ok x cs) {v : Value} {xs l : List α} {A : Option Addr} {n c : Nat} (hn : n = l.length) (hs : a.eval s = v) (hx : a.eval x = .slice A n c) (HR : d.R e w w0.heap.size (fun _ => True) v xs) (HC : d.C w A l.length l) (HB : Below w0.heap.size w0 w)
    (hm : xs.length + l.length ≤ maxLen) (hb : (xs.length + l.length) * bytes ≤ 140737488355328)
    (h : ∀ v' w', d.R e w' w0.heap.size (fun _ => True) v' (xs ++ l) → Below w0.heap.size w0 w' → wpList Try.prog ops Q rest (a.put (some N) v') w') : wpList Try.prog ops Q (o :: rest) a w := by
  subst hn
  exact app_row d hg hN s x t e ho bytes z hu hinfo hz h0k hKM hs hx HR HC HB hm hb h
theorem St.pick {w W : World} {a b c d e : Bx} (h : St w W [a, b, c, d, e]) : St w W [b, c, d, a] :=
  ⟨h.below, fun x hx => h.ge x (by simp at hx ⊢; rcases hx with rfl | rfl | rfl | rfl <;> simp), fun x hx => h.heap x (by simp at hx ⊢; rcases hx with rfl | rfl | rfl | rfl <;> simp), by
    have hd := h.dist
    simp [List.pairwise_cons] at hd ⊢
    omega⟩
theorem nw_of {v v9 : Value} {n s : Nat} (h : some n ≠ v.ownBlock) (hat : v9.ownBlock = v.ownBlock ∨ ∃ b, v9.ownBlock = some b ∧ s ≤ b) (hs : n < s) : some n ≠ v9.ownBlock := by
  rcases hat with h1 | ⟨b, h1, h2⟩
  · rw [h1]; exact h
  · rw [h1]
    intro e
    injection e with e
    omega

theorem lf_next (g : Int → Bool) {x : Int} (h0 : 0 ≤ x) : lf g (x + 1).toNat = lf g x.toNat ++ (if g x = true then [] else [x]) := by
  rw [show (x + 1).toNat = x.toNat + 1 by omega]
  show lf g x.toNat ++ (if g ((x.toNat : Nat) : Int) = true then [] else [((x.toNat : Nat) : Int)]) = _
  rw [show ((x.toNat : Nat) : Int) = x by omega]
theorem mem_rd {l : List Int} {i : Int} (h0 : 0 ≤ i) (h1 : i < (l.length : Int)) : rd l i ∈ l := by
  have hk : i.toNat < l.length := by omega
  unfold rd
  rw [List.getD_eq_getElem?_getD, List.getElem?_eq_getElem hk]
  exact List.getElem_mem hk

set_option maxHeartbeats 32000000 in
set_option maxRecDepth 100000 in
theorem shortE (A0 : Option Addr) (c0 : Nat) (acc : List Ac) (A1 : Option Addr) (c1 : Nat) (pk : List Int) (m32 : List Int) (w : World) (hr0 : Kd.C kA w A0 acc.length acc) (hr1 : Kd.C (Kd.int .u8) w A1 pk.length pk) (hpk : ∀ v ∈ pk, 0 ≤ v ∧ v < 256) (hm : m32.length = 32) (hl : acc.length ≤ 12) (hlp : pk.length ≤ 60) (hgd : ∀ a ∈ acc, GoodA a) :
    Calls Try.prog 3 #[.slice A0 acc.length c0, .slice A1 pk.length c1, .agg (m32.map (Value.int .u8)).toArray] w fun e w' => e = .returned (.bool true) ∧ Below w.heap.size w w' := by
  have HR0 := Aside0.mk hr0
  have HR1 := Aside0.mk hr1
  have HGD := Aside0.mk hgd
  have HPK := Aside0.mk hpk
  have HM := Aside0.mk hm
  have HLA := Aside0.mk hl
  have HLP := Aside0.mk hlp
  have S0 := St.start w
  have cb1 : decide (12 < (acc.length : Int)) = false := decide_eq_false (by omega)
  have cb2 : decide (60 < (pk.length : Int)) = false := decide_eq_false (by omega)
  obtain ⟨h, hh0⟩ : ∃ h_, List.replicate acc.length (0 : Int) = h_ := ⟨_, rfl⟩
  have hh := Aside0.mk hh0
  obtain ⟨mm, hmm0⟩ : ∃ h_, m32 ++ List.replicate 32 (0 : Int) = h_ := ⟨_, rfl⟩
  have hmm := Aside0.mk hmm0
  have HMM := Aside0.mk (show mm.length = 64 by rw [← hmm0, List.length_append, hm, List.length_replicate])
  clear hr0 hr1 hpk hm hl hlp hgd hh0 hmm0
  go_enter Try.func3, Try.ntmps3
  go_wp2_with (first | ((with_reducible refine gate_dst (N := 5) rfl ?_); refine box_event ?hg (N := 5) ?hd (cs := (m32.map (Value.int .u8)).toArray) (t := 24) ?hr ?_; (case hd => rfl); (case hg => rfl); (case hr => first | (go_simp; done) | (go_simp; rfl)); intro gm hg w1 hbox hb; have S1 := S0.box hg hbox hb; clear hg hbox hb; clear S0) | ((with_reducible refine gate_dst (N := 31) rfl ?_); refine make_box rfl _ _ rfl (N := 31) rfl acc.length h hh.out rfl rfl (by have := HLA.out; omega) ?_; intro nh hg w2 hbox hb; have S2 := S1.box hg hbox hb; clear hg hbox hb; clear S1) | ((with_reducible refine gate_dst (N := 33) rfl ?_); refine box_event ?hg (N := 33) ?hd (cs := #[.slice none 0 0, .slice none 0 0, .slice (some ⟨nh, 0, none⟩) h.length acc.length]) (t := 31) ?hr ?_; (case hd => rfl); (case hg => rfl); (case hr => first | (go_simp; done) | (go_simp; rfl)); intro g hg w3 hbox hb; have S3 := S2.box hg hbox hb; clear hg hbox hb; clear S2) | ((with_reducible refine gate_dst (N := 34) rfl ?_); refine Kd.R_lit (Kd.int .u8) _ 5 ?hg (N := 34) ?hd (xs := ([] : List Int)) (inner := []) (ok := fun _ => True) (okp := fun _ => True) ?hr ?hp (fun _ hk => hk) trivial (Below.refl _ _) (Nat.le_refl _) (by simp) ?_; (case hd => rfl); (case hg => rfl); (case hr => first | (go_simp; done) | (go_simp; rfl)); (case hp => exact (Reps.none _ _)); intro v34 w3_34 ho4 hb hg_ hnew_; have HO4 := Aside0.mk ho4; have HB4 := Aside0.mk hb; clear ho4 hb hg_ hnew_) | ((with_reducible refine gate_dst (N := 36) rfl ?_); refine app_rowE (Kd.int .u8) rfl rfl _ _ 23 5 rfl 1 _ Try.underlying23 info5 rfl (by decide) KM_5 (xs := []) (l := m32) (n := 32) (HM.out.symm) rfl rfl HO4.out (cB (blk_below (S3.heap ⟨gm, (m32.map (Value.int .u8)).toArray, 24⟩ (by simp)) HB4.out) (tk8 _) (by (have := HM.out; omega))) HB4.out ?sm ?sb ?_; (case sm => have := HMM.out; have := HM.out; simp only [maxLen, List.length_nil]; omega); (case sb => have := HMM.out; have := HM.out; simp only [List.length_nil]; omega); intro v6 w6_36 hR_ hB_; have HO6 := Aside0.mk hR_; have HB6 := Aside0.mk hB_; clear hR_ hB_ HO4 HB4) | ((with_reducible refine gate_dst (N := 37) rfl ?_); refine Kd.R_append_zeros (Kd.int .u8) (w0 := w3) w3.heap.size rfl _ _ 23 3 5 (.int .u8 0) 1 rfl Try.underlying23 (k := .i64) Try.underlying3 info5 rfl (by decide) (by decide) _ ([] ++ m32) 0 (kx := .i64) 32 (fun _ => True) rfl rfl ?hz (fun _ _ => trivial) HO6.out (by decide) HB6.out (below_size HB6.out) ?sb ?_; (case hz => rfl); (case sb => have := HM.out; simp only [List.nil_append]; omega); intro v7 w7 hR_ hB_ hg_ hat_; have HO7 := Aside0.mk (show Kd.R (Kd.int .u8) 5 w7 w3.heap.size (fun _ => True) v7 mm by (have h_ := hR_; rw [List.nil_append, show (32 : Int).toNat = 32 from rfl, hmm.out] at h_; exact h_)); obtain ⟨Af, cf, ef⟩ := Kd.R_slice HO7.out; subst ef; obtain ⟨gf, cf_, eA, gb_, hc_, hx_⟩ := R_box HO7.out (by (have := HMM.out; omega)); subst eA; have S4 := St.add S3 hB_ gb_ hc_; have HFX := Aside0.mk hx_; have HFC := Aside0.mk (Kd.R_reads' HO7.out).2.1; clear gb_ hc_ hx_ hR_ hB_ hg_ hat_ HO6 HB6 S3 HO7) | ((with_reducible refine gate_dst (N := 38) rfl ?_); refine Kd.R_lit (Kd.int .u8) _ 5 ?hg (N := 38) ?hd (xs := ([] : List Int)) (inner := []) (ok := fun _ => True) (okp := fun _ => True) ?hr ?hp (fun _ hk => hk) trivial (Below.refl _ _) (Nat.le_refl _) (by simp) ?_; (case hd => rfl); (case hg => rfl); (case hr => first | (go_simp; done) | (go_simp; rfl)); (case hp => exact (Reps.none _ _)); intro v38 w3_38 ho4 hb hg_ hnew_; have HO8 := Aside0.mk ho4; have HB8 := Aside0.mk hb; clear ho4 hb hg_ hnew_) | ((with_reducible refine gate_dst (N := 40) rfl ?_); refine app_rowE (Kd.int .u8) rfl rfl _ _ 23 5 rfl 1 _ Try.underlying23 info5 rfl (by decide) KM_5 (xs := []) (l := mm) (n := mm.length) (rfl) rfl rfl HO8.out (cB (blk_below (S4.heap ⟨gf, cf_, 5⟩ (by simp)) HB8.out) HFX.out (by (have := HMM.out; omega))) HB8.out ?sm ?sb ?_; (case sm => have := HMM.out; have := HM.out; simp only [maxLen, List.length_nil]; omega); (case sb => have := HMM.out; have := HM.out; simp only [List.length_nil]; omega); intro v6 w6_40 hR_ hB_; have HO9 := Aside0.mk (show Kd.R (Kd.int .u8) 5 w6_40 w7.heap.size (fun _ => True) v6 mm from hR_); obtain ⟨Ap, cp, ep⟩ := Kd.R_slice HO9.out; subst ep; obtain ⟨gp, cp_, eA, gb_, hc_, hx_⟩ := R_box HO9.out (by (have := HMM.out; omega)); subst eA; have S5 := St.pick (St.add S4 hB_ gb_ hc_); have HPX := Aside0.mk hx_; have HPC := Aside0.mk (Kd.R_reads' HO9.out).2.1; clear gb_ hc_ hx_ hR_ hB_ HO8 HB8 S4 HO9))
  go_loopg [8, 10, 11] acc.length (fun kq v8 v10 v11 w' => ∃ (x : Int) (flat want : List Int) (q : List S37) (l : List S79) (gf c8 cq cl c10 : Nat) (cf_ : Array Value) (A10 Aq Al : Option Addr), v8 = .slice (some ⟨gf, 0, none⟩) flat.length c8 ∧ v10 = .slice A10 want.length c10 ∧ v11 = .int .i64 x ∧ Aside0 (0 ≤ x ∧ x + kq = (acc.length : Int)) ∧ Aside0 (Built acc mm x flat want q l) ∧ Aside0 (flat.length ≤ c8) ∧ Aside0 (cf_.toList.take flat.length = flat.map (Value.int .u8)) ∧ Aside0 (St w w' (⟨gf, cf_, 5⟩ :: ⟨g, #[.slice Aq q.length cq, .slice Al l.length cl, .slice (some ⟨nh, 0, none⟩) h.length acc.length], 31⟩ :: ⟨nh, (h.map (Value.int .u32)).toArray, 32⟩ :: [⟨gp, cp_, 5⟩])) ∧ Aside0 (Kd.R k37 56 w' w.heap.size (fun _ => True) (.slice Aq q.length cq) q) ∧ Aside0 (Kd.R k79 79 w' w.heap.size (fun _ => True) (.slice Al l.length cl) l) ∧ Aside0 (Kd.R (Kd.int .u32) 32 w' w.heap.size (fun _ => True) (.slice A10 want.length c10) want) ∧ Aside0 (some nh ≠ (Value.slice A10 want.length c10).ownBlock))
  case atStart => exact ⟨0, mm, [], [], [], gf, cf, 0, 0, 0, cf_, none, none, none, (by first | rfl | (simp; done)), (by first | rfl | (simp; done)), (by first | rfl | (simp; done)), ⟨by simp⟩, ⟨built_start acc mm⟩, HFC, HFX, ⟨S5⟩, ⟨Kd.R_nil _ _ _ _ _⟩, ⟨Kd.R_nil _ _ _ _ _⟩, ⟨Kd.R_nil _ _ _ _ _⟩, ⟨by simp [Value.ownBlock]⟩⟩
  case round =>
    clear S5 HFC HFX
    obtain ⟨x, flat, want, q, l, gf, c8, cq, cl, c10, cf_, A10, Aq, Al, rfl, rfl, rfl, HX, HBu, HFC, HFX, HS, HQ, HL, HW, HNW⟩ := hrel
    have Sr := HS.out
    have HLN := Aside0.mk (HBu.out.lens HLA.out HMM.out)
    by_cases c : x < (acc.length : Int)
    · have cb : decide (x < (acc.length : Int)) = true := decide_eq_true c
      have CC := Aside0.mk c
      have p1 : 0 ≤ x := HX.out.1
      obtain ⟨ad, e1, h0, h1, h2⟩ := atA HR0.out x p1 c
      cases e1
      obtain ⟨y, hy⟩ : ∃ y_, rdA acc x = y_ := ⟨_, rfl⟩
      have HY := Aside0.mk hy
      have HGY := Aside0.mk (show GoodA y by rw [← hy]; exact HGD.out _ (memA p1 c))
      rw [hy] at h0 h1 h2
      have HF2 := Aside0.mk (fun (w_ : World) (hb_ : Below w.heap.size w w_) => (hb_.cell (World.block_lt_of_cell? w _ h2)).trans h2)
      have HF0 := Aside0.mk (fun (w_ : World) (hb_ : Below w.heap.size w w_) => (hb_.cell (World.block_lt_of_cell? w _ h0)).trans h0)
      replace h1 := (HS.out.below.cell (World.block_lt_of_cell? w _ h1)).trans h1
      clear h0 h2
      have HN := Aside0.mk (wrap_i (x := x + 1) (by omega) (by have := HLA.out; omega))
      have hx1 : IntKind.u64.wrap x = x := wrap_u p1 (by have := HLA.out; omega)
      have hx2 : IntKind.u64.wrap (x + 1) = x + 1 := wrap_u (by omega) (by have := HLA.out; omega)
      have p1' := decide_eq_true p1
      have hp1 : y.f1.tmod 8 = y.f1 % 8 := Int.tmod_eq_emod_of_nonneg HGY.out.1
      obtain ⟨p4, hp4⟩ : ∃ p_, plA y = p_ := ⟨_, rfl⟩
      obtain ⟨p, hp⟩ : ∃ p_, y.f1 % 8 = p_ := ⟨_, rfl⟩
      have hp2 : p % 4294967296 = p := by omega
      have hp3 : 4 * p % 4294967296 = p4 := by rw [← hp4, ← hp]; unfold plA; omega
      rw [hp] at hp1
      have HP4 := Aside0.mk hp4
      have HOK := Aside0.mk (show Okm flat.length p4 4 by rw [HLN.out.1, ← hp4]; exact plA_ok y)
      obtain ⟨wt, hwt0⟩ : ∃ q_, rdX flat p4 4 = q_ := ⟨_, rfl⟩
      have hwt := Aside0.mk hwt0
      obtain ⟨want1, hw10⟩ : ∃ q_, want ++ [wt] = q_ := ⟨_, rfl⟩
      have hw1 := Aside0.mk hw10
      have HWL := Aside0.mk (show want.length ≤ 12 by have := HBu.out.lw; have := HLA.out; omega)
      clear hy hp hp4 hwt0 hw10
      replace p1 := eq_true p1
      replace c := eq_true c
      cases e0 : y.f0 with
      | true =>
        have HE0 := Aside0.mk e0
        obtain ⟨f2, hf20⟩ : ∃ q_, wrX flat p4 4 y.f2 = q_ := ⟨_, rfl⟩
        have hf2 := Aside0.mk hf20
        obtain ⟨q1, hq10⟩ : ∃ q_, q ++ [(⟨x + 1, 0, 0, 0, false⟩ : S37)] = q_ := ⟨_, rfl⟩
        have hq1 := Aside0.mk hq10
        have HB1 := Aside0.mk (show Built acc mm (x + 1) f2 want1 q1 l by rw [← hf20, ← hw1.out, ← hwt.out, ← hq10, ← HP4.out]; exact built_store HBu.out HX.out.1 CC.out HY.out e0)
        clear hf20 hq10 e0
        go_wp2_with (first | (go_at_call 6; (with_reducible refine (cRead HOK.out hwt.out (cB (Sr.heap ⟨gf, cf_, 5⟩ (by simp)) HFX.out (by (have := HLN.out; omega))) HFC.out).mono ?_); rintro e_ w1 ⟨rfl, hB_⟩; have S1 := Sr.call hB_; have HQ1 := Aside0.mk (Kd.R_below HQ.out hB_); have HL1 := Aside0.mk (Kd.R_below HL.out hB_); have HW1 := Aside0.mk (Kd.R_below HW.out hB_); clear hB_ Sr) | ((with_reducible refine gate_builtin (b := .append) (xs := #[.tmp 61, .tmp 63]) rfl ?_); at_builtin; refine Kd.R_append (Kd.int .u32) (w0 := w) w.heap.size rfl (.tmp 61) (.tmp 63) 27 32 (.int .u32 0) 4 rfl Try.underlying27 info32 rfl (by decide) (by omega) _ want wt [.int .u32 wt] (fun _ => True) (fun _ => False) rfl (by first | (go_simp; done) | (go_simp; rfl)) rfl (fun _ hk => hk.elim) (fun _ _ => trivial) HW1.out S1.below (below_size S1.below) (by (have := HWL.out; omega)) ?_; intro v9 w2 hR_ hB_ hg_ hat_; have S2 := St.over S1 HW1.out hB_ hg_ (by intro b hb ht; simp at hb; rcases hb with rfl | rfl | rfl | rfl <;> first | exact HNW.out | exact absurd ht (by simp)); have h0b := HF0.out _ hB_; rw [HE0.out] at h0b; have h2b := HF2.out _ hB_; have HQ2 := Aside0.mk (Kd.R_over HQ1.out HW1.out (by simp [k37_E]) hg_); have HL2 := Aside0.mk (Kd.R_over HL1.out HW1.out (by simp [k79_E]) hg_); have HW2 := Aside0.mk (show Kd.R (Kd.int .u32) 32 w2 w.heap.size (fun _ => True) v9 want1 by (rw [← hw1.out]; exact hR_)); obtain ⟨A9, c9, e9⟩ := Kd.R_slice HW2.out; subst e9; have HNW1 := Aside0.mk (nw_of HNW.out hat_ (blk_lt (S1.heap ⟨nh, (h.map (Value.int .u32)).toArray, 32⟩ (by simp)))); clear hR_ hB_ hg_ hat_ S1 HQ1 HL1 HW1) | (go_at_call 7; (with_reducible refine (cWriteB HOK.out hf2.out (cB (S2.heap ⟨gf, cf_, 5⟩ (by simp)) HFX.out (by (have := HLN.out; omega))) HFC.out).mono ?_); rintro e_ w3 ⟨gn, cn, csn, rfl, hcl_, hg_, hc_, hx_, hB_⟩; have S3 := St.drop2 (St.add S2 hB_ hg_ hc_); have HFC3 := Aside0.mk hcl_; have HFX3 := Aside0.mk hx_; have HQ3 := Aside0.mk (Kd.R_below HQ2.out hB_); have HL3 := Aside0.mk (Kd.R_below HL2.out hB_); have HW3 := Aside0.mk (Kd.R_below HW2.out hB_); clear hcl_ hg_ hc_ hx_ hB_ S2 HQ2 HL2 HW2; have b0_ := S3.cell (b := ⟨g, #[.slice Aq q.length cq, .slice Al l.length cl, .slice (some ⟨nh, 0, none⟩) h.length acc.length], 31⟩) (by simp) (j := 0) (v := .slice Aq q.length cq) rfl) | (go_at_call 8; (with_reducible refine (cPutQ HLN.out.2.1 hq1.out (Kd.R_reads' HQ3.out).2.2).mono ?_); rintro e_ w4 ⟨A6, c6_, rfl, hR_, hB_⟩; have S4 := S3.call hB_; have HN4 := Aside0.mk (Kd.R_lower hR_ (below_size S3.below)); have HQ4 := Aside0.mk (Kd.R_below HQ3.out hB_); have HL4 := Aside0.mk (Kd.R_below HL3.out hB_); have HW4 := Aside0.mk (Kd.R_below HW3.out hB_); clear hR_ hB_ S3; have b0_ := S4.cell (b := ⟨g, #[.slice Aq q.length cq, .slice Al l.length cl, .slice (some ⟨nh, 0, none⟩) h.length acc.length], 31⟩) (by simp) (j := 0) (v := .slice Aq q.length cq) rfl; have z0_ := S4.frozen (b := ⟨g, #[.slice Aq q.length cq, .slice Al l.length cl, .slice (some ⟨nh, 0, none⟩) h.length acc.length], 31⟩) (by simp) 0) | ((with_reducible refine gate_store (t := 28) (p := 94) rfl ?_); refine store_event (t := 28) (p := 94) (v := ?vo_94) (w1 := w4.setCell ⟨g, 0, none⟩ (.slice A6 q1.length c6_)) ?hg ?ho ?hn ?hr ?_; (case ho => rfl); (case hg => rfl); (case hn => rfl); (case hr => first | (go_simp; done) | (go_simp; rfl)); intro w5 hw; have n_ : St w w5 (⟨gn, csn, 5⟩ :: ⟨g, #[.slice A6 q1.length c6_, .slice Al l.length cl, .slice (some ⟨nh, 0, none⟩) h.length acc.length], 31⟩ :: ⟨nh, (h.map (Value.int .u32)).toArray, 32⟩ :: [⟨gp, cp_, 5⟩]) := (by rw [hw]; exact St.set (L1 := [⟨gn, csn, 5⟩]) (L2 := [⟨nh, (h.map (Value.int .u32)).toArray, 32⟩, ⟨gp, cp_, 5⟩]) (b := ⟨g, #[.slice Aq q.length cq, .slice Al l.length cl, .slice (some ⟨nh, 0, none⟩) h.length acc.length], 31⟩) S4 0 (.slice A6 q1.length c6_)); have HNx := Aside0.mk (show Kd.R k37 56 w5 w.heap.size (fun _ => True) (.slice A6 q1.length c6_) q1 by rw [hw]; exact Kd.R_set HN4.out (S4.heap ⟨g, #[.slice Aq q.length cq, .slice Al l.length cl, .slice (some ⟨nh, 0, none⟩) h.length acc.length], 31⟩ (by simp)) (by simp [k37_E, k79_E]) _ _); have HOx := Aside0.mk (show Kd.R k79 79 w5 w.heap.size (fun _ => True) (.slice Al l.length cl) l by rw [hw]; exact Kd.R_set HL4.out (S4.heap ⟨g, #[.slice Aq q.length cq, .slice Al l.length cl, .slice (some ⟨nh, 0, none⟩) h.length acc.length], 31⟩ (by simp)) (by simp [k37_E, k79_E]) _ _); have HWx := Aside0.mk (show Kd.R (Kd.int .u32) 32 w5 w.heap.size (fun _ => True) (.slice A9 want1.length c9) want1 by rw [hw]; exact Kd.R_set HW4.out (S4.heap ⟨g, #[.slice Aq q.length cq, .slice Al l.length cl, .slice (some ⟨nh, 0, none⟩) h.length acc.length], 31⟩ (by simp)) (show ∀ t_, t_ ∈ 32 :: (Kd.int IntKind.u32).E → t_ ≠ 31 by (intro t_ ht_; simp [Kd.int, Kd.scalar] at ht_; omega)) _ _); clear hw; clear S4; have Sx := n_; clear n_))
        go_roundg (gk - 1)
        case measure => have := HX.out; have := CC.out; omega
        case rel => exact ⟨x + 1, f2, want1, q1, l, gn, cn, c6_, cl, c9, csn, A9, A6, Al, (by first | rfl | (simp; done) | (simp [HN.out]; done)), (by first | rfl | (simp; done) | (simp [HN.out]; done)), (by first | rfl | (simp; done) | (simp [HN.out]; done)), ⟨by have := HX.out; have := CC.out; omega⟩, HB1, HFC3, HFX3, ⟨Sx⟩, HNx, HOx, HWx, HNW1⟩
      | false =>
        have HE0 := Aside0.mk e0
        obtain ⟨l1, hq10⟩ : ∃ q_, l ++ [(⟨x + 1, 0, 0, 0, false, false, 0, false⟩ : S79)] = q_ := ⟨_, rfl⟩
        have hq1 := Aside0.mk hq10
        have HB1 := Aside0.mk (show Built acc mm (x + 1) flat want1 q l1 by rw [← hw1.out, ← hwt.out, ← hq10, ← HP4.out]; exact built_load HBu.out HX.out.1 CC.out HY.out e0)
        clear hq10 e0
        go_wp2_with (first | (go_at_call 6; (with_reducible refine (cRead HOK.out hwt.out (cB (Sr.heap ⟨gf, cf_, 5⟩ (by simp)) HFX.out (by (have := HLN.out; omega))) HFC.out).mono ?_); rintro e_ w1 ⟨rfl, hB_⟩; have S1 := Sr.call hB_; have HQ1 := Aside0.mk (Kd.R_below HQ.out hB_); have HL1 := Aside0.mk (Kd.R_below HL.out hB_); have HW1 := Aside0.mk (Kd.R_below HW.out hB_); clear hB_ Sr) | ((with_reducible refine gate_builtin (b := .append) (xs := #[.tmp 61, .tmp 63]) rfl ?_); at_builtin; refine Kd.R_append (Kd.int .u32) (w0 := w) w.heap.size rfl (.tmp 61) (.tmp 63) 27 32 (.int .u32 0) 4 rfl Try.underlying27 info32 rfl (by decide) (by omega) _ want wt [.int .u32 wt] (fun _ => True) (fun _ => False) rfl (by first | (go_simp; done) | (go_simp; rfl)) rfl (fun _ hk => hk.elim) (fun _ _ => trivial) HW1.out S1.below (below_size S1.below) (by (have := HWL.out; omega)) ?_; intro v9 w2 hR_ hB_ hg_ hat_; have S2 := St.over S1 HW1.out hB_ hg_ (by intro b hb ht; simp at hb; rcases hb with rfl | rfl | rfl | rfl <;> first | exact HNW.out | exact absurd ht (by simp)); have h0b := HF0.out _ hB_; rw [HE0.out] at h0b; have h2b := HF2.out _ hB_; have HQ2 := Aside0.mk (Kd.R_over HQ1.out HW1.out (by simp [k37_E]) hg_); have HL2 := Aside0.mk (Kd.R_over HL1.out HW1.out (by simp [k79_E]) hg_); have HW2 := Aside0.mk (show Kd.R (Kd.int .u32) 32 w2 w.heap.size (fun _ => True) v9 want1 by (rw [← hw1.out]; exact hR_)); obtain ⟨A9, c9, e9⟩ := Kd.R_slice HW2.out; subst e9; have HNW1 := Aside0.mk (nw_of HNW.out hat_ (blk_lt (S1.heap ⟨nh, (h.map (Value.int .u32)).toArray, 32⟩ (by simp)))); clear hR_ hB_ hg_ hat_ S1 HQ1 HL1 HW1; have b1_ := S2.cell (b := ⟨g, #[.slice Aq q.length cq, .slice Al l.length cl, .slice (some ⟨nh, 0, none⟩) h.length acc.length], 31⟩) (by simp) (j := 1) (v := .slice Al l.length cl) rfl) | (go_at_call 9; (with_reducible refine (cPutL HLN.out.2.2 hq1.out (Kd.R_reads' HL2.out).2.2).mono ?_); rintro e_ w3 ⟨A6, c6_, rfl, hR_, hB_⟩; have S3 := S2.call hB_; have HN3 := Aside0.mk (Kd.R_lower hR_ (below_size S2.below)); have HQ3 := Aside0.mk (Kd.R_below HQ2.out hB_); have HL3 := Aside0.mk (Kd.R_below HL2.out hB_); have HW3 := Aside0.mk (Kd.R_below HW2.out hB_); clear hR_ hB_ S2; have b1_ := S3.cell (b := ⟨g, #[.slice Aq q.length cq, .slice Al l.length cl, .slice (some ⟨nh, 0, none⟩) h.length acc.length], 31⟩) (by simp) (j := 1) (v := .slice Al l.length cl) rfl; have z1_ := S3.frozen (b := ⟨g, #[.slice Aq q.length cq, .slice Al l.length cl, .slice (some ⟨nh, 0, none⟩) h.length acc.length], 31⟩) (by simp) 1) | ((with_reducible refine gate_store (t := 29) (p := 108) rfl ?_); refine store_event (t := 29) (p := 108) (v := ?vo_108) (w1 := w3.setCell ⟨g, 1, none⟩ (.slice A6 l1.length c6_)) ?hg ?ho ?hn ?hr ?_; (case ho => rfl); (case hg => rfl); (case hn => rfl); (case hr => first | (go_simp; done) | (go_simp; rfl)); intro w4 hw; have n_ : St w w4 (⟨gf, cf_, 5⟩ :: ⟨g, #[.slice Aq q.length cq, .slice A6 l1.length c6_, .slice (some ⟨nh, 0, none⟩) h.length acc.length], 31⟩ :: ⟨nh, (h.map (Value.int .u32)).toArray, 32⟩ :: [⟨gp, cp_, 5⟩]) := (by rw [hw]; exact St.set (L1 := [⟨gf, cf_, 5⟩]) (L2 := [⟨nh, (h.map (Value.int .u32)).toArray, 32⟩, ⟨gp, cp_, 5⟩]) (b := ⟨g, #[.slice Aq q.length cq, .slice Al l.length cl, .slice (some ⟨nh, 0, none⟩) h.length acc.length], 31⟩) S3 1 (.slice A6 l1.length c6_)); have HNx := Aside0.mk (show Kd.R k79 79 w4 w.heap.size (fun _ => True) (.slice A6 l1.length c6_) l1 by rw [hw]; exact Kd.R_set HN3.out (S3.heap ⟨g, #[.slice Aq q.length cq, .slice Al l.length cl, .slice (some ⟨nh, 0, none⟩) h.length acc.length], 31⟩ (by simp)) (by simp [k37_E, k79_E]) _ _); have HOx := Aside0.mk (show Kd.R k37 56 w4 w.heap.size (fun _ => True) (.slice Aq q.length cq) q by rw [hw]; exact Kd.R_set HQ3.out (S3.heap ⟨g, #[.slice Aq q.length cq, .slice Al l.length cl, .slice (some ⟨nh, 0, none⟩) h.length acc.length], 31⟩ (by simp)) (by simp [k37_E, k79_E]) _ _); have HWx := Aside0.mk (show Kd.R (Kd.int .u32) 32 w4 w.heap.size (fun _ => True) (.slice A9 want1.length c9) want1 by rw [hw]; exact Kd.R_set HW3.out (S3.heap ⟨g, #[.slice Aq q.length cq, .slice Al l.length cl, .slice (some ⟨nh, 0, none⟩) h.length acc.length], 31⟩ (by simp)) (show ∀ t_, t_ ∈ 32 :: (Kd.int IntKind.u32).E → t_ ≠ 31 by (intro t_ ht_; simp [Kd.int, Kd.scalar] at ht_; omega)) _ _); clear hw; clear S3; have Sx := n_; clear n_))
        go_roundg (gk - 1)
        case measure => have := HX.out; have := CC.out; omega
        case rel => exact ⟨x + 1, flat, want1, q, l1, gf, c8, cq, c6_, c9, cf_, A9, Aq, A6, (by first | rfl | (simp; done) | (simp [HN.out]; done)), (by first | rfl | (simp; done) | (simp [HN.out]; done)), (by first | rfl | (simp; done) | (simp [HN.out]; done)), ⟨by have := HX.out; have := CC.out; omega⟩, HB1, HFC, HFX, ⟨Sx⟩, HOx, HNx, HWx, HNW1⟩
    · have cb : decide (x < (acc.length : Int)) = false := decide_eq_false c
      have hx : x = (acc.length : Int) := by have := HX.out; omega
      obtain ⟨hI0, hwl0⟩ := built_end HBu.out hx HGD.out HLA.out HMM.out
      rw [hh.out] at hI0
      have HI := Aside0.mk hI0
      have HWN := Aside0.mk (show ∀ k : Int, 0 ≤ k → k < (acc.length : Int) → rd want k = rdX (memX mm (acc.take k.toNat)) (plA (rdA acc k)) 4 from fun k k0 k1 => HBu.out.hw k k0 (by omega))
      have HWL := Aside0.mk hwl0
      obtain ⟨L, hL1, hL2, hS_⟩ := wantL HS.out HW.out HNW.out HPX.out HMM.out (by have := HLA.out; omega)
      have HL1 := Aside0.mk hL1
      have HL2 := Aside0.mk hL2
      have HE := Aside0.mk (show ES w wr g nh Aq Al cq cl acc.length q l h L from ⟨hS_, HQ.out, HL.out⟩)
      clear hI0 hwl0 hL1 hL2 hS_ HBu HS HQ HL HW HNW HFC HFX c hx HX HLN Sr hh HPX
      go_wp2
      go_loopg [15] 300 (fun kq v15 w' => ∃ (i : Int) (q : List S37) (l : List S79) (h : List Int) (Aq Al : Option Addr) (cq cl : Nat), v15 = .int .i64 i ∧ Aside0 (0 ≤ i ∧ i + kq = 300) ∧ Aside0 (InvE acc mm i q l h) ∧ Aside0 (ES w w' g nh Aq Al cq cl acc.length q l h L))
      case atStart => exact ⟨0, q, l, h, Aq, Al, cq, cl, (by first | rfl | (simp; done)), ⟨by simp⟩, HI, HE⟩
      case round =>
        clear HE HI cb
        obtain ⟨i, q, l, h, Aq, Al, cq, cl, rfl, HX, HI, HE⟩ := hrel
        obtain ⟨gko, hgo⟩ : ∃ z_ : Nat, z_ = gk := ⟨_, rfl⟩
        have HGO := Aside0.mk hgo
        clear hgo
        have hi1 : i < 300 := by have := HI.out.bound; omega
        have cb : decide (i < 300) = true := decide_eq_true hi1
        have HN2 := Aside0.mk (wrap_i (x := i + 1) (by have := HX.out; omega) (by omega))
        clear hi1
        go_wp2
        go_loopg [16, 17] acc.length (fun kk v16 v17 w' => ∃ (x : Int) (left : List Int) (A16 : Option Addr) (c16 : Nat), v16 = .slice A16 left.length c16 ∧ v17 = .int .i64 x ∧ Aside0 (0 ≤ x ∧ x + kk = (acc.length : Int)) ∧ Aside0 (left = lf (fun k => goneX q l (rdA acc k) k) x.toNat) ∧ Aside0 (ES w w' g nh Aq Al cq cl acc.length q l h L) ∧ Aside0 (Kd.R (Kd.int .i64) 3 w' w.heap.size (fun _ => True) (.slice A16 left.length c16) left))
        case atStart => exact ⟨0, [], none, 0, (by first | rfl | (simp; done)), (by first | rfl | (simp; done)), ⟨by simp⟩, ⟨rfl⟩, HE, ⟨Kd.R_nil _ _ _ _ _⟩⟩
        case round =>
          clear HE cb
          obtain ⟨x, left, A16, c16, rfl, rfl, HX3, HLf, HE, HLR⟩ := hrel
          have HLL := Aside0.mk (show left.length ≤ 12 by have h_ := lf_len (fun k => goneX q l (rdA acc k) k) x.toNat; rw [← HLf.out] at h_; have := HX3.out; have := HLA.out; omega)
          by_cases c : x < (acc.length : Int)
          · have cb : decide (x < (acc.length : Int)) = true := decide_eq_true c
            have CC := Aside0.mk c
            have x0 : 0 ≤ x := HX3.out.1
            obtain ⟨ad, e1, h0, h1, h2⟩ := atA HR0.out x x0 c
            cases e1
            obtain ⟨y, hy⟩ : ∃ y_, rdA acc x = y_ := ⟨_, rfl⟩
            have HGY := Aside0.mk (show GoodA y by rw [← hy]; exact HGD.out _ (memA x0 c))
            rw [hy] at h0 h1 h2
            obtain ⟨b0, b1, b2⟩ := y
            have HY := Aside0.mk hy
            have HB1_ := Aside0.mk (show 0 ≤ b1 from HGY.out.1)
            replace h0 : wr.cell? (ad.add (x.toNat * 3)) = some (.bool b0) := (HE.out.st.below.cell (World.block_lt_of_cell? w _ h0)).trans h0
            replace h1 : wr.cell? ⟨(ad.add (x.toNat * 3)).block, (ad.add (x.toNat * 3)).off + 1, none⟩ = some (.int .u8 b1) := (HE.out.st.below.cell (World.block_lt_of_cell? w _ h1)).trans h1
            replace h2 : wr.cell? ⟨(ad.add (x.toNat * 3)).block, (ad.add (x.toNat * 3)).off + 2, none⟩ = some (.int .u32 b2) := (HE.out.st.below.cell (World.block_lt_of_cell? w _ h2)).trans h2
            clear hy
            have HKX := Aside0.mk (show 0 ≤ x ∧ x ≤ 1000 by have := HLA.out; omega)
            have HN := Aside0.mk (wrap_i (x := x + 1) (by omega) (by have := HLA.out; omega))
            have x0' := decide_eq_true x0
            replace x0 := eq_true x0
            replace c := eq_true c
            obtain ⟨r, hr0⟩ : ∃ r_, goneX q l ⟨b0, b1, b2⟩ x = r_ := ⟨_, rfl⟩
            have hr := Aside0.mk hr0
            clear hr0
            cases r with
            | true =>
              go_wp2_with (first | (go_at_call 10; (with_reducible refine (cGone HE.out HKX.out HI.out.lq HI.out.ll hr.out).mono ?_); rintro e_ w1 ⟨rfl, hB_⟩; have HE1 := Aside0.mk (HE.out.call hB_); have HLR1 := Aside0.mk (Kd.R_below HLR.out hB_); clear hB_))
              go_roundg (gk - 1)
              case measure => have := HX3.out; have := CC.out; omega
              case rel => exact ⟨x + 1, left, A16, c16, (by first | rfl | (simp; done) | (simp [HN.out]; done)), (by first | rfl | (simp; done) | (simp [HN.out]; done)), ⟨by have := HX3.out; have := CC.out; omega⟩, ⟨by rw [lf_next _ HX3.out.1, ← HLf.out]; show _ = left ++ (if goneX q l (rdA acc x) x = true then [] else [x]); rw [HY.out, hr.out]; simp⟩, HE1, HLR1⟩
            | false =>
              go_wp2_with (first | (go_at_call 10; (with_reducible refine (cGone HE.out HKX.out HI.out.lq HI.out.ll hr.out).mono ?_); rintro e_ w1 ⟨rfl, hB_⟩; have HE1 := Aside0.mk (HE.out.call hB_); have HLR1 := Aside0.mk (Kd.R_below HLR.out hB_); clear hB_) | ((with_reducible refine gate_builtin (b := .append) (xs := #[.tmp 127, .tmp 129]) rfl ?_); at_builtin; refine Kd.R_append (Kd.int .i64) (w0 := w) w.heap.size rfl (.tmp 127) (.tmp 129) 44 3 (.int .i64 0) 8 rfl Try.underlying44 info3 rfl (by decide) (by omega) _ left x [.int .i64 x] (fun _ => True) (fun _ => False) rfl (by first | (go_simp; done) | (go_simp; rfl)) rfl (fun _ hk => hk.elim) (fun _ _ => trivial) HLR1.out HE1.out.st.below (below_size HE1.out.st.below) (by (have := HLL.out; omega)) ?_; intro v9 w2 hR_ hB_ hg_ hat_; have HE2 := Aside0.mk (HE1.out.over HL1.out HLR1.out hB_ hg_); have HLR2 := Aside0.mk hR_; obtain ⟨A9, c9, e9⟩ := Kd.R_slice HLR2.out; subst e9; clear hR_ hB_ hg_ hat_))
              go_roundg (gk - 1)
              case measure => have := HX3.out; have := CC.out; omega
              case rel => exact ⟨x + 1, left ++ [x], A9, c9, (by first | rfl | (simp; done) | (simp [HN.out]; done)), (by first | rfl | (simp; done) | (simp [HN.out]; done)), ⟨by have := HX3.out; have := CC.out; omega⟩, ⟨by rw [lf_next _ HX3.out.1, ← HLf.out]; show _ = left ++ (if goneX q l (rdA acc x) x = true then [] else [x]); rw [HY.out, hr.out]; simp⟩, HE2, HLR2⟩
          · have cb : decide (x < (acc.length : Int)) = false := decide_eq_false c
            have hxe : x.toNat = acc.length := by have := HX3.out; omega
            have hlf := HLf.out
            rw [hxe] at hlf
            replace HLf := Aside0.mk hlf
            clear c hxe hlf HX3
            by_cases d : left.length = 0
            · have hd : (((left.length : Nat) : Int) == 0) = true := by rw [d]; rfl
              have HALL := Aside0.mk (show ∀ k : Int, 0 ≤ k → k < (acc.length : Int) → goneX q l (rdA acc k) k = true from lf_nil (fun k => goneX q l (rdA acc k) k) acc.length (by rw [← HLf.out]; exact List.eq_nil_of_length_eq_zero d))
              clear d
              go_wp2
              go_loopg [19] acc.length (fun kq v19 w' => ∃ (x : Int), v19 = .int .i64 x ∧ Aside0 (0 ≤ x ∧ x + kq = (acc.length : Int)) ∧ Aside0 (ES w w' g nh Aq Al cq cl acc.length q l h L))
              case atStart => exact ⟨0, (by first | rfl | (simp; done)), ⟨by simp⟩, HE⟩
              case round =>
                clear HE
                obtain ⟨x, rfl, HX4, HE⟩ := hrel
                by_cases c : x < (acc.length : Int)
                · have cb : decide (x < (acc.length : Int)) = true := decide_eq_true c
                  have CC := Aside0.mk c
                  have x0 : 0 ≤ x := HX4.out.1
                  obtain ⟨hv, hhv⟩ : ∃ v_, rd h x = v_ := ⟨_, rfl⟩
                  obtain ⟨wv, hwv⟩ : ∃ v_, rd want x = v_ := ⟨_, rfl⟩
                  have hHC := had_at (h := h) x0 (by rw [HI.out.lh]; exact c)
                  rw [hhv] at hHC
                  obtain ⟨adw, eW, gW⟩ := Kd.at_int (HL2.out _ (fun b hb => HE.out.st.heap b (by simp [hb]))).2 x x0 (by have := HWL.out; omega)
                  cases eW
                  obtain ⟨ad, e1, h0, h1, h2⟩ := atA HR0.out x x0 c
                  cases e1
                  obtain ⟨y, hy⟩ : ∃ y_, rdA acc x = y_ := ⟨_, rfl⟩
                  rw [hy] at h0 h1 h2
                  obtain ⟨b0, b1, b2⟩ := y
                  have HY := Aside0.mk hy
                  have HGX := Aside0.mk (show goneX q l ⟨b0, b1, b2⟩ x = true by rw [← hy]; exact HALL.out x x0 c)
                  have HKX := Aside0.mk (show 0 ≤ x ∧ x ≤ 1000 by have := HLA.out; omega)
                  have HSF := Aside0.mk (show ∀ w_ : World, ES w w_ g nh Aq Al cq cl acc.length q l h L → (w_.cell? (ad.add (x.toNat * 3)) = some (.bool b0) ∧ w_.cell? ⟨(ad.add (x.toNat * 3)).block, (ad.add (x.toNat * 3)).off + 1, none⟩ = some (.int .u8 b1) ∧ w_.cell? ⟨(ad.add (x.toNat * 3)).block, (ad.add (x.toNat * 3)).off + 2, none⟩ = some (.int .u32 b2) ∧ w_.cell? ⟨g, 2, none⟩ = some (.slice (some ⟨nh, 0, none⟩) h.length acc.length) ∧ w_.cell? ⟨nh, x.toNat, none⟩ = some (.int .u32 hv) ∧ w_.cell? (adw.add x.toNat) = some (.int .u32 wv)) from fun w_ hE_ => ⟨(hE_.st.below.cell (World.block_lt_of_cell? w _ h0)).trans h0, (hE_.st.below.cell (World.block_lt_of_cell? w _ h1)).trans h1, (hE_.st.below.cell (World.block_lt_of_cell? w _ h2)).trans h2, hE_.st.cell (b := ⟨g, #[.slice Aq q.length cq, .slice Al l.length cl, .slice (some ⟨nh, 0, none⟩) h.length acc.length], 31⟩) (by simp) (j := 2) rfl, hE_.st.cell (b := ⟨nh, (h.map (Value.int .u32)).toArray, 32⟩) (by simp) (j := x.toNat) hHC, by
                    obtain ⟨ad_, eW_, gW_⟩ := Kd.at_int (HL2.out _ (fun b hb => hE_.st.heap b (by simp [hb]))).2 x x0 (by have := HWL.out; omega)
                    cases eW_
                    rw [hwv] at gW_
                    exact gW_⟩)
                  have HEQ := Aside0.mk (show b0 = false → hv = wv from fun hb_ => by rw [← hhv, ← hwv, HWN.out x x0 c]; exact inv_end HI.out HALL.out x0 c (by rw [hy]; exact hb_))
                  have HN := Aside0.mk (wrap_i (x := x + 1) (by omega) (by have := HLA.out; omega))
                  have hxh : x < (h.length : Int) := by rw [HI.out.lh]; exact c
                  have hxw : x < (want.length : Int) := by rw [HWL.out]; exact c
                  have x0' := decide_eq_true x0
                  have hxh' := decide_eq_true hxh
                  have hxw' := decide_eq_true hxw
                  clear hy hhv hwv hHC gW h0 h1 h2
                  replace x0 := eq_true x0
                  replace c := eq_true c
                  replace hxh := eq_true hxh
                  replace hxw := eq_true hxw
                  cases b0 with
                  | true =>
                    go_wp2
                    refine start_ (n := 30) (S := fun w_ => w_.cell? (ad.add (x.toNat * 3)) = some (.bool true) ∧ w_.cell? ⟨(ad.add (x.toNat * 3)).block, (ad.add (x.toNat * 3)).off + 1, none⟩ = some (.int .u8 b1) ∧ w_.cell? ⟨(ad.add (x.toNat * 3)).block, (ad.add (x.toNat * 3)).off + 2, none⟩ = some (.int .u32 b2) ∧ w_.cell? ⟨g, 2, none⟩ = some (.slice (some ⟨nh, 0, none⟩) h.length acc.length) ∧ w_.cell? ⟨nh, x.toNat, none⟩ = some (.int .u32 hv) ∧ w_.cell? (adw.add x.toNat) = some (.int .u32 wv)) (ds := []) #[false, false, false, false, false, false, false, false, false, false, false, false, false, false, false, false, false, false, false, false, false, false, false, false, false, false, false, false, false, false] (by kernel_rfl) rfl rfl ((HSF.out _ (HE.out.call (below_drew (Below.refl _ _))))) (fun hHeld => ?_)
                    have HE10 := Aside0.mk (HE.out.call (below_drew (Below.refl _ _)))
                    generalize World.drew _ = w10 at HE10 hHeld ⊢
                    refine pure_ (i := 0) (N := some 178) (v := ?_) (a' := ?_) #[true, false, false, false, false, false, false, false, false, false, false, false, false, false, false, false, false, false, false, false, false, false, false, false, false, false, false, false, false, false] rfl rfl (by kernel_rfl) (fun _ _ _ h => h) (Or.inl ⟨by rfl, ?_⟩) ?_ ?_
                    rotate_left
                    · intro w'
                      go_simp
                      with_reducible rfl
                    rotate_left
                    · simp only [Act.put, List.setIfInBounds_toArray, List.set_cons_zero, List.set_cons_succ]
                      rfl
                    refine pure_ (i := 1) (N := some 179) (v := ?_) (a' := ?_) #[true, true, false, false, false, false, false, false, false, false, false, false, false, false, false, false, false, false, false, false, false, false, false, false, false, false, false, false, false, false] rfl rfl (by kernel_rfl) (fun _ _ _ h => h) (Or.inl ⟨by rfl, ?_⟩) ?_ ?_
                    rotate_left
                    · intro w'
                      go_simp
                      with_reducible rfl
                    rotate_left
                    · simp only [Act.put, List.setIfInBounds_toArray, List.set_cons_zero, List.set_cons_succ]
                      rfl
                    refine pure_ (i := 2) (N := some 180) (v := ?_) (a' := ?_) #[true, true, true, false, false, false, false, false, false, false, false, false, false, false, false, false, false, false, false, false, false, false, false, false, false, false, false, false, false, false] rfl rfl (by kernel_rfl) (fun _ _ _ h => h) (Or.inl ⟨by rfl, ?_⟩) ?_ ?_
                    rotate_left
                    · intro w'
                      go_simp
                      with_reducible rfl
                    rotate_left
                    · simp only [Act.put, List.setIfInBounds_toArray, List.set_cons_zero, List.set_cons_succ]
                      rfl
                    refine pure_ (i := 3) (N := some 181) (v := ?_) (a' := ?_) #[true, true, true, true, false, false, false, false, false, false, false, false, false, false, false, false, false, false, false, false, false, false, false, false, false, false, false, false, false, false] rfl rfl (by kernel_rfl) (fun _ _ _ h => h) (Or.inl ⟨by rfl, ?_⟩) ?_ ?_
                    rotate_left
                    · intro w'
                      go_simp
                      with_reducible rfl
                    rotate_left
                    · simp only [Act.put, List.setIfInBounds_toArray, List.set_cons_zero, List.set_cons_succ]
                      rfl
                    refine take_ (i := 4) (N := some 182) (v := ?_) (a' := ?_) #[true, true, true, true, true, false, false, false, false, false, false, false, false, false, false, false, false, false, false, false, false, false, false, false, false, false, false, false, false, false] rfl rfl (by kernel_rfl) (fun _ _ _ h => h) (Or.inl ⟨by rfl, ?_⟩) hHeld ?_ ?_
                    rotate_left
                    · rintro w' ⟨s1_, s2_, s3_, s4_, s5_, s6_⟩
                      go_simp
                      with_reducible rfl
                    rotate_left
                    · simp only [Act.put, List.setIfInBounds_toArray, List.set_cons_zero, List.set_cons_succ]
                      rfl
                    refine pure_ (i := 5) (N := some 183) (v := ?_) (a' := ?_) #[true, true, true, true, true, true, false, false, false, false, false, false, false, false, false, false, false, false, false, false, false, false, false, false, false, false, false, false, false, false] rfl rfl (by kernel_rfl) (fun _ _ _ h => h) (Or.inl ⟨by rfl, ?_⟩) ?_ ?_
                    rotate_left
                    · intro w'
                      go_simp
                      with_reducible rfl
                    rotate_left
                    · simp only [Act.put, List.setIfInBounds_toArray, List.set_cons_zero, List.set_cons_succ]
                      rfl
                    refine one_ (i := 6) (N := some 184) #[true, true, true, true, true, true, true, false, false, false, false, false, false, false, false, false, false, false, false, false, false, false, false, false, false, false, false, false, false, false] rfl rfl (by kernel_rfl) (by decide) (fun K hK => ?_)
                    refine goes_ Try.func10 (by kernel_rfl) rfl #[.pointer (some ⟨g, 0, none⟩), .agg #[.bool true, .int .u8 b1, .int .u32 b2], .int .i64 x] rfl rfl rfl (by (try simp only [List.map_toArray, List.map_cons, List.map_nil]); first | done | rfl) ?_
                    refine (cGone HE10.out HKX.out HI.out.lq HI.out.ll HGX.out).mono ?_
                    rintro e_ w11 ⟨rfl, hB_⟩
                    have HE11 := Aside0.mk (HE10.out.call hB_)
                    clear hB_
                    refine ⟨_, rfl, ?_⟩
                    refine hK.out _ _ (HSF.out _ HE11.out) (fun hHeld => ?_)
                    clear hK K
                    simp only [Act.put, List.setIfInBounds_toArray, List.set_cons_zero, List.set_cons_succ]
                    refine pure_ (i := 7) (N := some 185) (v := ?_) (a' := ?_) #[true, true, true, true, true, true, true, true, false, false, false, false, false, false, false, false, false, false, false, false, false, false, false, false, false, false, false, false, false, false] rfl rfl (by kernel_rfl) (fun _ _ _ h => h) (Or.inl ⟨by rfl, ?_⟩) ?_ ?_
                    rotate_left
                    · intro w'
                      go_simp
                      with_reducible rfl
                    rotate_left
                    · simp only [Act.put, List.setIfInBounds_toArray, List.set_cons_zero, List.set_cons_succ]
                      rfl
                    refine pure_ (i := 8) (N := some 186) (v := ?_) (a' := ?_) #[true, true, true, true, true, true, true, true, true, false, false, false, false, false, false, false, false, false, false, false, false, false, false, false, false, false, false, false, false, false] rfl rfl (by kernel_rfl) (fun _ _ _ h => h) (Or.inl ⟨by rfl, ?_⟩) ?_ ?_
                    rotate_left
                    · intro w'
                      go_simp
                      with_reducible rfl
                    rotate_left
                    · simp only [Act.put, List.setIfInBounds_toArray, List.set_cons_zero, List.set_cons_succ]
                      rfl
                    refine pure_ (i := 9) (N := some 187) (v := ?_) (a' := ?_) #[true, true, true, true, true, true, true, true, true, true, false, false, false, false, false, false, false, false, false, false, false, false, false, false, false, false, false, false, false, false] rfl rfl (by kernel_rfl) (fun _ _ _ h => h) (Or.inl ⟨by rfl, ?_⟩) ?_ ?_
                    rotate_left
                    · intro w'
                      go_simp
                      with_reducible rfl
                    rotate_left
                    · simp only [Act.put, List.setIfInBounds_toArray, List.set_cons_zero, List.set_cons_succ]
                      rfl
                    refine pure_ (i := 10) (N := some 188) (v := ?_) (a' := ?_) #[true, true, true, true, true, true, true, true, true, true, true, false, false, false, false, false, false, false, false, false, false, false, false, false, false, false, false, false, false, false] rfl rfl (by kernel_rfl) (fun _ _ _ h => h) (Or.inl ⟨by rfl, ?_⟩) ?_ ?_
                    rotate_left
                    · intro w'
                      go_simp
                      with_reducible rfl
                    rotate_left
                    · simp only [Act.put, List.setIfInBounds_toArray, List.set_cons_zero, List.set_cons_succ]
                      rfl
                    refine pure_ (i := 11) (N := some 189) (v := ?_) (a' := ?_) #[true, true, true, true, true, true, true, true, true, true, true, true, false, false, false, false, false, false, false, false, false, false, false, false, false, false, false, false, false, false] rfl rfl (by kernel_rfl) (fun _ _ _ h => h) (Or.inl ⟨by rfl, ?_⟩) ?_ ?_
                    rotate_left
                    · intro w'
                      go_simp
                      with_reducible rfl
                    rotate_left
                    · simp only [Act.put, List.setIfInBounds_toArray, List.set_cons_zero, List.set_cons_succ]
                      rfl
                    refine pure_ (i := 12) (N := some 190) (v := ?_) (a' := ?_) #[true, true, true, true, true, true, true, true, true, true, true, true, true, false, false, false, false, false, false, false, false, false, false, false, false, false, false, false, false, false] rfl rfl (by kernel_rfl) (fun _ _ _ h => h) (Or.inl ⟨by rfl, ?_⟩) ?_ ?_
                    rotate_left
                    · intro w'
                      go_simp
                      with_reducible rfl
                    rotate_left
                    · simp only [Act.put, List.setIfInBounds_toArray, List.set_cons_zero, List.set_cons_succ]
                      rfl
                    refine take_ (i := 13) (N := some 191) (v := ?_) (a' := ?_) #[true, true, true, true, true, true, true, true, true, true, true, true, true, true, false, false, false, false, false, false, false, false, false, false, false, false, false, false, false, false] rfl rfl (by kernel_rfl) (fun _ _ _ h => h) (Or.inl ⟨by rfl, ?_⟩) hHeld ?_ ?_
                    rotate_left
                    · rintro w' ⟨s1_, s2_, s3_, s4_, s5_, s6_⟩
                      go_simp
                      with_reducible rfl
                    rotate_left
                    · simp only [Act.put, List.setIfInBounds_toArray, List.set_cons_zero, List.set_cons_succ]
                      rfl
                    refine pure_ (i := 14) (N := some 192) (v := ?_) (a' := ?_) #[true, true, true, true, true, true, true, true, true, true, true, true, true, true, true, false, false, false, false, false, false, false, false, false, false, false, false, false, false, false] rfl rfl (by kernel_rfl) (fun _ _ _ h => h) (Or.inl ⟨by rfl, ?_⟩) ?_ ?_
                    rotate_left
                    · intro w'
                      go_simp
                      with_reducible rfl
                    rotate_left
                    · simp only [Act.put, List.setIfInBounds_toArray, List.set_cons_zero, List.set_cons_succ]
                      rfl
                    refine pure_ (i := 15) (N := some 193) (v := ?_) (a' := ?_) #[true, true, true, true, true, true, true, true, true, true, true, true, true, true, true, true, false, false, false, false, false, false, false, false, false, false, false, false, false, false] rfl rfl (by kernel_rfl) (fun _ _ _ h => h) (Or.inl ⟨by rfl, ?_⟩) ?_ ?_
                    rotate_left
                    · intro w'
                      go_simp
                      with_reducible rfl
                    rotate_left
                    · simp only [Act.put, List.setIfInBounds_toArray, List.set_cons_zero, List.set_cons_succ]
                      rfl
                    refine pure_ (i := 16) (N := some 194) (v := undef) (a' := ?_) #[true, true, true, true, true, true, true, true, true, true, true, true, true, true, true, true, true, false, false, false, false, false, false, false, false, false, false, false, false, false] rfl rfl (by kernel_rfl) (fun _ _ _ h => h) (Or.inr ⟨by rfl, rfl⟩) ?_ ?_
                    rotate_left
                    · simp only [Act.put, List.setIfInBounds_toArray, List.set_cons_zero, List.set_cons_succ]
                      rfl
                    refine pure_ (i := 17) (N := some 195) (v := undef) (a' := ?_) #[true, true, true, true, true, true, true, true, true, true, true, true, true, true, true, true, true, true, false, false, false, false, false, false, false, false, false, false, false, false] rfl rfl (by kernel_rfl) (fun _ _ _ h => h) (Or.inr ⟨by rfl, rfl⟩) ?_ ?_
                    rotate_left
                    · simp only [Act.put, List.setIfInBounds_toArray, List.set_cons_zero, List.set_cons_succ]
                      rfl
                    refine pure_ (i := 18) (N := some 196) (v := undef) (a' := ?_) #[true, true, true, true, true, true, true, true, true, true, true, true, true, true, true, true, true, true, true, false, false, false, false, false, false, false, false, false, false, false] rfl rfl (by kernel_rfl) (fun _ _ _ h => h) (Or.inr ⟨by rfl, rfl⟩) ?_ ?_
                    rotate_left
                    · simp only [Act.put, List.setIfInBounds_toArray, List.set_cons_zero, List.set_cons_succ]
                      rfl
                    refine pure_ (i := 19) (N := some 197) (v := undef) (a' := ?_) #[true, true, true, true, true, true, true, true, true, true, true, true, true, true, true, true, true, true, true, true, false, false, false, false, false, false, false, false, false, false] rfl rfl (by kernel_rfl) (fun _ _ _ h => h) (Or.inr ⟨by rfl, rfl⟩) ?_ ?_
                    rotate_left
                    · simp only [Act.put, List.setIfInBounds_toArray, List.set_cons_zero, List.set_cons_succ]
                      rfl
                    refine pure_ (i := 20) (N := some 198) (v := undef) (a' := ?_) #[true, true, true, true, true, true, true, true, true, true, true, true, true, true, true, true, true, true, true, true, true, false, false, false, false, false, false, false, false, false] rfl rfl (by kernel_rfl) (fun _ _ _ h => h) (Or.inr ⟨by rfl, rfl⟩) ?_ ?_
                    rotate_left
                    · simp only [Act.put, List.setIfInBounds_toArray, List.set_cons_zero, List.set_cons_succ]
                      rfl
                    refine pure_ (i := 21) (N := some 199) (v := undef) (a' := ?_) #[true, true, true, true, true, true, true, true, true, true, true, true, true, true, true, true, true, true, true, true, true, true, false, false, false, false, false, false, false, false] rfl rfl (by kernel_rfl) (fun _ _ _ h => h) (Or.inr ⟨by rfl, rfl⟩) ?_ ?_
                    rotate_left
                    · simp only [Act.put, List.setIfInBounds_toArray, List.set_cons_zero, List.set_cons_succ]
                      rfl
                    refine pure_ (i := 22) (N := some 200) (v := undef) (a' := ?_) #[true, true, true, true, true, true, true, true, true, true, true, true, true, true, true, true, true, true, true, true, true, true, true, false, false, false, false, false, false, false] rfl rfl (by kernel_rfl) (fun _ _ _ h => h) (Or.inr ⟨by rfl, rfl⟩) ?_ ?_
                    rotate_left
                    · simp only [Act.put, List.setIfInBounds_toArray, List.set_cons_zero, List.set_cons_succ]
                      rfl
                    refine pure_ (i := 23) (N := some 201) (v := undef) (a' := ?_) #[true, true, true, true, true, true, true, true, true, true, true, true, true, true, true, true, true, true, true, true, true, true, true, true, false, false, false, false, false, false] rfl rfl (by kernel_rfl) (fun _ _ _ h => h) (Or.inr ⟨by rfl, rfl⟩) ?_ ?_
                    rotate_left
                    · simp only [Act.put, List.setIfInBounds_toArray, List.set_cons_zero, List.set_cons_succ]
                      rfl
                    refine pure_ (i := 24) (N := some 202) (v := undef) (a' := ?_) #[true, true, true, true, true, true, true, true, true, true, true, true, true, true, true, true, true, true, true, true, true, true, true, true, true, false, false, false, false, false] rfl rfl (by kernel_rfl) (fun _ _ _ h => h) (Or.inr ⟨by rfl, rfl⟩) ?_ ?_
                    rotate_left
                    · simp only [Act.put, List.setIfInBounds_toArray, List.set_cons_zero, List.set_cons_succ]
                      rfl
                    refine pure_ (i := 25) (N := some 203) (v := undef) (a' := ?_) #[true, true, true, true, true, true, true, true, true, true, true, true, true, true, true, true, true, true, true, true, true, true, true, true, true, true, false, false, false, false] rfl rfl (by kernel_rfl) (fun _ _ _ h => h) (Or.inr ⟨by rfl, rfl⟩) ?_ ?_
                    rotate_left
                    · simp only [Act.put, List.setIfInBounds_toArray, List.set_cons_zero, List.set_cons_succ]
                      rfl
                    refine pure_ (i := 26) (N := some 204) (v := undef) (a' := ?_) #[true, true, true, true, true, true, true, true, true, true, true, true, true, true, true, true, true, true, true, true, true, true, true, true, true, true, true, false, false, false] rfl rfl (by kernel_rfl) (fun _ _ _ h => h) (Or.inr ⟨by rfl, rfl⟩) ?_ ?_
                    rotate_left
                    · simp only [Act.put, List.setIfInBounds_toArray, List.set_cons_zero, List.set_cons_succ]
                      rfl
                    refine pure_ (i := 27) (N := some 205) (v := undef) (a' := ?_) #[true, true, true, true, true, true, true, true, true, true, true, true, true, true, true, true, true, true, true, true, true, true, true, true, true, true, true, true, false, false] rfl rfl (by kernel_rfl) (fun _ _ _ h => h) (Or.inr ⟨by rfl, rfl⟩) ?_ ?_
                    rotate_left
                    · simp only [Act.put, List.setIfInBounds_toArray, List.set_cons_zero, List.set_cons_succ]
                      rfl
                    refine pure_ (i := 28) (N := some 206) (v := ?_) (a' := ?_) #[true, true, true, true, true, true, true, true, true, true, true, true, true, true, true, true, true, true, true, true, true, true, true, true, true, true, true, true, true, false] rfl rfl (by kernel_rfl) (fun _ _ _ h => h) (Or.inl ⟨by rfl, ?_⟩) ?_ ?_
                    rotate_left
                    · intro w'
                      go_simp
                      with_reducible rfl
                    rotate_left
                    · simp only [Act.put, List.setIfInBounds_toArray, List.set_cons_zero, List.set_cons_succ]
                      rfl
                    refine pure_ (i := 29) (N := some 207) (v := ?_) (a' := ?_) #[true, true, true, true, true, true, true, true, true, true, true, true, true, true, true, true, true, true, true, true, true, true, true, true, true, true, true, true, true, true] rfl rfl (by kernel_rfl) (fun _ _ _ h => h) (Or.inl ⟨by rfl, ?_⟩) ?_ ?_
                    rotate_left
                    · intro w'
                      go_simp
                      with_reducible rfl
                    rotate_left
                    · simp only [Act.put, List.setIfInBounds_toArray, List.set_cons_zero, List.set_cons_succ]
                      rfl
                    refine done_ (by kernel_rfl) ?_
                    go_wp2
                    go_roundg (gk - 1)
                    case measure => have := HX4.out; have := CC.out; omega
                    case rel => exact ⟨x + 1, (by first | rfl | (simp; done) | (simp [HN.out]; done)), ⟨by have := HX4.out; have := CC.out; omega⟩, HE11⟩
                  | false =>
                    have hev : hv = wv := HEQ.out rfl
                    subst hev
                    go_wp2
                    refine start_ (n := 30) (S := fun w_ => w_.cell? (ad.add (x.toNat * 3)) = some (.bool false) ∧ w_.cell? ⟨(ad.add (x.toNat * 3)).block, (ad.add (x.toNat * 3)).off + 1, none⟩ = some (.int .u8 b1) ∧ w_.cell? ⟨(ad.add (x.toNat * 3)).block, (ad.add (x.toNat * 3)).off + 2, none⟩ = some (.int .u32 b2) ∧ w_.cell? ⟨g, 2, none⟩ = some (.slice (some ⟨nh, 0, none⟩) h.length acc.length) ∧ w_.cell? ⟨nh, x.toNat, none⟩ = some (.int .u32 hv) ∧ w_.cell? (adw.add x.toNat) = some (.int .u32 hv)) (ds := []) #[false, false, false, false, false, false, false, false, false, false, false, false, false, false, false, false, false, false, false, false, false, false, false, false, false, false, false, false, false, false] (by kernel_rfl) rfl rfl ((HSF.out _ (HE.out.call (below_drew (Below.refl _ _))))) (fun hHeld => ?_)
                    have HE10 := Aside0.mk (HE.out.call (below_drew (Below.refl _ _)))
                    generalize World.drew _ = w10 at HE10 hHeld ⊢
                    refine pure_ (i := 0) (N := some 178) (v := ?_) (a' := ?_) #[true, false, false, false, false, false, false, false, false, false, false, false, false, false, false, false, false, false, false, false, false, false, false, false, false, false, false, false, false, false] rfl rfl (by kernel_rfl) (fun _ _ _ h => h) (Or.inl ⟨by rfl, ?_⟩) ?_ ?_
                    rotate_left
                    · intro w'
                      go_simp
                      with_reducible rfl
                    rotate_left
                    · simp only [Act.put, List.setIfInBounds_toArray, List.set_cons_zero, List.set_cons_succ]
                      rfl
                    refine pure_ (i := 1) (N := some 179) (v := ?_) (a' := ?_) #[true, true, false, false, false, false, false, false, false, false, false, false, false, false, false, false, false, false, false, false, false, false, false, false, false, false, false, false, false, false] rfl rfl (by kernel_rfl) (fun _ _ _ h => h) (Or.inl ⟨by rfl, ?_⟩) ?_ ?_
                    rotate_left
                    · intro w'
                      go_simp
                      with_reducible rfl
                    rotate_left
                    · simp only [Act.put, List.setIfInBounds_toArray, List.set_cons_zero, List.set_cons_succ]
                      rfl
                    refine pure_ (i := 2) (N := some 180) (v := ?_) (a' := ?_) #[true, true, true, false, false, false, false, false, false, false, false, false, false, false, false, false, false, false, false, false, false, false, false, false, false, false, false, false, false, false] rfl rfl (by kernel_rfl) (fun _ _ _ h => h) (Or.inl ⟨by rfl, ?_⟩) ?_ ?_
                    rotate_left
                    · intro w'
                      go_simp
                      with_reducible rfl
                    rotate_left
                    · simp only [Act.put, List.setIfInBounds_toArray, List.set_cons_zero, List.set_cons_succ]
                      rfl
                    refine pure_ (i := 3) (N := some 181) (v := ?_) (a' := ?_) #[true, true, true, true, false, false, false, false, false, false, false, false, false, false, false, false, false, false, false, false, false, false, false, false, false, false, false, false, false, false] rfl rfl (by kernel_rfl) (fun _ _ _ h => h) (Or.inl ⟨by rfl, ?_⟩) ?_ ?_
                    rotate_left
                    · intro w'
                      go_simp
                      with_reducible rfl
                    rotate_left
                    · simp only [Act.put, List.setIfInBounds_toArray, List.set_cons_zero, List.set_cons_succ]
                      rfl
                    refine take_ (i := 4) (N := some 182) (v := ?_) (a' := ?_) #[true, true, true, true, true, false, false, false, false, false, false, false, false, false, false, false, false, false, false, false, false, false, false, false, false, false, false, false, false, false] rfl rfl (by kernel_rfl) (fun _ _ _ h => h) (Or.inl ⟨by rfl, ?_⟩) hHeld ?_ ?_
                    rotate_left
                    · rintro w' ⟨s1_, s2_, s3_, s4_, s5_, s6_⟩
                      go_simp
                      with_reducible rfl
                    rotate_left
                    · simp only [Act.put, List.setIfInBounds_toArray, List.set_cons_zero, List.set_cons_succ]
                      rfl
                    refine pure_ (i := 5) (N := some 183) (v := ?_) (a' := ?_) #[true, true, true, true, true, true, false, false, false, false, false, false, false, false, false, false, false, false, false, false, false, false, false, false, false, false, false, false, false, false] rfl rfl (by kernel_rfl) (fun _ _ _ h => h) (Or.inl ⟨by rfl, ?_⟩) ?_ ?_
                    rotate_left
                    · intro w'
                      go_simp
                      with_reducible rfl
                    rotate_left
                    · simp only [Act.put, List.setIfInBounds_toArray, List.set_cons_zero, List.set_cons_succ]
                      rfl
                    refine one_ (i := 6) (N := some 184) #[true, true, true, true, true, true, true, false, false, false, false, false, false, false, false, false, false, false, false, false, false, false, false, false, false, false, false, false, false, false] rfl rfl (by kernel_rfl) (by decide) (fun K hK => ?_)
                    refine goes_ Try.func10 (by kernel_rfl) rfl #[.pointer (some ⟨g, 0, none⟩), .agg #[.bool false, .int .u8 b1, .int .u32 b2], .int .i64 x] rfl rfl rfl (by (try simp only [List.map_toArray, List.map_cons, List.map_nil]); first | done | rfl) ?_
                    refine (cGone HE10.out HKX.out HI.out.lq HI.out.ll HGX.out).mono ?_
                    rintro e_ w11 ⟨rfl, hB_⟩
                    have HE11 := Aside0.mk (HE10.out.call hB_)
                    clear hB_
                    refine ⟨_, rfl, ?_⟩
                    refine hK.out _ _ (HSF.out _ HE11.out) (fun hHeld => ?_)
                    clear hK K
                    simp only [Act.put, List.setIfInBounds_toArray, List.set_cons_zero, List.set_cons_succ]
                    refine pure_ (i := 7) (N := some 185) (v := ?_) (a' := ?_) #[true, true, true, true, true, true, true, true, false, false, false, false, false, false, false, false, false, false, false, false, false, false, false, false, false, false, false, false, false, false] rfl rfl (by kernel_rfl) (fun _ _ _ h => h) (Or.inl ⟨by rfl, ?_⟩) ?_ ?_
                    rotate_left
                    · intro w'
                      go_simp
                      with_reducible rfl
                    rotate_left
                    · simp only [Act.put, List.setIfInBounds_toArray, List.set_cons_zero, List.set_cons_succ]
                      rfl
                    refine pure_ (i := 8) (N := some 186) (v := ?_) (a' := ?_) #[true, true, true, true, true, true, true, true, true, false, false, false, false, false, false, false, false, false, false, false, false, false, false, false, false, false, false, false, false, false] rfl rfl (by kernel_rfl) (fun _ _ _ h => h) (Or.inl ⟨by rfl, ?_⟩) ?_ ?_
                    rotate_left
                    · intro w'
                      go_simp
                      with_reducible rfl
                    rotate_left
                    · simp only [Act.put, List.setIfInBounds_toArray, List.set_cons_zero, List.set_cons_succ]
                      rfl
                    refine pure_ (i := 9) (N := some 187) (v := ?_) (a' := ?_) #[true, true, true, true, true, true, true, true, true, true, false, false, false, false, false, false, false, false, false, false, false, false, false, false, false, false, false, false, false, false] rfl rfl (by kernel_rfl) (fun _ _ _ h => h) (Or.inl ⟨by rfl, ?_⟩) ?_ ?_
                    rotate_left
                    · intro w'
                      go_simp
                      with_reducible rfl
                    rotate_left
                    · simp only [Act.put, List.setIfInBounds_toArray, List.set_cons_zero, List.set_cons_succ]
                      rfl
                    refine pure_ (i := 10) (N := some 188) (v := ?_) (a' := ?_) #[true, true, true, true, true, true, true, true, true, true, true, false, false, false, false, false, false, false, false, false, false, false, false, false, false, false, false, false, false, false] rfl rfl (by kernel_rfl) (fun _ _ _ h => h) (Or.inl ⟨by rfl, ?_⟩) ?_ ?_
                    rotate_left
                    · intro w'
                      go_simp
                      with_reducible rfl
                    rotate_left
                    · simp only [Act.put, List.setIfInBounds_toArray, List.set_cons_zero, List.set_cons_succ]
                      rfl
                    refine pure_ (i := 11) (N := some 189) (v := ?_) (a' := ?_) #[true, true, true, true, true, true, true, true, true, true, true, true, false, false, false, false, false, false, false, false, false, false, false, false, false, false, false, false, false, false] rfl rfl (by kernel_rfl) (fun _ _ _ h => h) (Or.inl ⟨by rfl, ?_⟩) ?_ ?_
                    rotate_left
                    · intro w'
                      go_simp
                      with_reducible rfl
                    rotate_left
                    · simp only [Act.put, List.setIfInBounds_toArray, List.set_cons_zero, List.set_cons_succ]
                      rfl
                    refine pure_ (i := 12) (N := some 190) (v := ?_) (a' := ?_) #[true, true, true, true, true, true, true, true, true, true, true, true, true, false, false, false, false, false, false, false, false, false, false, false, false, false, false, false, false, false] rfl rfl (by kernel_rfl) (fun _ _ _ h => h) (Or.inl ⟨by rfl, ?_⟩) ?_ ?_
                    rotate_left
                    · intro w'
                      go_simp
                      with_reducible rfl
                    rotate_left
                    · simp only [Act.put, List.setIfInBounds_toArray, List.set_cons_zero, List.set_cons_succ]
                      rfl
                    refine take_ (i := 13) (N := some 191) (v := ?_) (a' := ?_) #[true, true, true, true, true, true, true, true, true, true, true, true, true, true, false, false, false, false, false, false, false, false, false, false, false, false, false, false, false, false] rfl rfl (by kernel_rfl) (fun _ _ _ h => h) (Or.inl ⟨by rfl, ?_⟩) hHeld ?_ ?_
                    rotate_left
                    · rintro w' ⟨s1_, s2_, s3_, s4_, s5_, s6_⟩
                      go_simp
                      with_reducible rfl
                    rotate_left
                    · simp only [Act.put, List.setIfInBounds_toArray, List.set_cons_zero, List.set_cons_succ]
                      rfl
                    refine pure_ (i := 14) (N := some 192) (v := ?_) (a' := ?_) #[true, true, true, true, true, true, true, true, true, true, true, true, true, true, true, false, false, false, false, false, false, false, false, false, false, false, false, false, false, false] rfl rfl (by kernel_rfl) (fun _ _ _ h => h) (Or.inl ⟨by rfl, ?_⟩) ?_ ?_
                    rotate_left
                    · intro w'
                      go_simp
                      with_reducible rfl
                    rotate_left
                    · simp only [Act.put, List.setIfInBounds_toArray, List.set_cons_zero, List.set_cons_succ]
                      rfl
                    refine pure_ (i := 15) (N := some 193) (v := ?_) (a' := ?_) #[true, true, true, true, true, true, true, true, true, true, true, true, true, true, true, true, false, false, false, false, false, false, false, false, false, false, false, false, false, false] rfl rfl (by kernel_rfl) (fun _ _ _ h => h) (Or.inl ⟨by rfl, ?_⟩) ?_ ?_
                    rotate_left
                    · intro w'
                      go_simp
                      with_reducible rfl
                    rotate_left
                    · simp only [Act.put, List.setIfInBounds_toArray, List.set_cons_zero, List.set_cons_succ]
                      rfl
                    refine pure_ (i := 16) (N := some 194) (v := ?_) (a' := ?_) #[true, true, true, true, true, true, true, true, true, true, true, true, true, true, true, true, true, false, false, false, false, false, false, false, false, false, false, false, false, false] rfl rfl (by kernel_rfl) (fun _ _ _ h => h) (Or.inl ⟨by rfl, ?_⟩) ?_ ?_
                    rotate_left
                    · intro w'
                      go_simp
                      with_reducible rfl
                    rotate_left
                    · simp only [Act.put, List.setIfInBounds_toArray, List.set_cons_zero, List.set_cons_succ]
                      rfl
                    refine pure_ (i := 17) (N := some 195) (v := ?_) (a' := ?_) #[true, true, true, true, true, true, true, true, true, true, true, true, true, true, true, true, true, true, false, false, false, false, false, false, false, false, false, false, false, false] rfl rfl (by kernel_rfl) (fun _ _ _ h => h) (Or.inl ⟨by rfl, ?_⟩) ?_ ?_
                    rotate_left
                    · intro w'
                      go_simp
                      with_reducible rfl
                    rotate_left
                    · simp only [Act.put, List.setIfInBounds_toArray, List.set_cons_zero, List.set_cons_succ]
                      rfl
                    refine pure_ (i := 18) (N := some 196) (v := ?_) (a' := ?_) #[true, true, true, true, true, true, true, true, true, true, true, true, true, true, true, true, true, true, true, false, false, false, false, false, false, false, false, false, false, false] rfl rfl (by kernel_rfl) (fun _ _ _ h => h) (Or.inl ⟨by rfl, ?_⟩) ?_ ?_
                    rotate_left
                    · intro w'
                      go_simp
                      with_reducible rfl
                    rotate_left
                    · simp only [Act.put, List.setIfInBounds_toArray, List.set_cons_zero, List.set_cons_succ]
                      rfl
                    refine take_ (i := 19) (N := some 197) (v := ?_) (a' := ?_) #[true, true, true, true, true, true, true, true, true, true, true, true, true, true, true, true, true, true, true, true, false, false, false, false, false, false, false, false, false, false] rfl rfl (by kernel_rfl) (fun _ _ _ h => h) (Or.inl ⟨by rfl, ?_⟩) hHeld ?_ ?_
                    rotate_left
                    · rintro w' ⟨s1_, s2_, s3_, s4_, s5_, s6_⟩
                      go_simp
                      with_reducible rfl
                    rotate_left
                    · simp only [Act.put, List.setIfInBounds_toArray, List.set_cons_zero, List.set_cons_succ]
                      rfl
                    refine pure_ (i := 20) (N := some 198) (v := ?_) (a' := ?_) #[true, true, true, true, true, true, true, true, true, true, true, true, true, true, true, true, true, true, true, true, true, false, false, false, false, false, false, false, false, false] rfl rfl (by kernel_rfl) (fun _ _ _ h => h) (Or.inl ⟨by rfl, ?_⟩) ?_ ?_
                    rotate_left
                    · intro w'
                      go_simp
                      with_reducible rfl
                    rotate_left
                    · simp only [Act.put, List.setIfInBounds_toArray, List.set_cons_zero, List.set_cons_succ]
                      rfl
                    refine pure_ (i := 21) (N := some 199) (v := ?_) (a' := ?_) #[true, true, true, true, true, true, true, true, true, true, true, true, true, true, true, true, true, true, true, true, true, true, false, false, false, false, false, false, false, false] rfl rfl (by kernel_rfl) (fun _ _ _ h => h) (Or.inl ⟨by rfl, ?_⟩) ?_ ?_
                    rotate_left
                    · intro w'
                      go_simp
                      with_reducible rfl
                    rotate_left
                    · simp only [Act.put, List.setIfInBounds_toArray, List.set_cons_zero, List.set_cons_succ]
                      rfl
                    refine take_ (i := 22) (N := some 200) (v := ?_) (a' := ?_) #[true, true, true, true, true, true, true, true, true, true, true, true, true, true, true, true, true, true, true, true, true, true, true, false, false, false, false, false, false, false] rfl rfl (by kernel_rfl) (fun _ _ _ h => h) (Or.inl ⟨by rfl, ?_⟩) hHeld ?_ ?_
                    rotate_left
                    · rintro w' ⟨s1_, s2_, s3_, s4_, s5_, s6_⟩
                      go_simp
                      with_reducible rfl
                    rotate_left
                    · simp only [Act.put, List.setIfInBounds_toArray, List.set_cons_zero, List.set_cons_succ]
                      rfl
                    refine pure_ (i := 23) (N := some 201) (v := ?_) (a' := ?_) #[true, true, true, true, true, true, true, true, true, true, true, true, true, true, true, true, true, true, true, true, true, true, true, true, false, false, false, false, false, false] rfl rfl (by kernel_rfl) (fun _ _ _ h => h) (Or.inl ⟨by rfl, ?_⟩) ?_ ?_
                    rotate_left
                    · intro w'
                      go_simp
                      with_reducible rfl
                    rotate_left
                    · simp only [Act.put, List.setIfInBounds_toArray, List.set_cons_zero, List.set_cons_succ]
                      rfl
                    refine pure_ (i := 24) (N := some 202) (v := ?_) (a' := ?_) #[true, true, true, true, true, true, true, true, true, true, true, true, true, true, true, true, true, true, true, true, true, true, true, true, true, false, false, false, false, false] rfl rfl (by kernel_rfl) (fun _ _ _ h => h) (Or.inl ⟨by rfl, ?_⟩) ?_ ?_
                    rotate_left
                    · intro w'
                      go_simp
                      with_reducible rfl
                    rotate_left
                    · simp only [Act.put, List.setIfInBounds_toArray, List.set_cons_zero, List.set_cons_succ]
                      rfl
                    refine pure_ (i := 25) (N := some 203) (v := ?_) (a' := ?_) #[true, true, true, true, true, true, true, true, true, true, true, true, true, true, true, true, true, true, true, true, true, true, true, true, true, true, false, false, false, false] rfl rfl (by kernel_rfl) (fun _ _ _ h => h) (Or.inl ⟨by rfl, ?_⟩) ?_ ?_
                    rotate_left
                    · intro w'
                      go_simp
                      with_reducible rfl
                    rotate_left
                    · simp only [Act.put, List.setIfInBounds_toArray, List.set_cons_zero, List.set_cons_succ]
                      rfl
                    refine take_ (i := 26) (N := some 204) (v := ?_) (a' := ?_) #[true, true, true, true, true, true, true, true, true, true, true, true, true, true, true, true, true, true, true, true, true, true, true, true, true, true, true, false, false, false] rfl rfl (by kernel_rfl) (fun _ _ _ h => h) (Or.inl ⟨by rfl, ?_⟩) hHeld ?_ ?_
                    rotate_left
                    · rintro w' ⟨s1_, s2_, s3_, s4_, s5_, s6_⟩
                      go_simp
                      with_reducible rfl
                    rotate_left
                    · simp only [Act.put, List.setIfInBounds_toArray, List.set_cons_zero, List.set_cons_succ]
                      rfl
                    refine pure_ (i := 27) (N := some 205) (v := ?_) (a' := ?_) #[true, true, true, true, true, true, true, true, true, true, true, true, true, true, true, true, true, true, true, true, true, true, true, true, true, true, true, true, false, false] rfl rfl (by kernel_rfl) (fun _ _ _ h => h) (Or.inl ⟨by rfl, ?_⟩) ?_ ?_
                    rotate_left
                    · intro w'
                      go_simp
                      with_reducible rfl
                    rotate_left
                    · simp only [Act.put, List.setIfInBounds_toArray, List.set_cons_zero, List.set_cons_succ]
                      rfl
                    refine pure_ (i := 28) (N := some 206) (v := ?_) (a' := ?_) #[true, true, true, true, true, true, true, true, true, true, true, true, true, true, true, true, true, true, true, true, true, true, true, true, true, true, true, true, true, false] rfl rfl (by kernel_rfl) (fun _ _ _ h => h) (Or.inl ⟨by rfl, ?_⟩) ?_ ?_
                    rotate_left
                    · intro w'
                      go_simp
                      with_reducible rfl
                    rotate_left
                    · simp only [Act.put, List.setIfInBounds_toArray, List.set_cons_zero, List.set_cons_succ]
                      rfl
                    refine pure_ (i := 29) (N := some 207) (v := ?_) (a' := ?_) #[true, true, true, true, true, true, true, true, true, true, true, true, true, true, true, true, true, true, true, true, true, true, true, true, true, true, true, true, true, true] rfl rfl (by kernel_rfl) (fun _ _ _ h => h) (Or.inl ⟨by rfl, ?_⟩) ?_ ?_
                    rotate_left
                    · intro w'
                      go_simp
                      with_reducible rfl
                    rotate_left
                    · simp only [Act.put, List.setIfInBounds_toArray, List.set_cons_zero, List.set_cons_succ]
                      rfl
                    refine done_ (by kernel_rfl) ?_
                    go_wp2
                    go_roundg (gk - 1)
                    case measure => have := HX4.out; have := CC.out; omega
                    case rel => exact ⟨x + 1, (by first | rfl | (simp; done) | (simp [HN.out]; done)), ⟨by have := HX4.out; have := CC.out; omega⟩, HE11⟩
                · have cb : decide (x < (acc.length : Int)) = false := decide_eq_false c
                  clear c
                  go_wp2_with (first | (go_at_call 5; (with_reducible refine (awake _).mono ?_); rintro e_ w12 ⟨rfl, hB_⟩; have HB12 := Aside0.mk (below_step HE.out.st.below hB_); clear hB_))
                  go_ret
                  exact ⟨rfl, HB12.out⟩
            · have hd : (((left.length : Nat) : Int) == 0) = false := by rw [beq_eq_false_iff_ne]; omega
              have HLC := Aside0.mk (Kd.R_reads' HLR.out).2.2
              have HNL := Aside0.mk (show 0 < (left.length : Int) by omega)
              by_cases c2 : i < (pk.length : Int)
              · have cp : decide (i < (pk.length : Int)) = true := decide_eq_true c2
                have i0 : 0 ≤ i := HX.out.1
                obtain ⟨adp, eP, gP⟩ := Kd.at_int HR1.out i i0 c2
                cases eP
                obtain ⟨b, hb⟩ : ∃ b_, rd pk i = b_ := ⟨_, rfl⟩
                have hbr := HPK.out b (by rw [← hb]; exact mem_rd i0 c2)
                rw [hb] at gP
                replace gP := (HE.out.st.below.cell (World.block_lt_of_cell? w _ gP)).trans gP
                obtain ⟨j, hj⟩ : ∃ j_, b.tmod (left.length : Int) = j_ := ⟨_, rfl⟩
                have hjr : 0 ≤ j ∧ j < (left.length : Int) := by rw [← hj]; exact ⟨Int.tmod_nonneg _ hbr.1, Int.tmod_lt_of_pos _ HNL.out⟩
                have j0 : 0 ≤ j := hjr.1
                have jl : j < (left.length : Int) := hjr.2
                have hbw : IntKind.i64.wrap b = b := (i64_w _).trans (wrap_i (by omega) (by omega))
                have hbw2 : wrap64 b = b := wrap_i (by omega) (by omega)
                have hjw : IntKind.i64.wrap j = j := (i64_w _).trans (wrap_i (by omega) (by have := HLL.out; omega))
                have hjw2 : wrap64 j = j := wrap_i (by omega) (by have := HLL.out; omega)
                obtain ⟨adl, eL, gL⟩ := Kd.at_int HLC.out j j0 jl
                cases eL
                obtain ⟨_, eL, gL0⟩ := Kd.at_int HLC.out 0 (by decide) HNL.out
                cases eL
                have e0 : adl.add (0 : Int).toNat = adl := by unfold Addr.add; rfl
                rw [e0] at gL0
                clear e0
                have HMEM := Aside0.mk (show rd left j ∈ left by have h_ := lf_rd (fun k => goneX q l (rdA acc k) k) acc.length (j := j) j0 (by rw [← HLf.out]; exact jl); rw [← HLf.out] at h_; exact h_)
                obtain ⟨kx, hkx⟩ : ∃ k_, rd left j = k_ := ⟨_, rfl⟩
                rw [hkx] at gL HMEM
                obtain ⟨k00, hk00⟩ : ∃ k_, rd left 0 = k_ := ⟨_, rfl⟩
                rw [hk00] at gL0
                have HI0 := Aside0.mk i0
                have i0' := decide_eq_true i0
                have j0' := decide_eq_true j0
                have jl' := decide_eq_true jl
                have hn0 : (0 : Int) < (left.length : Int) := HNL.out
                have hn0' := decide_eq_true hn0
                clear hkx hk00 hb hjr hbr
                replace i0 := eq_true i0
                replace c2 := eq_true c2
                replace j0 := eq_true j0
                replace jl := eq_true jl
                replace hn0 := eq_true hn0
                have HK3 := Aside0.mk (lf_mem (fun k => goneX q l (rdA acc k) k) acc.length kx (by rw [← HLf.out]; exact HMEM.out))
                have kx0 : 0 ≤ kx := HK3.out.1
                have kxl : kx < (acc.length : Int) := HK3.out.2.1
                have HKL := Aside0.mk kxl
                have HKX := Aside0.mk (show 0 ≤ kx ∧ kx ≤ 1000 by have := HLA.out; omega)
                obtain ⟨ad, e1, h0, h1, h2⟩ := atA HR0.out kx kx0 kxl
                cases e1
                obtain ⟨y, hy⟩ : ∃ y_, rdA acc kx = y_ := ⟨_, rfl⟩
                have HGY := Aside0.mk (show GoodA y by rw [← hy]; exact HGD.out _ (memA kx0 kxl))
                rw [hy] at h0 h1 h2
                obtain ⟨b0, b1, b2⟩ := y
                have HY := Aside0.mk hy
                have HB1_ := Aside0.mk (show 0 ≤ b1 from HGY.out.1)
                replace h0 : wr.cell? (ad.add (kx.toNat * 3)) = some (.bool b0) := (HE.out.st.below.cell (World.block_lt_of_cell? w _ h0)).trans h0
                replace h1 : wr.cell? ⟨(ad.add (kx.toNat * 3)).block, (ad.add (kx.toNat * 3)).off + 1, none⟩ = some (.int .u8 b1) := (HE.out.st.below.cell (World.block_lt_of_cell? w _ h1)).trans h1
                replace h2 : wr.cell? ⟨(ad.add (kx.toNat * 3)).block, (ad.add (kx.toNat * 3)).off + 2, none⟩ = some (.int .u32 b2) := (HE.out.st.below.cell (World.block_lt_of_cell? w _ h2)).trans h2
                clear hy
                have HGF := Aside0.mk (show goneX q l ⟨b0, b1, b2⟩ kx = false by have h_ := HK3.out.2.2; simp only [HY.out] at h_; exact h_)
                have kx0' := decide_eq_true kx0
                have kxl' := decide_eq_true kxl
                replace kx0 := eq_true kx0
                replace kxl := eq_true kxl
                cases b0 with
                | true =>
                  obtain ⟨q1, hq10⟩ : ∃ q_, setX q ⟨kx + 1, plA ⟨true, b1, b2⟩, b2, 4, true⟩ = q_ := ⟨_, rfl⟩
                  obtain ⟨l1, hl10⟩ : ∃ q_, redo (earlyX l ⟨kx + 1, plA ⟨true, b1, b2⟩, b2, 4, true⟩) l = q_ := ⟨_, rfl⟩
                  have hq1 := Aside0.mk hq10
                  have hl1 := Aside0.mk hl10
                  have HI1 := Aside0.mk (show InvE acc mm (i + 1) q1 l1 h by rw [← hq10, ← hl10]; exact inv_stores HI.out HKX.out.1 HKL.out HY.out rfl HGF.out)
                  clear hq10 hl10
                  go_wp2_with (first | (go_at_call 11; (with_reducible refine (cStores HE.out HL1.out HKX.out HB1_.out HI.out.lq HI.out.ll hq1.out hl1.out).mono ?_); rintro e_ w1 ⟨rfl, A6, c6_, hE_⟩; have HE1 := Aside0.mk hE_; clear hE_))
                  go_roundg (gko - 1)
                  case measure => have := HX.out; have := HGO.out; have := HI.out.bound; omega
                  case rel => exact ⟨i + 1, q1, l1, h, A6, Al, c6_, cl, (by first | rfl | (simp; done) | (simp [HN2.out]; done)), ⟨by have := HX.out; have := HGO.out; have := HI.out.bound; omega⟩, HI1, HE1⟩
                | false =>
                  obtain ⟨l1, hl10⟩ : ∃ q_, setL l ⟨kx + 1, 0, plA ⟨false, b1, b2⟩, 4, true, true, (hasX q ⟨false, b1, b2⟩ kx mm).2, false⟩ = q_ := ⟨_, rfl⟩
                  obtain ⟨h1_, hh10⟩ : ∃ q_, h.set kx.toNat (hasX q ⟨false, b1, b2⟩ kx mm).1 = q_ := ⟨_, rfl⟩
                  have hl1 := Aside0.mk hl10
                  have hh1 := Aside0.mk hh10
                  have HI1 := Aside0.mk (show InvE acc mm (i + 1) q l1 h1_ by rw [← hl10, ← hh10]; exact inv_loads HI.out HKX.out.1 HKL.out HY.out rfl HGF.out)
                  have HKH := Aside0.mk (show 0 ≤ kx ∧ kx < (h.length : Int) ∧ kx ≤ 1000 by rw [HI.out.lh]; exact ⟨HKX.out.1, HKL.out, HKX.out.2⟩)
                  clear hl10 hh10
                  go_wp2_with (first | (go_at_call 12; (with_reducible refine (cLoads HE.out HKH.out HB1_.out HI.out.ll HMM.out HPC.out (HL2.out _ (fun b hb => HE.out.st.heap b (by simp [hb]))).1 hl1.out hh1.out).mono ?_); rintro e_ w1 ⟨rfl, A6, c6_, hE_⟩; have HE1 := Aside0.mk hE_; clear hE_))
                  go_roundg (gko - 1)
                  case measure => have := HX.out; have := HGO.out; have := HI.out.bound; omega
                  case rel => exact ⟨i + 1, q, l1, h1_, Aq, A6, cq, c6_, (by first | rfl | (simp; done) | (simp [HN2.out]; done)), ⟨by have := HX.out; have := HGO.out; have := HI.out.bound; omega⟩, HI1, HE1⟩
              · have cp : decide (i < (pk.length : Int)) = false := decide_eq_false c2
                obtain ⟨adl, eL, gL0⟩ := Kd.at_int HLC.out 0 (by decide) HNL.out
                cases eL
                have e0 : adl.add (0 : Int).toNat = adl := by unfold Addr.add; rfl
                rw [e0] at gL0
                clear e0
                have HMEM := Aside0.mk (show rd left 0 ∈ left by have h_ := lf_rd (fun k => goneX q l (rdA acc k) k) acc.length (j := 0) (by decide) (by rw [← HLf.out]; exact HNL.out); rw [← HLf.out] at h_; exact h_)
                obtain ⟨kx, hkx⟩ : ∃ k_, rd left 0 = k_ := ⟨_, rfl⟩
                rw [hkx] at gL0 HMEM
                have hn0 : (0 : Int) < (left.length : Int) := HNL.out
                have hn0' := decide_eq_true hn0
                clear hkx c2
                replace hn0 := eq_true hn0
                have HK3 := Aside0.mk (lf_mem (fun k => goneX q l (rdA acc k) k) acc.length kx (by rw [← HLf.out]; exact HMEM.out))
                have kx0 : 0 ≤ kx := HK3.out.1
                have kxl : kx < (acc.length : Int) := HK3.out.2.1
                have HKL := Aside0.mk kxl
                have HKX := Aside0.mk (show 0 ≤ kx ∧ kx ≤ 1000 by have := HLA.out; omega)
                obtain ⟨ad, e1, h0, h1, h2⟩ := atA HR0.out kx kx0 kxl
                cases e1
                obtain ⟨y, hy⟩ : ∃ y_, rdA acc kx = y_ := ⟨_, rfl⟩
                have HGY := Aside0.mk (show GoodA y by rw [← hy]; exact HGD.out _ (memA kx0 kxl))
                rw [hy] at h0 h1 h2
                obtain ⟨b0, b1, b2⟩ := y
                have HY := Aside0.mk hy
                have HB1_ := Aside0.mk (show 0 ≤ b1 from HGY.out.1)
                replace h0 : wr.cell? (ad.add (kx.toNat * 3)) = some (.bool b0) := (HE.out.st.below.cell (World.block_lt_of_cell? w _ h0)).trans h0
                replace h1 : wr.cell? ⟨(ad.add (kx.toNat * 3)).block, (ad.add (kx.toNat * 3)).off + 1, none⟩ = some (.int .u8 b1) := (HE.out.st.below.cell (World.block_lt_of_cell? w _ h1)).trans h1
                replace h2 : wr.cell? ⟨(ad.add (kx.toNat * 3)).block, (ad.add (kx.toNat * 3)).off + 2, none⟩ = some (.int .u32 b2) := (HE.out.st.below.cell (World.block_lt_of_cell? w _ h2)).trans h2
                clear hy
                have HGF := Aside0.mk (show goneX q l ⟨b0, b1, b2⟩ kx = false by have h_ := HK3.out.2.2; simp only [HY.out] at h_; exact h_)
                have kx0' := decide_eq_true kx0
                have kxl' := decide_eq_true kxl
                replace kx0 := eq_true kx0
                replace kxl := eq_true kxl
                cases b0 with
                | true =>
                  obtain ⟨q1, hq10⟩ : ∃ q_, setX q ⟨kx + 1, plA ⟨true, b1, b2⟩, b2, 4, true⟩ = q_ := ⟨_, rfl⟩
                  obtain ⟨l1, hl10⟩ : ∃ q_, redo (earlyX l ⟨kx + 1, plA ⟨true, b1, b2⟩, b2, 4, true⟩) l = q_ := ⟨_, rfl⟩
                  have hq1 := Aside0.mk hq10
                  have hl1 := Aside0.mk hl10
                  have HI1 := Aside0.mk (show InvE acc mm (i + 1) q1 l1 h by rw [← hq10, ← hl10]; exact inv_stores HI.out HKX.out.1 HKL.out HY.out rfl HGF.out)
                  clear hq10 hl10
                  go_wp2_with (first | (go_at_call 11; (with_reducible refine (cStores HE.out HL1.out HKX.out HB1_.out HI.out.lq HI.out.ll hq1.out hl1.out).mono ?_); rintro e_ w1 ⟨rfl, A6, c6_, hE_⟩; have HE1 := Aside0.mk hE_; clear hE_))
                  go_roundg (gko - 1)
                  case measure => have := HX.out; have := HGO.out; have := HI.out.bound; omega
                  case rel => exact ⟨i + 1, q1, l1, h, A6, Al, c6_, cl, (by first | rfl | (simp; done) | (simp [HN2.out]; done)), ⟨by have := HX.out; have := HGO.out; have := HI.out.bound; omega⟩, HI1, HE1⟩
                | false =>
                  obtain ⟨l1, hl10⟩ : ∃ q_, setL l ⟨kx + 1, 0, plA ⟨false, b1, b2⟩, 4, true, true, (hasX q ⟨false, b1, b2⟩ kx mm).2, false⟩ = q_ := ⟨_, rfl⟩
                  obtain ⟨h1_, hh10⟩ : ∃ q_, h.set kx.toNat (hasX q ⟨false, b1, b2⟩ kx mm).1 = q_ := ⟨_, rfl⟩
                  have hl1 := Aside0.mk hl10
                  have hh1 := Aside0.mk hh10
                  have HI1 := Aside0.mk (show InvE acc mm (i + 1) q l1 h1_ by rw [← hl10, ← hh10]; exact inv_loads HI.out HKX.out.1 HKL.out HY.out rfl HGF.out)
                  have HKH := Aside0.mk (show 0 ≤ kx ∧ kx < (h.length : Int) ∧ kx ≤ 1000 by rw [HI.out.lh]; exact ⟨HKX.out.1, HKL.out, HKX.out.2⟩)
                  clear hl10 hh10
                  go_wp2_with (first | (go_at_call 12; (with_reducible refine (cLoads HE.out HKH.out HB1_.out HI.out.ll HMM.out HPC.out (HL2.out _ (fun b hb => HE.out.st.heap b (by simp [hb]))).1 hl1.out hh1.out).mono ?_); rintro e_ w1 ⟨rfl, A6, c6_, hE_⟩; have HE1 := Aside0.mk hE_; clear hE_))
                  go_roundg (gko - 1)
                  case measure => have := HX.out; have := HGO.out; have := HI.out.bound; omega
                  case rel => exact ⟨i + 1, q, l1, h1_, Aq, A6, cq, c6_, (by first | rfl | (simp; done) | (simp [HN2.out]; done)), ⟨by have := HX.out; have := HGO.out; have := HI.out.bound; omega⟩, HI1, HE1⟩

end Go.Proofs.Ytmpnnppgppoliaa.Ea

namespace Go.Proofs.Ytmpnnppgppoliaa.Ea
open Go.Proofs.Ytmpnnppgppoliaa.Ld Go Go.Proofs Go.RowKit Go.Proofs.YtmpnnppgppoliaaW.PrintWords Go.Proofs.YtmpnnppgppoliaaW.PrintLast Go.Proofs.YtmpnnppgppoliaaW.PrintMore Go.Proofs.Ytmpnnppgppoliaa.Boxes Go.Proofs.Ytmpnnppgppoliaa.PFwd
attribute [local go_sem] max2_int min2_int max_two min_two max_three min_three max_four min_four   -- for this text's walks alone
set_option linter.unusedVariables false
set_option linter.unusedSimpArgs false

set_option maxHeartbeats 8000000 in
set_option maxRecDepth 100000 in
theorem wholeEarly (A0 : Option Addr) (c0 : Nat) (acc : List Ac) (A1 : Option Addr) (c1 : Nat) (pk : List Int) (m32 : List Int) (w : World) (hr0 : Kd.C kA w A0 acc.length acc) (hr1 : Kd.C (Kd.int .u8) w A1 pk.length pk) (hgd : ∀ a ∈ acc, GoodA a) (hpk : ∀ v ∈ pk, 0 ≤ v ∧ v < 256) (hm : m32.length = 32) :
    Calls Try.prog 3 #[.slice A0 acc.length c0, .slice A1 pk.length c1, .agg (m32.map (Value.int .u8)).toArray] w fun e w' => e = .returned (.bool true) ∧ Below w.heap.size w w' := by
  have S0 := St.start w
  by_cases h1 : 12 < (acc.length : Int)
  · have cb1 : decide (12 < (acc.length : Int)) = true := decide_eq_true h1
    clear h1 hr0 hr1 hgd hpk
    go_enter Try.func3, Try.ntmps3
    go_wp2_with (first | ((with_reducible refine gate_dst (N := 5) rfl ?_); refine box_event ?hg (N := 5) ?hd (cs := (m32.map (Value.int .u8)).toArray) (t := 24) ?hr ?_; (case hd => rfl); (case hg => rfl); (case hr => first | (go_simp; done) | (go_simp; rfl)); intro gm hg w1 hbox hb; have S1 := S0.box hg hbox hb; clear hg hbox hb; clear S0) | (go_at_call 5; (with_reducible refine (awake _).mono ?_); rintro e_ w12 ⟨rfl, hB_⟩; have HB12 := Aside0.mk (below_step S1.below hB_); clear hB_))
    go_ret
    exact ⟨rfl, HB12.out⟩
  · by_cases h2 : 60 < (pk.length : Int)
    · have cb1 : decide (12 < (acc.length : Int)) = false := decide_eq_false h1
      have cb2 : decide (60 < (pk.length : Int)) = true := decide_eq_true h2
      clear h1 h2 hr0 hr1 hgd hpk
      go_enter Try.func3, Try.ntmps3
      go_wp2_with (first | ((with_reducible refine gate_dst (N := 5) rfl ?_); refine box_event ?hg (N := 5) ?hd (cs := (m32.map (Value.int .u8)).toArray) (t := 24) ?hr ?_; (case hd => rfl); (case hg => rfl); (case hr => first | (go_simp; done) | (go_simp; rfl)); intro gm hg w1 hbox hb; have S1 := S0.box hg hbox hb; clear hg hbox hb; clear S0) | (go_at_call 5; (with_reducible refine (awake _).mono ?_); rintro e_ w12 ⟨rfl, hB_⟩; have HB12 := Aside0.mk (below_step S1.below hB_); clear hB_))
      go_ret
      exact ⟨rfl, HB12.out⟩
    · exact shortE A0 c0 acc A1 c1 pk m32 w hr0 hr1 hpk hm (by omega) (by omega) hgd

end Go.Proofs.Ytmpnnppgppoliaa.Ea
