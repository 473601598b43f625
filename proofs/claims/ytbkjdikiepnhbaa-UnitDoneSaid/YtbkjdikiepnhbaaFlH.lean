/- What Start and the document's Start come to: walks of the code. The conditions are those that each theorem names. -/
import Derived.Test.YtbkjdikiepnhbaaFlG
import Derived.Deep.RegionLawGrows
namespace Go.Proofs.Ytbkjdikiepnhbaa.Fl
open Go Go.Proofs Go.RowKit Go.Proofs.YtbkjdikiepnhbaaW.PrintWords Go.Proofs.YtbkjdikiepnhbaaW.PrintLast Go.Proofs.YtbkjdikiepnhbaaW.PrintMore Go.Proofs.Ytbkjdikiepnhbaa.Boxes
attribute [local go_sem] max2_int min2_int max_two min_two max_three min_three max_four min_four   -- for this text's walks alone
set_option linter.unusedVariables false
set_option linter.unusedSimpArgs false

section
variable {P : Program} {ops : Array Oper} {o : Oper} {a : Act} {w : World} {K : Act → World → Prop} {Q : Exit → Act → World → Prop}
theorem step_bs44 {E : Prop} (hg : o.guard = none) (y : Operand) (ho : o.op = .buildSlice 24 1 #[(0, y)]) {N : Tmp} (hN : o.dst = some N) (x : S44) (hy : a.eval y = .agg (cs44 x).toArray)
    (h : K (a.put (some N) (.slice (some ⟨w.heap.size, 0, none⟩) 1 1)) (w.alloc (.cells (cs44 x).toArray 44))) : if Region.wanted o (yielded ops a.tmps) = true then Oper.wp Try.prog o a w K Q else E := by
  have hw : Region.wanted o (yielded ops a.tmps) = true := by simp [Region.wanted, hg]
  rw [if_pos hw]
  obtain ⟨i0, hi, hzz⟩ := Option.map_eq_some_iff.1 info44
  simp only [Prod.mk.injEq] at hzz
  obtain ⟨hz0, hz1, hz2⟩ := hzz
  refine wp_buildSlice 24 44 1 _ ho (cs44 x).toArray i0 _ Try.underlying24 hi hz0 (by rw [hz1]; decide) (by rw [hz1]; decide) ?_ ?_
  · rw [hz1]
    simpa [hy] using fill35 _ x
  · rw [hN]; exact h
theorem step_app_full {E : Prop} {w0 : World} (hg : o.guard = none) (s x : Operand) (ho : o.op = .call { callee := .builtin .append, args := #[s, x], argTypes := #[24, 24] }) {A : Option Addr} {l : List S44} {p : S44} {g : Nat}
    (hs : a.eval s = .slice A l.length l.length) (hx : a.eval x = .slice (some ⟨g, 0, none⟩) 1 1) (hn : w.heap[g]? = some (.cells (cs44 p).toArray 44 (0, 0))) (hC : Kd.C k44 w A l.length l) (HB : Below w0.heap.size w0 w) (hl : l.length ≤ 1000)
    (h : ∀ v' w', Kd.R k44 44 w' w0.heap.size (fun _ => True) v' (l ++ [p]) → Below w0.heap.size w0 w' → K (a.put o.dst v') w') : if Region.wanted o (yielded ops a.tmps) = true then Oper.wp Try.prog o a w K Q else E := by
  obtain ⟨i0, hi, hzz⟩ := Option.map_eq_some_iff.1 info44
  simp only [Prod.mk.injEq] at hzz
  obtain ⟨hz0, hz1, hz2⟩ := hzz
  obtain ⟨inner, hr, hc⟩ : ∃ inner, Reps (k44.K w) k44.sz l inner ∧ ∀ b, A = some b → ∀ j u, inner[j]? = some u → w.cell? (b.add j) = some u := by
    rcases Nat.eq_zero_or_pos l.length with h0 | hp
    · obtain rfl : l = [] := List.eq_nil_of_length_eq_zero h0
      exact ⟨[], Reps.none _ _, fun b _ j u h => by simp at h⟩
    · obtain ⟨ad, rfl, _⟩ := hC.2.2 hp
      obtain ⟨inner, hr, hc⟩ := ReadsRow.inner_ hC
      exact ⟨inner, hr, fun b hb => by cases hb; exact hc⟩
  refine step_append_grows hg s x 24 ho 44 i0 _ 35 256 Try.underlying24 hi hz0 hz1 hz2 rfl (by decide) A l.length l.length inner hs (fun h0 => ?_) hr.1 hc ⟨g, 0, none⟩ 1 1 (cs44 p) hx rfl (fun j u hj => ?_) (cs_one p) (by omega) (by simp only [maxLen]; omega) (by omega) (fun v' w' hown hgr => ?_)
  · have : l.length = 0 := by
      rcases Nat.eq_zero_or_pos l.length with h1 | h1
      · exact h1
      · obtain ⟨ad, q, _⟩ := hC.2.2 h1; rw [h0] at q; cases q
    omega
  · rw [add_plain, cell_of_row _ _ _ _ _ _ hn]
    simpa using hj
  · refine h v' w' ⟨fun _ _ => trivial, inner ++ cs44 p, by rw [List.length_append]; exact own_weaken hown HB.size, ?_⟩ (below_step HB ⟨hgr.os, hgr.tape, hgr.output, hgr.size, fun k hk => hgr.block k hk (by simp)⟩)
    exact (AppKd.reps_append hr (AppKd.Reps.one (by decide) (cs_k44 w p) rfl)).imp_ fun x cs h => k44_KM _ _ _ _ x cs h
end
/-- What begins. -/
def begX (m d : Int) (f : S44) : S44 := {f with f2 := if f.f1 = 5 then wi f.f2 else latX m d f.f1}

set_option maxHeartbeats 8000000 in
set_option maxRecDepth 100000 in
theorem start {m d : Int} (cf : Cf m d) (A0 : Option Addr) (c0 : Nat) (l : List S44) (f : S44) (w : World) (hr0 : Kd.C k44 w A0 l.length l) (hc0 : l.length ≤ c0) (hl : l.length ≤ 1000) :
    Calls Try.prog 12 #[.agg cf.cs.toArray, .slice A0 l.length c0, .agg (cs44 f).toArray] w fun e w' => (∃ v, e = .returned (.tuple #[v, .bool (roomX m d l f.f1)]) ∧ (roomX m d l f.f1 = false → v = .slice A0 l.length c0) ∧ (roomX m d l f.f1 = true → Kd.R k44 44 w' w.heap.size (fun _ => True) v (l ++ [begX m d f]))) ∧ Below w.heap.size w w' := by
  have HR0 := Aside0.mk hr0
  have HC0 := Aside0.mk hc0
  have HL := Aside0.mk hl
  clear hr0 hc0 hl
  have S0 := St.start w
  have hc29 : (cs44 f).toArray[29]? = some (.int .i64 f.f1) := rfl
  have hc30 : (cs44 f).toArray[30]? = some (.int .i64 f.f2) := rfl
  obtain ⟨r, hr⟩ : ∃ r_, roomX m d l f.f1 = r_ := ⟨_, rfl⟩
  have HRR := Aside0.mk (fun w_ (hC_ : Kd.C k44 w_ A0 l.length l) => room cf A0 c0 l f.f1 w_ hC_ HC0.out HL.out)
  rw [hr] at HRR ⊢
  clear hr
  cases r with
  | false =>
    go_enter Try.func12, Try.ntmps12
    go_wp2_with (first | ((with_reducible refine gate_dst (N := 3) rfl ?_); refine box_event ?hg (N := 3) ?hd (cs := cf.cs.toArray) (t := 23) ?hr ?_; (case hd => rfl); (case hg => rfl); (case hr => first | (go_simp; done) | (go_simp; rfl)); intro g1 hg w1 hbox hb; have S1 := S0.box hg hbox hb; clear hg hbox hb; clear S0) | ((with_reducible refine gate_dst (N := 5) rfl ?_); refine box_event ?hg (N := 5) ?hd (cs := (cs44 f).toArray) (t := 44) ?hr ?_; (case hd => rfl); (case hg => rfl); (case hr => first | (go_simp; done) | (go_simp; rfl)); intro g2 hg w2 hbox hb; have S2 := S1.box hg hbox hb; clear hg hbox hb; clear S1; have c29 := S2.cell (b := ⟨g2, (cs44 f).toArray, 44⟩) (by simp) hc29; have c30 := S2.cell (b := ⟨g2, (cs44 f).toArray, 44⟩) (by simp) hc30; have z30 := S2.frozen (b := ⟨g2, (cs44 f).toArray, 44⟩) (by simp) 30; have HS2 := Aside0.mk S2) | ((with_reducible refine gate_dst (N := 8) rfl ?_); refine wpList_load_row rfl 23 _ rfl g1 rfl 23 cf.cs.toArray (0, 0) _ (S2.heap ⟨g1, cf.cs.toArray, 23⟩ (by simp)) Try.underlying23 rfl cf.size ?_) | (go_at_call 10; (with_reducible refine (HRR.out _ (Kd.C_below HR0.out S2.below)).mono ?_); rintro e_ w3 ⟨rfl, hb⟩; have S3 := S2.call hb; clear hb; clear S2))
    go_ret2
    exact ⟨⟨_, rfl, fun _ => rfl, fun h_ => by cases h_⟩, S3.below⟩
  | true =>
    by_cases e5 : f.f1 = 5
    · have e5b : (f.f1 == 5) = true := beq_iff_eq.mpr e5
      have HE5 := Aside0.mk e5
      clear e5
      go_enter Try.func12, Try.ntmps12
      go_wp2_with (first | ((with_reducible refine gate_dst (N := 3) rfl ?_); refine box_event ?hg (N := 3) ?hd (cs := cf.cs.toArray) (t := 23) ?hr ?_; (case hd => rfl); (case hg => rfl); (case hr => first | (go_simp; done) | (go_simp; rfl)); intro g1 hg w1 hbox hb; have S1 := S0.box hg hbox hb; clear hg hbox hb; clear S0) | ((with_reducible refine gate_dst (N := 5) rfl ?_); refine box_event ?hg (N := 5) ?hd (cs := (cs44 f).toArray) (t := 44) ?hr ?_; (case hd => rfl); (case hg => rfl); (case hr => first | (go_simp; done) | (go_simp; rfl)); intro g2 hg w2 hbox hb; have S2 := S1.box hg hbox hb; clear hg hbox hb; clear S1; have c29 := S2.cell (b := ⟨g2, (cs44 f).toArray, 44⟩) (by simp) hc29; have c30 := S2.cell (b := ⟨g2, (cs44 f).toArray, 44⟩) (by simp) hc30; have z30 := S2.frozen (b := ⟨g2, (cs44 f).toArray, 44⟩) (by simp) 30; have HS2 := Aside0.mk S2) | ((with_reducible refine gate_dst (N := 8) rfl ?_); refine wpList_load_row rfl 23 _ rfl g1 rfl 23 cf.cs.toArray (0, 0) _ (S2.heap ⟨g1, cf.cs.toArray, 23⟩ (by simp)) Try.underlying23 rfl cf.size ?_) | (go_at_call 10; (with_reducible refine (HRR.out _ (Kd.C_below HR0.out S2.below)).mono ?_); rintro e_ w3 ⟨rfl, hb⟩; have S3 := S2.call hb; clear hb; clear S2; have c29 := S3.cell (b := ⟨g2, (cs44 f).toArray, 44⟩) (by simp) hc29; have c30 := S3.cell (b := ⟨g2, (cs44 f).toArray, 44⟩) (by simp) hc30; have z30 := S3.frozen (b := ⟨g2, (cs44 f).toArray, 44⟩) (by simp) 30) | (go_at_call 24; (with_reducible refine (within _ _).mono ?_); rintro e_ w4 ⟨rfl, hb⟩; have S4 := S3.call hb; clear hb; clear S3; have z30 := S4.frozen (b := ⟨g2, (cs44 f).toArray, 44⟩) (by simp) 30; have c30 := S4.cell (b := ⟨g2, (cs44 f).toArray, 44⟩) (by simp) hc30))
      have S5 : St w (w4.setCell ⟨g2, 30, none⟩ (.int .i64 (wi f.f2))) [⟨g2, (cs44 {f with f2 := wi f.f2}).toArray, 44⟩, ⟨g1, cf.cs.toArray, 23⟩] := St.set (L1 := []) (b := ⟨g2, (cs44 f).toArray, 44⟩) S4 30 _
      clear S4 z30 c30 c29
      generalize World.setCell _ _ _ = w5 at S5 ⊢
      refine start_ (n := 11) (S := fun w_ => w_.heap[g2]? = some (.cells (cs44 ({f with f2 := wi f.f2})).toArray 44 (0, 0))) (ds := [7, 8]) #[false, false, false, false, false, false, false, false, false, false, false] (by kernel_rfl) rfl rfl (S5.drew.heap ⟨g2, (cs44 ({f with f2 := wi f.f2})).toArray, 44⟩ (by simp)) (fun hHeld => ?_)
      have HB9 := Aside0.mk S5.drew.below
      have hc0_ := HC0.out
      generalize World.drew w5 = w10 at HB9 hHeld ⊢
      refine pure_ (i := 0) (N := some 27) (v := ?_) (a' := ?_) #[true, false, false, false, false, false, false, false, false, false, false] rfl rfl (by kernel_rfl) (fun _ _ _ h => h) (Or.inl ⟨by rfl, ?_⟩) ?_ ?_
      rotate_left
      · intro w'
        go_simp
        with_reducible rfl
      rotate_left
      · simp only [Act.put, List.setIfInBounds_toArray, List.set_cons_zero, List.set_cons_succ]
        rfl
      refine pure_ (i := 1) (N := some 28) (v := ?_) (a' := ?_) #[true, true, false, false, false, false, false, false, false, false, false] rfl rfl (by kernel_rfl) (fun _ _ _ h => h) (Or.inl ⟨by rfl, ?_⟩) ?_ ?_
      rotate_left
      · intro w'
        go_simp
        with_reducible rfl
      rotate_left
      · simp only [Act.put, List.setIfInBounds_toArray, List.set_cons_zero, List.set_cons_succ]
        rfl
      refine pure_ (i := 2) (N := some 29) (v := ?_) (a' := ?_) #[true, true, true, false, false, false, false, false, false, false, false] rfl rfl (by kernel_rfl) (fun _ _ _ h => h) (Or.inl ⟨by rfl, ?_⟩) ?_ ?_
      rotate_left
      · intro w'
        go_simp
        with_reducible rfl
      rotate_left
      · simp only [Act.put, List.setIfInBounds_toArray, List.set_cons_zero, List.set_cons_succ]
        rfl
      refine pure_ (i := 3) (N := some 30) (v := ?_) (a' := ?_) #[true, true, true, true, false, false, false, false, false, false, false] rfl rfl (by kernel_rfl) (fun _ _ _ h => h) (Or.inl ⟨by rfl, ?_⟩) ?_ ?_
      rotate_left
      · intro w'
        go_simp
        with_reducible rfl
      rotate_left
      · simp only [Act.put, List.setIfInBounds_toArray, List.set_cons_zero, List.set_cons_succ]
        rfl
      refine pure_ (i := 4) (N := some 31) (v := ?_) (a' := ?_) #[true, true, true, true, true, false, false, false, false, false, false] rfl rfl (by kernel_rfl) (fun _ _ _ h => h) (Or.inl ⟨by rfl, ?_⟩) ?_ ?_
      rotate_left
      · intro w'
        go_simp
        with_reducible rfl
      rotate_left
      · simp only [Act.put, List.setIfInBounds_toArray, List.set_cons_zero, List.set_cons_succ]
        rfl
      refine pure_ (i := 5) (N := some 32) (v := ?_) (a' := ?_) #[true, true, true, true, true, true, false, false, false, false, false] rfl rfl (by kernel_rfl) (fun _ _ _ h => h) (Or.inl ⟨by rfl, ?_⟩) ?_ ?_
      rotate_left
      · intro w'
        go_simp
        with_reducible rfl
      rotate_left
      · simp only [Act.put, List.setIfInBounds_toArray, List.set_cons_zero, List.set_cons_succ]
        rfl
      refine take_ (i := 6) (N := some 33) (v := .agg (cs44 ({f with f2 := wi f.f2})).toArray) (a' := ?_) #[true, true, true, true, true, true, true, false, false, false, false] rfl rfl (by kernel_rfl) (fun _ _ _ h => h) (Or.inl ⟨by rfl, fun w_ hw_ => exec_load_row 44 _ rfl g2 rfl 44 _ _ hw_ Try.underlying44 rfl (by kernel_rfl)⟩) hHeld ?_ ?_
      rotate_left
      · simp only [Act.put, List.setIfInBounds_toArray, List.set_cons_zero, List.set_cons_succ]
        rfl
      refine last_ (i := 7) (N := some 34) #[true, true, true, true, true, true, true, true, false, false, false] rfl rfl (by kernel_rfl) (by decide) (fun K hK => ?_)
      refine step_bs44 rfl _ rfl rfl ({f with f2 := wi f.f2}) rfl ?_
      refine hK.out _ _ ?_
      clear hK K
      have HB11 := Aside0.mk (below_alloc HB9.out (.cells (cs44 ({f with f2 := wi f.f2})).toArray 44))
      have HN11 := Aside0.mk (blk_new w10 (.cells (cs44 ({f with f2 := wi f.f2})).toArray 44 (0, 0)))
      generalize hgn : w10.heap.size = gn at HN11 ⊢
      generalize World.alloc _ _ = w11 at HB11 HN11 ⊢
      simp only [Act.put, List.setIfInBounds_toArray, List.set_cons_zero, List.set_cons_succ]
      refine last_ (i := 8) (N := some 35) #[true, true, true, true, true, true, true, true, true, false, false] rfl rfl (by kernel_rfl) (by decide) (fun K hK => ?_)
      refine step_app_full (w0 := w) rfl _ _ rfl (A := A0) (l := l) (p := {f with f2 := wi f.f2}) (g := gn) rfl rfl HN11.out (Kd.C_below HR0.out HB11.out) HB11.out HL.out ?_
      intro v12 w12 hR_ hB_
      refine hK.out _ _ ?_
      clear hK K
      have HO12 := Aside0.mk hR_
      have HB12 := Aside0.mk hB_
      clear hR_ hB_
      simp only [Act.put, List.setIfInBounds_toArray, List.set_cons_zero, List.set_cons_succ]
      refine pure_ (i := 9) (N := some 6) (v := ?_) (a' := ?_) #[true, true, true, true, true, true, true, true, true, true, false] rfl rfl (by kernel_rfl) (fun _ _ _ h => h) (Or.inl ⟨by rfl, ?_⟩) ?_ ?_
      rotate_left
      · intro w'
        go_simp
        with_reducible rfl
      rotate_left
      · simp only [Act.put, List.setIfInBounds_toArray, List.set_cons_zero, List.set_cons_succ]
        rfl
      refine pure_ (i := 10) (N := some 7) (v := ?_) (a' := ?_) #[true, true, true, true, true, true, true, true, true, true, true] rfl rfl (by kernel_rfl) (fun _ _ _ h => h) (Or.inl ⟨by rfl, ?_⟩) ?_ ?_
      rotate_left
      · intro w'
        go_simp
        with_reducible rfl
      rotate_left
      · simp only [Act.put, List.setIfInBounds_toArray, List.set_cons_zero, List.set_cons_succ]
        rfl
      refine done_ (by kernel_rfl) ?_
      go_wp2
      go_ret2
      have hX_ : Kd.R k44 44 w12 w.heap.size (fun _ => True) v12 (l ++ [begX m d f]) := by unfold begX; rw [if_pos HE5.out]; exact HO12.out
      exact ⟨⟨v12, by first | rfl | (simp; done), by first | exact hX_ | exact ⟨fun h_ => (by cases h_), fun _ => hX_⟩⟩, HB12.out⟩
    · have e5b : (f.f1 == 5) = false := beq_eq_false_iff_ne.mpr e5
      have HE5 := Aside0.mk e5
      clear e5
      go_enter Try.func12, Try.ntmps12
      go_wp2_with (first | ((with_reducible refine gate_dst (N := 3) rfl ?_); refine box_event ?hg (N := 3) ?hd (cs := cf.cs.toArray) (t := 23) ?hr ?_; (case hd => rfl); (case hg => rfl); (case hr => first | (go_simp; done) | (go_simp; rfl)); intro g1 hg w1 hbox hb; have S1 := S0.box hg hbox hb; clear hg hbox hb; clear S0) | ((with_reducible refine gate_dst (N := 5) rfl ?_); refine box_event ?hg (N := 5) ?hd (cs := (cs44 f).toArray) (t := 44) ?hr ?_; (case hd => rfl); (case hg => rfl); (case hr => first | (go_simp; done) | (go_simp; rfl)); intro g2 hg w2 hbox hb; have S2 := S1.box hg hbox hb; clear hg hbox hb; clear S1; have c29 := S2.cell (b := ⟨g2, (cs44 f).toArray, 44⟩) (by simp) hc29; have c30 := S2.cell (b := ⟨g2, (cs44 f).toArray, 44⟩) (by simp) hc30; have z30 := S2.frozen (b := ⟨g2, (cs44 f).toArray, 44⟩) (by simp) 30; have HS2 := Aside0.mk S2) | ((with_reducible refine gate_dst (N := 8) rfl ?_); refine wpList_load_row rfl 23 _ rfl g1 rfl 23 cf.cs.toArray (0, 0) _ (S2.heap ⟨g1, cf.cs.toArray, 23⟩ (by simp)) Try.underlying23 rfl cf.size ?_) | (go_at_call 10; (with_reducible refine (HRR.out _ (Kd.C_below HR0.out S2.below)).mono ?_); rintro e_ w3 ⟨rfl, hb⟩; have S3 := S2.call hb; clear hb; clear S2; have c29 := S3.cell (b := ⟨g2, (cs44 f).toArray, 44⟩) (by simp) hc29; have c30 := S3.cell (b := ⟨g2, (cs44 f).toArray, 44⟩) (by simp) hc30; have z30 := S3.frozen (b := ⟨g2, (cs44 f).toArray, 44⟩) (by simp) 30) | ((with_reducible refine gate_dst (N := 22) rfl ?_); refine wpList_load_row rfl 23 _ rfl g1 rfl 23 cf.cs.toArray (0, 0) _ (S3.heap ⟨g1, cf.cs.toArray, 23⟩ (by simp)) Try.underlying23 rfl cf.size ?_) | (go_at_call 8; (with_reducible refine (lat cf f.f1 _).mono ?_); rintro e_ w4 ⟨rfl, hb⟩; have S4 := S3.call hb; clear hb; clear S3; have z30 := S4.frozen (b := ⟨g2, (cs44 f).toArray, 44⟩) (by simp) 30; have c30 := S4.cell (b := ⟨g2, (cs44 f).toArray, 44⟩) (by simp) hc30))
      have S5 : St w (w4.setCell ⟨g2, 30, none⟩ (.int .i64 (latX m d f.f1))) [⟨g2, (cs44 {f with f2 := latX m d f.f1}).toArray, 44⟩, ⟨g1, cf.cs.toArray, 23⟩] := St.set (L1 := []) (b := ⟨g2, (cs44 f).toArray, 44⟩) S4 30 _
      clear S4 z30 c30 c29
      generalize World.setCell _ _ _ = w5 at S5 ⊢
      refine start_ (n := 11) (S := fun w_ => w_.heap[g2]? = some (.cells (cs44 ({f with f2 := latX m d f.f1})).toArray 44 (0, 0))) (ds := [7, 8]) #[false, false, false, false, false, false, false, false, false, false, false] (by kernel_rfl) rfl rfl (S5.drew.heap ⟨g2, (cs44 ({f with f2 := latX m d f.f1})).toArray, 44⟩ (by simp)) (fun hHeld => ?_)
      have HB9 := Aside0.mk S5.drew.below
      have hc0_ := HC0.out
      generalize World.drew w5 = w10 at HB9 hHeld ⊢
      refine pure_ (i := 0) (N := some 27) (v := ?_) (a' := ?_) #[true, false, false, false, false, false, false, false, false, false, false] rfl rfl (by kernel_rfl) (fun _ _ _ h => h) (Or.inl ⟨by rfl, ?_⟩) ?_ ?_
      rotate_left
      · intro w'
        go_simp
        with_reducible rfl
      rotate_left
      · simp only [Act.put, List.setIfInBounds_toArray, List.set_cons_zero, List.set_cons_succ]
        rfl
      refine pure_ (i := 1) (N := some 28) (v := ?_) (a' := ?_) #[true, true, false, false, false, false, false, false, false, false, false] rfl rfl (by kernel_rfl) (fun _ _ _ h => h) (Or.inl ⟨by rfl, ?_⟩) ?_ ?_
      rotate_left
      · intro w'
        go_simp
        with_reducible rfl
      rotate_left
      · simp only [Act.put, List.setIfInBounds_toArray, List.set_cons_zero, List.set_cons_succ]
        rfl
      refine pure_ (i := 2) (N := some 29) (v := ?_) (a' := ?_) #[true, true, true, false, false, false, false, false, false, false, false] rfl rfl (by kernel_rfl) (fun _ _ _ h => h) (Or.inl ⟨by rfl, ?_⟩) ?_ ?_
      rotate_left
      · intro w'
        go_simp
        with_reducible rfl
      rotate_left
      · simp only [Act.put, List.setIfInBounds_toArray, List.set_cons_zero, List.set_cons_succ]
        rfl
      refine pure_ (i := 3) (N := some 30) (v := ?_) (a' := ?_) #[true, true, true, true, false, false, false, false, false, false, false] rfl rfl (by kernel_rfl) (fun _ _ _ h => h) (Or.inl ⟨by rfl, ?_⟩) ?_ ?_
      rotate_left
      · intro w'
        go_simp
        with_reducible rfl
      rotate_left
      · simp only [Act.put, List.setIfInBounds_toArray, List.set_cons_zero, List.set_cons_succ]
        rfl
      refine pure_ (i := 4) (N := some 31) (v := ?_) (a' := ?_) #[true, true, true, true, true, false, false, false, false, false, false] rfl rfl (by kernel_rfl) (fun _ _ _ h => h) (Or.inl ⟨by rfl, ?_⟩) ?_ ?_
      rotate_left
      · intro w'
        go_simp
        with_reducible rfl
      rotate_left
      · simp only [Act.put, List.setIfInBounds_toArray, List.set_cons_zero, List.set_cons_succ]
        rfl
      refine pure_ (i := 5) (N := some 32) (v := ?_) (a' := ?_) #[true, true, true, true, true, true, false, false, false, false, false] rfl rfl (by kernel_rfl) (fun _ _ _ h => h) (Or.inl ⟨by rfl, ?_⟩) ?_ ?_
      rotate_left
      · intro w'
        go_simp
        with_reducible rfl
      rotate_left
      · simp only [Act.put, List.setIfInBounds_toArray, List.set_cons_zero, List.set_cons_succ]
        rfl
      refine take_ (i := 6) (N := some 33) (v := .agg (cs44 ({f with f2 := latX m d f.f1})).toArray) (a' := ?_) #[true, true, true, true, true, true, true, false, false, false, false] rfl rfl (by kernel_rfl) (fun _ _ _ h => h) (Or.inl ⟨by rfl, fun w_ hw_ => exec_load_row 44 _ rfl g2 rfl 44 _ _ hw_ Try.underlying44 rfl (by kernel_rfl)⟩) hHeld ?_ ?_
      rotate_left
      · simp only [Act.put, List.setIfInBounds_toArray, List.set_cons_zero, List.set_cons_succ]
        rfl
      refine last_ (i := 7) (N := some 34) #[true, true, true, true, true, true, true, true, false, false, false] rfl rfl (by kernel_rfl) (by decide) (fun K hK => ?_)
      refine step_bs44 rfl _ rfl rfl ({f with f2 := latX m d f.f1}) rfl ?_
      refine hK.out _ _ ?_
      clear hK K
      have HB11 := Aside0.mk (below_alloc HB9.out (.cells (cs44 ({f with f2 := latX m d f.f1})).toArray 44))
      have HN11 := Aside0.mk (blk_new w10 (.cells (cs44 ({f with f2 := latX m d f.f1})).toArray 44 (0, 0)))
      generalize hgn : w10.heap.size = gn at HN11 ⊢
      generalize World.alloc _ _ = w11 at HB11 HN11 ⊢
      simp only [Act.put, List.setIfInBounds_toArray, List.set_cons_zero, List.set_cons_succ]
      refine last_ (i := 8) (N := some 35) #[true, true, true, true, true, true, true, true, true, false, false] rfl rfl (by kernel_rfl) (by decide) (fun K hK => ?_)
      refine step_app_full (w0 := w) rfl _ _ rfl (A := A0) (l := l) (p := {f with f2 := latX m d f.f1}) (g := gn) rfl rfl HN11.out (Kd.C_below HR0.out HB11.out) HB11.out HL.out ?_
      intro v12 w12 hR_ hB_
      refine hK.out _ _ ?_
      clear hK K
      have HO12 := Aside0.mk hR_
      have HB12 := Aside0.mk hB_
      clear hR_ hB_
      simp only [Act.put, List.setIfInBounds_toArray, List.set_cons_zero, List.set_cons_succ]
      refine pure_ (i := 9) (N := some 6) (v := ?_) (a' := ?_) #[true, true, true, true, true, true, true, true, true, true, false] rfl rfl (by kernel_rfl) (fun _ _ _ h => h) (Or.inl ⟨by rfl, ?_⟩) ?_ ?_
      rotate_left
      · intro w'
        go_simp
        with_reducible rfl
      rotate_left
      · simp only [Act.put, List.setIfInBounds_toArray, List.set_cons_zero, List.set_cons_succ]
        rfl
      refine pure_ (i := 10) (N := some 7) (v := ?_) (a' := ?_) #[true, true, true, true, true, true, true, true, true, true, true] rfl rfl (by kernel_rfl) (fun _ _ _ h => h) (Or.inl ⟨by rfl, ?_⟩) ?_ ?_
      rotate_left
      · intro w'
        go_simp
        with_reducible rfl
      rotate_left
      · simp only [Act.put, List.setIfInBounds_toArray, List.set_cons_zero, List.set_cons_succ]
        rfl
      refine done_ (by kernel_rfl) ?_
      go_wp2
      go_ret2
      have hX_ : Kd.R k44 44 w12 w.heap.size (fun _ => True) v12 (l ++ [begX m d f]) := by unfold begX; rw [if_neg HE5.out]; exact HO12.out
      exact ⟨⟨v12, by first | rfl | (simp; done), by first | exact hX_ | exact ⟨fun h_ => (by cases h_), fun _ => hX_⟩⟩, HB12.out⟩

end Go.Proofs.Ytbkjdikiepnhbaa.Fl
