/- What trap.Pending, Stops, Single and the document's come to, over a core's cells: walks of the code. The one condition is that the cells are a core's. -/
import Derived.Test.YtegpadmlidaljaaTrap2
import Derived.Test.YtegpadmlidaljaaBoxes4
namespace Go.Proofs.Ytegpadmlidaljaa.Csr
open Go Go.Proofs Go.RowKit Go.Proofs.YtegpadmlidaljaaW.PrintWords Go.Proofs.YtegpadmlidaljaaW.PrintLast Go.Proofs.YtegpadmlidaljaaW.PrintMore Go.Proofs.Ytegpadmlidaljaa.Boxes Go.Proofs.Ytegpadmlidaljaa.Arch Go.Proofs.Ytegpadmlidaljaa.Plain Go.Proofs.Ytegpadmlidaljaa.TrapP
set_option linter.unusedVariables false
set_option linter.unusedSimpArgs false
/-- Does a trap follow an instruction? -/
def sgB (A : Array Value) : Bool := !kb A && (Go.bits .and .u32 (wd A 17) 32 != 0)

theorem single_in (A : Array Value) (hA : IsArch A) (hk : kb A = true) (w : World) :
    Calls Try.prog 14 #[.agg A] w fun e w' => e = .returned (.bool (sgB A)) ∧ Below w.heap.size w w' := by
  have hs := hA.size
  have HK := Aside0.mk hk
  have S0 := St.start w
  have h17 := hA.at 17 (by decide)
  unfold sgB
  rw [hk]
  clear hk
  show Calls _ _ _ w fun e w' => e = .returned (.bool false) ∧ Below w.heap.size w w'
  go_enter Try.func14, Try.ntmps14
  go_upto_region 1 with (first | ((with_reducible refine gate_dst (N := 1) rfl ?_); refine box_event ?hg (N := 1) ?hd (cs := A) (t := 26) ?hr ?_; (case hd => rfl); (case hg => rfl); (case hr => first | (go_simp; done) | (go_simp; rfl)); intro g1 hg w1 hbox hb; have S1 := S0.box hg hbox hb; clear hg hbox hb; clear S0))
  refine wp_region_st0 S1 ?_
  haveI : Nonempty (Cls _ _) := ⟨⟨_, S1⟩⟩
  repeat (first | (go_big_quiet_want; (with_reducible refine quiet_load 26 _ rfl g1 rfl 26 A _ (fun x => x.st.heap ⟨g1, A, 26⟩ (by simp)) Try.underlying26 rfl (size_of hs) ?_); go_big_quiet_on; (try simp only [Act.put, List.setIfInBounds_toArray, List.set_cons_zero, List.set_cons_succ])) | (go_big_quiet_want; (with_reducible refine quiet_cell 22 _ rfl _ _ rfl (.int .u32 (wd A 17)) _ (fun x => x.st.cell (b := ⟨g1, A, 26⟩) (by simp) h17) Try.underlying22 rfl ?_); go_big_quiet_on; (try simp only [Act.put, List.setIfInBounds_toArray, List.set_cons_zero, List.set_cons_succ])) | go_big_quiet_step ((first | (go_at_call 18; exact quiet_st (kb_user HK.out (kernel A hA _))) | (go_at_call 25; exact quiet_st (has A hA 32 _)))))
  refine wpQuiet_nil ?_
  rintro ⟨w9, S9⟩
  go_wp2
  go_ret
  exact ⟨rfl, S9.below⟩

theorem single_user (A : Array Value) (hA : IsArch A) (hk : kb A = false) (w : World) :
    Calls Try.prog 14 #[.agg A] w fun e w' => e = .returned (.bool (sgB A)) ∧ Below w.heap.size w w' := by
  have hs := hA.size
  have HK := Aside0.mk hk
  have S0 := St.start w
  have h17 := hA.at 17 (by decide)
  unfold sgB
  rw [hk]
  clear hk
  show Calls _ _ _ w fun e w' => e = .returned (.bool (Go.bits .and .u32 (wd A 17) 32 != 0)) ∧ Below w.heap.size w w'
  go_enter Try.func14, Try.ntmps14
  go_upto_region 1 with (first | ((with_reducible refine gate_dst (N := 1) rfl ?_); refine box_event ?hg (N := 1) ?hd (cs := A) (t := 26) ?hr ?_; (case hd => rfl); (case hg => rfl); (case hr => first | (go_simp; done) | (go_simp; rfl)); intro g1 hg w1 hbox hb; have S1 := S0.box hg hbox hb; clear hg hbox hb; clear S0))
  refine wp_region_st0 S1 ?_
  haveI : Nonempty (Cls _ _) := ⟨⟨_, S1⟩⟩
  repeat (first | (go_big_quiet_want; (with_reducible refine quiet_load 26 _ rfl g1 rfl 26 A _ (fun x => x.st.heap ⟨g1, A, 26⟩ (by simp)) Try.underlying26 rfl (size_of hs) ?_); go_big_quiet_on; (try simp only [Act.put, List.setIfInBounds_toArray, List.set_cons_zero, List.set_cons_succ])) | (go_big_quiet_want; (with_reducible refine quiet_cell 22 _ rfl _ _ rfl (.int .u32 (wd A 17)) _ (fun x => x.st.cell (b := ⟨g1, A, 26⟩) (by simp) h17) Try.underlying22 rfl ?_); go_big_quiet_on; (try simp only [Act.put, List.setIfInBounds_toArray, List.set_cons_zero, List.set_cons_succ])) | go_big_quiet_step ((first | (go_at_call 18; exact quiet_st (kb_user HK.out (kernel A hA _))) | (go_at_call 25; exact quiet_st (has A hA 32 _)))))
  refine wpQuiet_nil ?_
  rintro ⟨w9, S9⟩
  go_wp2
  go_ret
  exact ⟨rfl, S9.below⟩

theorem rsingle_in (A : Array Value) (hA : IsArch A) (hk : kb A = true) (w : World) :
    Calls Try.prog 15 #[.agg A] w fun e w' => e = .returned (.bool (sgB A)) ∧ Below w.heap.size w w' := by
  have hs := hA.size
  have HK := Aside0.mk hk
  have S0 := St.start w
  have h17 := hA.at 17 (by decide)
  unfold sgB
  rw [hk]
  clear hk
  show Calls _ _ _ w fun e w' => e = .returned (.bool false) ∧ Below w.heap.size w w'
  go_enter Try.func15, Try.ntmps15
  go_upto_region 1 with (first | ((with_reducible refine gate_dst (N := 1) rfl ?_); refine box_event ?hg (N := 1) ?hd (cs := A) (t := 26) ?hr ?_; (case hd => rfl); (case hg => rfl); (case hr => first | (go_simp; done) | (go_simp; rfl)); intro g1 hg w1 hbox hb; have S1 := S0.box hg hbox hb; clear hg hbox hb; clear S0))
  refine wp_region_st0 S1 ?_
  haveI : Nonempty (Cls _ _) := ⟨⟨_, S1⟩⟩
  repeat (first | (go_big_quiet_want; (with_reducible refine quiet_load 26 _ rfl g1 rfl 26 A _ (fun x => x.st.heap ⟨g1, A, 26⟩ (by simp)) Try.underlying26 rfl (size_of hs) ?_); go_big_quiet_on; (try simp only [Act.put, List.setIfInBounds_toArray, List.set_cons_zero, List.set_cons_succ])) | (go_big_quiet_want; (with_reducible refine quiet_cell 22 _ rfl _ _ rfl (.int .u32 (wd A 17)) _ (fun x => x.st.cell (b := ⟨g1, A, 26⟩) (by simp) h17) Try.underlying22 rfl ?_); go_big_quiet_on; (try simp only [Act.put, List.setIfInBounds_toArray, List.set_cons_zero, List.set_cons_succ])) | go_big_quiet_step ((first | (go_at_call 24; exact quiet_st (kb_user HK.out (rkernel A hA _))) | (go_at_call 25; exact quiet_st (has A hA 32 _)))))
  refine wpQuiet_nil ?_
  rintro ⟨w9, S9⟩
  go_wp2
  go_ret
  exact ⟨rfl, S9.below⟩

theorem rsingle_user (A : Array Value) (hA : IsArch A) (hk : kb A = false) (w : World) :
    Calls Try.prog 15 #[.agg A] w fun e w' => e = .returned (.bool (sgB A)) ∧ Below w.heap.size w w' := by
  have hs := hA.size
  have HK := Aside0.mk hk
  have S0 := St.start w
  have h17 := hA.at 17 (by decide)
  unfold sgB
  rw [hk]
  clear hk
  show Calls _ _ _ w fun e w' => e = .returned (.bool (Go.bits .and .u32 (wd A 17) 32 != 0)) ∧ Below w.heap.size w w'
  go_enter Try.func15, Try.ntmps15
  go_upto_region 1 with (first | ((with_reducible refine gate_dst (N := 1) rfl ?_); refine box_event ?hg (N := 1) ?hd (cs := A) (t := 26) ?hr ?_; (case hd => rfl); (case hg => rfl); (case hr => first | (go_simp; done) | (go_simp; rfl)); intro g1 hg w1 hbox hb; have S1 := S0.box hg hbox hb; clear hg hbox hb; clear S0))
  refine wp_region_st0 S1 ?_
  haveI : Nonempty (Cls _ _) := ⟨⟨_, S1⟩⟩
  repeat (first | (go_big_quiet_want; (with_reducible refine quiet_load 26 _ rfl g1 rfl 26 A _ (fun x => x.st.heap ⟨g1, A, 26⟩ (by simp)) Try.underlying26 rfl (size_of hs) ?_); go_big_quiet_on; (try simp only [Act.put, List.setIfInBounds_toArray, List.set_cons_zero, List.set_cons_succ])) | (go_big_quiet_want; (with_reducible refine quiet_cell 22 _ rfl _ _ rfl (.int .u32 (wd A 17)) _ (fun x => x.st.cell (b := ⟨g1, A, 26⟩) (by simp) h17) Try.underlying22 rfl ?_); go_big_quiet_on; (try simp only [Act.put, List.setIfInBounds_toArray, List.set_cons_zero, List.set_cons_succ])) | go_big_quiet_step ((first | (go_at_call 24; exact quiet_st (kb_user HK.out (rkernel A hA _))) | (go_at_call 25; exact quiet_st (has A hA 32 _)))))
  refine wpQuiet_nil ?_
  rintro ⟨w9, S9⟩
  go_wp2
  go_ret
  exact ⟨rfl, S9.below⟩

/-- Is there a stop? -/
def stB (A : Array Value) (p : Int) : Bool := !kb A && ((Go.bits .and .u32 (wd A 28) 1 == 1) && (wd A 28 == Go.bits .or .u32 p 1) && (Go.bits .and .u32 p 1 == 0))
def rstB (A : Array Value) (p : Int) : Bool := !kb A && ((wd A 28 % 2 == 1) && ((wd A 28 - 1) % 4294967296 == p))
theorem stB_rstB {A : Array Value} (hA : IsArch A) {p : Int} (hp : U p) : rstB A p = stB A p := by
  unfold stB rstB
  rw [stop_same (hA.lo 28 (by decide)) hp]

theorem stops_in (A : Array Value) (hA : IsArch A) (hk : kb A = true) (p : Int) (hp : U p) (w : World) :
    Calls Try.prog 12 #[.agg A, .int .u32 p] w fun e w' => e = .returned (.bool (stB A p)) ∧ Below w.heap.size w w' := by
  have hs := hA.size
  have HK := Aside0.mk hk
  have S0 := St.start w
  have h28 := hA.at 28 (by decide)
  have hx := (hA.lo 28 (by decide)).1
  unfold stB
  rw [hk]
  clear hk
  show Calls _ _ _ w fun e w' => e = .returned (.bool false) ∧ Below w.heap.size w w'
  generalize wd A 28 = x at h28 hx ⊢
  go_enter Try.func12, Try.ntmps12
  go_upto_region 2 with (first | ((with_reducible refine gate_dst (N := 2) rfl ?_); refine box_event ?hg (N := 2) ?hd (cs := A) (t := 26) ?hr ?_; (case hd => rfl); (case hg => rfl); (case hr => first | (go_simp; done) | (go_simp; rfl)); intro g1 hg w1 hbox hb; have S1 := S0.box hg hbox hb; have c28 := S1.cell (b := ⟨g1, A, 26⟩) (by simp) h28; clear hg hbox hb; clear S0))
  refine wp_region_st0 S1 ?_
  haveI : Nonempty (Cls _ _) := ⟨⟨_, S1⟩⟩
  repeat (first | (go_big_quiet_want; (with_reducible refine quiet_load 26 _ rfl g1 rfl 26 A _ (fun x => x.st.heap ⟨g1, A, 26⟩ (by simp)) Try.underlying26 rfl (size_of hs) ?_); go_big_quiet_on; (try simp only [Act.put, List.setIfInBounds_toArray, List.set_cons_zero, List.set_cons_succ])) | (go_big_quiet_want; (with_reducible refine quiet_cell 22 _ rfl _ _ rfl (.int .u32 x) _ (fun x => x.st.cell (b := ⟨g1, A, 26⟩) (by simp) h28) Try.underlying22 rfl ?_); go_big_quiet_on; (try simp only [Act.put, List.setIfInBounds_toArray, List.set_cons_zero, List.set_cons_succ])) | go_big_quiet_step ((first | (go_at_call 18; exact quiet_st (kb_user HK.out (kernel A hA _))))))
  refine wpQuiet_nil ?_
  rintro ⟨w9, S9⟩
  go_wp2
  go_ret
  exact ⟨rfl, S9.below⟩

theorem stops_user (A : Array Value) (hA : IsArch A) (hk : kb A = false) (p : Int) (hp : U p) (w : World) :
    Calls Try.prog 12 #[.agg A, .int .u32 p] w fun e w' => e = .returned (.bool (stB A p)) ∧ Below w.heap.size w w' := by
  have hs := hA.size
  have HK := Aside0.mk hk
  have S0 := St.start w
  have h28 := hA.at 28 (by decide)
  have hx := (hA.lo 28 (by decide)).1
  unfold stB
  rw [hk]
  clear hk
  generalize wd A 28 = x at h28 hx ⊢
  cases e0 : (Go.bits .and .u32 x 1 == 1) <;> cases e1 : (x == Go.bits .or .u32 p 1) <;> cases e2 : (Go.bits .and .u32 p 1 == 0)
  all_goals
    go_enter Try.func12, Try.ntmps12
    go_upto_region 2 with (first | ((with_reducible refine gate_dst (N := 2) rfl ?_); refine box_event ?hg (N := 2) ?hd (cs := A) (t := 26) ?hr ?_; (case hd => rfl); (case hg => rfl); (case hr => first | (go_simp; done) | (go_simp; rfl)); intro g1 hg w1 hbox hb; have S1 := S0.box hg hbox hb; have c28 := S1.cell (b := ⟨g1, A, 26⟩) (by simp) h28; clear hg hbox hb; clear S0))
    refine wp_region_st0 S1 ?_
    haveI : Nonempty (Cls _ _) := ⟨⟨_, S1⟩⟩
    repeat (first | (go_big_quiet_want; (with_reducible refine quiet_load 26 _ rfl g1 rfl 26 A _ (fun x => x.st.heap ⟨g1, A, 26⟩ (by simp)) Try.underlying26 rfl (size_of hs) ?_); go_big_quiet_on; (try simp only [Act.put, List.setIfInBounds_toArray, List.set_cons_zero, List.set_cons_succ])) | (go_big_quiet_want; (with_reducible refine quiet_cell 22 _ rfl _ _ rfl (.int .u32 x) _ (fun x => x.st.cell (b := ⟨g1, A, 26⟩) (by simp) h28) Try.underlying22 rfl ?_); go_big_quiet_on; (try simp only [Act.put, List.setIfInBounds_toArray, List.set_cons_zero, List.set_cons_succ])) | go_big_quiet_step ((first | (go_at_call 18; exact quiet_st (kb_user HK.out (kernel A hA _))))))
    refine wpQuiet_nil ?_
    rintro ⟨w9, S9⟩
    go_wp2
    go_ret
    exact ⟨rfl, S9.below⟩

theorem rstops_in (A : Array Value) (hA : IsArch A) (hk : kb A = true) (p : Int) (hp : U p) (w : World) :
    Calls Try.prog 13 #[.agg A, .int .u32 p] w fun e w' => e = .returned (.bool (rstB A p)) ∧ Below w.heap.size w w' := by
  have hs := hA.size
  have HK := Aside0.mk hk
  have S0 := St.start w
  have h28 := hA.at 28 (by decide)
  have hx := (hA.lo 28 (by decide)).1
  unfold rstB
  rw [hk]
  clear hk
  show Calls _ _ _ w fun e w' => e = .returned (.bool false) ∧ Below w.heap.size w w'
  generalize wd A 28 = x at h28 hx ⊢
  go_enter Try.func13, Try.ntmps13
  go_upto_region 1 with (first | ((with_reducible refine gate_dst (N := 2) rfl ?_); refine box_event ?hg (N := 2) ?hd (cs := A) (t := 26) ?hr ?_; (case hd => rfl); (case hg => rfl); (case hr => first | (go_simp; done) | (go_simp; rfl)); intro g1 hg w1 hbox hb; have S1 := S0.box hg hbox hb; have c28 := S1.cell (b := ⟨g1, A, 26⟩) (by simp) h28; clear hg hbox hb; clear S0))
  refine wp_region_st0 S1 ?_
  haveI : Nonempty (Cls _ _) := ⟨⟨_, S1⟩⟩
  repeat (first | (go_big_quiet_want; (with_reducible refine quiet_load 26 _ rfl g1 rfl 26 A _ (fun x => x.st.heap ⟨g1, A, 26⟩ (by simp)) Try.underlying26 rfl (size_of hs) ?_); go_big_quiet_on; (try simp only [Act.put, List.setIfInBounds_toArray, List.set_cons_zero, List.set_cons_succ])) | (go_big_quiet_want; (with_reducible refine quiet_cell 22 _ rfl _ _ rfl (.int .u32 x) _ (fun x => x.st.cell (b := ⟨g1, A, 26⟩) (by simp) h28) Try.underlying22 rfl ?_); go_big_quiet_on; (try simp only [Act.put, List.setIfInBounds_toArray, List.set_cons_zero, List.set_cons_succ])) | go_big_quiet_step ((first | (go_at_call 24; exact quiet_st (kb_user HK.out (rkernel A hA _))))))
  refine wpQuiet_nil ?_
  rintro ⟨w9, S9⟩
  go_wp2
  go_ret
  exact ⟨rfl, S9.below⟩

theorem rstops_user (A : Array Value) (hA : IsArch A) (hk : kb A = false) (p : Int) (hp : U p) (w : World) :
    Calls Try.prog 13 #[.agg A, .int .u32 p] w fun e w' => e = .returned (.bool (rstB A p)) ∧ Below w.heap.size w w' := by
  have hs := hA.size
  have HK := Aside0.mk hk
  have S0 := St.start w
  have h28 := hA.at 28 (by decide)
  have hx := (hA.lo 28 (by decide)).1
  unfold rstB
  rw [hk]
  clear hk
  generalize wd A 28 = x at h28 hx ⊢
  cases e0 : (x % 2 == 1) <;> cases e1 : ((x - 1) % 4294967296 == p)
  all_goals
    go_enter Try.func13, Try.ntmps13
    go_upto_region 1 with (first | ((with_reducible refine gate_dst (N := 2) rfl ?_); refine box_event ?hg (N := 2) ?hd (cs := A) (t := 26) ?hr ?_; (case hd => rfl); (case hg => rfl); (case hr => first | (go_simp; done) | (go_simp; rfl)); intro g1 hg w1 hbox hb; have S1 := S0.box hg hbox hb; have c28 := S1.cell (b := ⟨g1, A, 26⟩) (by simp) h28; clear hg hbox hb; clear S0))
    refine wp_region_st0 S1 ?_
    haveI : Nonempty (Cls _ _) := ⟨⟨_, S1⟩⟩
    repeat (first | (go_big_quiet_want; (with_reducible refine quiet_load 26 _ rfl g1 rfl 26 A _ (fun x => x.st.heap ⟨g1, A, 26⟩ (by simp)) Try.underlying26 rfl (size_of hs) ?_); go_big_quiet_on; (try simp only [Act.put, List.setIfInBounds_toArray, List.set_cons_zero, List.set_cons_succ])) | (go_big_quiet_want; (with_reducible refine quiet_cell 22 _ rfl _ _ rfl (.int .u32 x) _ (fun x => x.st.cell (b := ⟨g1, A, 26⟩) (by simp) h28) Try.underlying22 rfl ?_); go_big_quiet_on; (try simp only [Act.put, List.setIfInBounds_toArray, List.set_cons_zero, List.set_cons_succ])) | go_big_quiet_step ((first | (go_at_call 24; exact quiet_st (kb_user HK.out (rkernel A hA _))))))
    refine wpQuiet_nil ?_
    rintro ⟨w9, S9⟩
    go_wp2
    go_ret
    exact ⟨rfl, S9.below⟩

/-- The lines that are open, and the interrupt that comes next. -/
def opn (A : Array Value) : Int := Go.bits .and .u32 (wd A 27) (wd A 26)
def pdV (k z b1 b2 b3 : Bool) : Int := if (k && !z) = true then 0 else if b1 = true then 16 else if b2 = true then 17 else if b3 = true then 18 else 0
def pnV (A : Array Value) : Int := pdV (kb A) (Go.bits .and .u32 (wd A 17) 2 != 0) (Go.bits .and .u32 (opn A) 1 != 0) (Go.bits .and .u32 (opn A) 2 != 0) (Go.bits .and .u32 (opn A) 4 != 0)
theorem has_is {A : Array Value} {b : Int} {z : Bool} (hz : (Go.bits .and .u32 (wd A 17) b != 0) = z) (hA : IsArch A) (w : World) : Calls Try.prog 25 #[.agg A, .int .u32 b] w fun e w' => e = .returned (.bool z) ∧ Below w.heap.size w w' := hz ▸ has A hA b w

set_option maxHeartbeats 4000000 in
theorem rpend (A : Array Value) (hA : IsArch A) (k z b1 b2 b3 : Bool) (hk : kb A = k) (hz : (Go.bits .and .u32 (wd A 17) 2 != 0) = z) (h1 : (Go.bits .and .u32 (opn A) 1 != 0) = b1) (h2 : (Go.bits .and .u32 (opn A) 2 != 0) = b2) (h3 : (Go.bits .and .u32 (opn A) 4 != 0) = b3) (w : World) :
    Calls Try.prog 11 #[.agg A] w fun e w' => e = .returned (.int .i64 (pdV k z b1 b2 b3)) ∧ Below w.heap.size w w' := by
  have hs := hA.size
  have HK := Aside0.mk hk
  have HZ := Aside0.mk hz
  have S0 := St.start w
  have h17 := hA.at 17 (by decide)
  have h26 := hA.at 26 (by decide)
  have h27 := hA.at 27 (by decide)
  unfold opn at h1 h2 h3
  clear hk
  clear hz
  generalize wd A 26 = y at h26 h1 h2 h3
  generalize wd A 27 = x at h27 h1 h2 h3
  cases k <;> cases z <;> cases b1 <;> cases b2 <;> cases b3
  all_goals
    go_enter Try.func11, Try.ntmps11
    go_upto_region 1 with (first | ((with_reducible refine gate_dst (N := 1) rfl ?_); refine box_event ?hg (N := 1) ?hd (cs := A) (t := 26) ?hr ?_; (case hd => rfl); (case hg => rfl); (case hr => first | (go_simp; done) | (go_simp; rfl)); intro g1 hg w1 hbox hb; have S1 := S0.box hg hbox hb; clear hg hbox hb; clear S0))
    refine wp_region_st0 S1 ?_
    haveI : Nonempty (Cls _ _) := ⟨⟨_, S1⟩⟩
    repeat (first | (go_big_quiet_want; (with_reducible refine quiet_load 26 _ rfl g1 rfl 26 A _ (fun x => x.st.heap ⟨g1, A, 26⟩ (by simp)) Try.underlying26 rfl (size_of hs) ?_); go_big_quiet_on; (try simp only [Act.put, List.setIfInBounds_toArray, List.set_cons_zero, List.set_cons_succ])) | go_big_quiet_step ((first | (go_at_call 24; exact quiet_st (kb_user HK.out (rkernel A hA _))) | (go_at_call 25; exact quiet_st (has_is HZ.out hA _)))))
    refine wpQuiet_nil ?_
    rintro ⟨w9, S9⟩
    have c26 := S9.cell (b := ⟨g1, A, 26⟩) (by simp) h26
    have c27 := S9.cell (b := ⟨g1, A, 26⟩) (by simp) h27
    go_wp2
    go_ret
    exact ⟨rfl, S9.below⟩

set_option maxHeartbeats 4000000 in
theorem pend_off (A : Array Value) (hA : IsArch A) (k z b1 b2 b3 : Bool) (off : (k && !z) = true) (hk : kb A = k) (hz : (Go.bits .and .u32 (wd A 17) 2 != 0) = z) (h1 : (Go.bits .and .u32 (opn A) 1 != 0) = b1) (h2 : (Go.bits .and .u32 (opn A) 2 != 0) = b2) (h3 : (Go.bits .and .u32 (opn A) 4 != 0) = b3) (w : World) :
    Calls Try.prog 10 #[.agg A] w fun e w' => e = .returned (.int .i64 (pdV k z b1 b2 b3)) ∧ Below w.heap.size w w' := by
  have hs := hA.size
  have HK := Aside0.mk hk
  have HZ := Aside0.mk hz
  have S0 := St.start w
  have h17 := hA.at 17 (by decide)
  have h26 := hA.at 26 (by decide)
  have h27 := hA.at 27 (by decide)
  unfold opn at h1 h2 h3
  clear hk
  clear h1 h2 h3
  have hz0 : (Go.bits .and .u32 (wd A 17) 2 == 0) = true := by
    cases k <;> cases z <;> simp at off ⊢
    simpa using hz
  clear hz
  generalize wd A 17 = s at h17 hz0
  cases k <;> cases z <;> simp at off
  go_enter Try.func10, Try.ntmps10
  go_upto_region 1 with (first | ((with_reducible refine gate_dst (N := 1) rfl ?_); refine box_event ?hg (N := 1) ?hd (cs := A) (t := 26) ?hr ?_; (case hd => rfl); (case hg => rfl); (case hr => first | (go_simp; done) | (go_simp; rfl)); intro g1 hg w1 hbox hb; have S1 := S0.box hg hbox hb; clear hg hbox hb; clear S0))
  refine wp_region_st0 S1 ?_
  haveI : Nonempty (Cls _ _) := ⟨⟨_, S1⟩⟩
  repeat (first | (go_big_quiet_want; (with_reducible refine quiet_load 26 _ rfl g1 rfl 26 A _ (fun x => x.st.heap ⟨g1, A, 26⟩ (by simp)) Try.underlying26 rfl (size_of hs) ?_); go_big_quiet_on; (try simp only [Act.put, List.setIfInBounds_toArray, List.set_cons_zero, List.set_cons_succ])) | (go_big_quiet_want; (with_reducible refine quiet_cell 22 _ rfl _ _ rfl (.int .u32 s) _ (fun x => x.st.cell (b := ⟨g1, A, 26⟩) (by simp) h17) Try.underlying22 rfl ?_); go_big_quiet_on; (try simp only [Act.put, List.setIfInBounds_toArray, List.set_cons_zero, List.set_cons_succ])) | go_big_quiet_step ((first | (go_at_call 18; exact quiet_st (kb_user HK.out (kernel A hA _))))))
  refine wpQuiet_nil ?_
  rintro ⟨w9, S9⟩
  go_wp2
  go_ret
  exact ⟨rfl, S9.below⟩

set_option maxHeartbeats 4000000 in
theorem pend_on (A : Array Value) (hA : IsArch A) (k z b1 b2 b3 : Bool) (on : (k && !z) = false) (hk : kb A = k) (hz : (Go.bits .and .u32 (wd A 17) 2 != 0) = z) (h1 : (Go.bits .and .u32 (opn A) 1 != 0) = b1) (h2 : (Go.bits .and .u32 (opn A) 2 != 0) = b2) (h3 : (Go.bits .and .u32 (opn A) 4 != 0) = b3) (w : World) :
    Calls Try.prog 10 #[.agg A] w fun e w' => e = .returned (.int .i64 (pdV k z b1 b2 b3)) ∧ Below w.heap.size w w' := by
  have hs := hA.size
  have HK := Aside0.mk hk
  have HZ := Aside0.mk hz
  have S0 := St.start w
  have h17 := hA.at 17 (by decide)
  have h26 := hA.at 26 (by decide)
  have h27 := hA.at 27 (by decide)
  unfold opn at h1 h2 h3
  clear hk
  have hz0 : k = true → (Go.bits .and .u32 (wd A 17) 2 == 0) = false := by
    intro e
    cases z <;> simp [e] at on ⊢
    simpa using hz
  clear hz
  generalize wd A 17 = s at h17 hz0
  generalize wd A 26 = y at h26 h1 h2 h3
  generalize wd A 27 = x at h27 h1 h2 h3
  have e0 : pdV k z b1 b2 b3 = if b1 = true then 16 else if b2 = true then 17 else if b3 = true then 18 else 0 := by unfold pdV; rw [on]; rfl
  rw [e0]
  clear e0
  obtain ⟨op, eo⟩ : ∃ op, Go.bits .and .u32 x y = op := ⟨_, rfl⟩
  rw [eo] at h1 h2 h3
  have H1 := Aside0.mk (And.intro h1 (And.intro h2 h3))
  clear h1 h2 h3
  cases k
  all_goals
    try replace hz0 := hz0 rfl
    try clear on
    go_enter Try.func10, Try.ntmps10
    go_upto_region 1 with (first | ((with_reducible refine gate_dst (N := 1) rfl ?_); refine box_event ?hg (N := 1) ?hd (cs := A) (t := 26) ?hr ?_; (case hd => rfl); (case hg => rfl); (case hr => first | (go_simp; done) | (go_simp; rfl)); intro g1 hg w1 hbox hb; have S1 := S0.box hg hbox hb; clear hg hbox hb; clear S0))
    refine wp_region_st0 S1 ?_
    haveI : Nonempty (Cls _ _) := ⟨⟨_, S1⟩⟩
    repeat (first | (go_big_quiet_want; (with_reducible refine quiet_load 26 _ rfl g1 rfl 26 A _ (fun x => x.st.heap ⟨g1, A, 26⟩ (by simp)) Try.underlying26 rfl (size_of hs) ?_); go_big_quiet_on; (try simp only [Act.put, List.setIfInBounds_toArray, List.set_cons_zero, List.set_cons_succ])) | (go_big_quiet_want; (with_reducible refine quiet_cell 22 _ rfl _ _ rfl (.int .u32 s) _ (fun x => x.st.cell (b := ⟨g1, A, 26⟩) (by simp) h17) Try.underlying22 rfl ?_); go_big_quiet_on; (try simp only [Act.put, List.setIfInBounds_toArray, List.set_cons_zero, List.set_cons_succ])) | go_big_quiet_step ((first | (go_at_call 18; exact quiet_st (kb_user HK.out (kernel A hA _))))))
    refine wpQuiet_nil ?_
    rintro ⟨w9, S9⟩
    have c26 := S9.cell (b := ⟨g1, A, 26⟩) (by simp) h26
    have c27 := S9.cell (b := ⟨g1, A, 26⟩) (by simp) h27
    go_wp2_with (first | (go_at_call 23; (with_reducible refine (sources _).mono ?_); rintro e w3 ⟨rfl, hb⟩; have S3 := S9.call hb; clear hb; clear S9))
    have SA := Aside0.mk S3
    clear S3
    go_loopw [23] (fun i wr => ∃ m : Nat, m ≤ 3 ∧ i = .int .i64 m ∧ St w wr [⟨g1, A, 26⟩] ∧ (0 < m → b1 = false) ∧ (1 < m → b2 = false) ∧ (2 < m → b3 = false)) (fun i _ => 3 - (intOf i).toNat)
    case atStart => exact ⟨0, by decide, rfl, SA.out, fun h => by omega, fun h => by omega, fun h => by omega⟩
    case round =>
      obtain ⟨m, hm, rfl, S4, q1, q2, q3⟩ := hrel
      have hm4 : m = 0 ∨ m = 1 ∨ m = 2 ∨ m = 3 := by omega
      clear hm
      rcases hm4 with rfl | rfl | rfl | rfl
      · clear q1 q2 q3
        have tst := H1.out.1
        have hix : ∀ w, (Instr.index 43 (.agg #[.int .u32 1, .int .i64 16, .int .u32 2, .int .i64 17, .int .u32 4, .int .i64 18]) (.int .i64 0)).run Try.prog w = .ok (.agg #[.int .u32 1, .int .i64 16]) w := fun _ => by kernel_rfl
        cases b1
        · go_wp2_with (first | ((with_reducible refine gate_dst (N := 5) rfl ?_); refine box_event ?hg (N := 5) ?hd (cs := #[.int .u32 0, .int .i64 0]) (t := 42) ?hr ?_; (case hd => rfl); (case hg => rfl); (case hr => first | (go_simp; done) | (go_simp; rfl)); intro g2 hg w5 hbox hb; have S5 := S4.box hg hbox hb; clear hg hbox hb; clear S4) | ((with_reducible refine gate_store (t := 42) (p := 5) rfl ?_); refine wpList_store_row rfl 42 _ _ rfl g2 #[.int .u32 1, .int .i64 16] rfl rfl 42 #[.int .u32 0, .int .i64 0] (S5.heap ⟨g2, #[.int .u32 0, .int .i64 0], 42⟩ (by simp)) (by kernel_rfl) rfl (by kernel_rfl) ?_; have S6 : St w _ [⟨g2, #[.int .u32 1, .int .i64 16], 42⟩, ⟨g1, A, 26⟩] := St.row (L1 := []) (b := ⟨g2, #[.int .u32 0, .int .i64 0], 42⟩) S5 #[.int .u32 1, .int .i64 16]; clear S5; generalize World.setRow _ _ _ = w6 at S6 ⊢; have d0 := S6.cell (b := ⟨g2, #[.int .u32 1, .int .i64 16], 42⟩) (j := 0) (by simp) rfl; have d1 := S6.cell (b := ⟨g2, #[.int .u32 1, .int .i64 16], 42⟩) (j := 1) (by simp) rfl))
          go_roundw
          case rel => exact ⟨1, by decide, by go_num, S6.tail, fun h => by simp, fun h => by omega, fun h => by omega⟩
          case measure => simp [intOf]
        · go_wp2_with (first | ((with_reducible refine gate_dst (N := 5) rfl ?_); refine box_event ?hg (N := 5) ?hd (cs := #[.int .u32 0, .int .i64 0]) (t := 42) ?hr ?_; (case hd => rfl); (case hg => rfl); (case hr => first | (go_simp; done) | (go_simp; rfl)); intro g2 hg w5 hbox hb; have S5 := S4.box hg hbox hb; clear hg hbox hb; clear S4) | ((with_reducible refine gate_store (t := 42) (p := 5) rfl ?_); refine wpList_store_row rfl 42 _ _ rfl g2 #[.int .u32 1, .int .i64 16] rfl rfl 42 #[.int .u32 0, .int .i64 0] (S5.heap ⟨g2, #[.int .u32 0, .int .i64 0], 42⟩ (by simp)) (by kernel_rfl) rfl (by kernel_rfl) ?_; have S6 : St w _ [⟨g2, #[.int .u32 1, .int .i64 16], 42⟩, ⟨g1, A, 26⟩] := St.row (L1 := []) (b := ⟨g2, #[.int .u32 0, .int .i64 0], 42⟩) S5 #[.int .u32 1, .int .i64 16]; clear S5; generalize World.setRow _ _ _ = w6 at S6 ⊢; have d0 := S6.cell (b := ⟨g2, #[.int .u32 1, .int .i64 16], 42⟩) (j := 0) (by simp) rfl; have d1 := S6.cell (b := ⟨g2, #[.int .u32 1, .int .i64 16], 42⟩) (j := 1) (by simp) rfl))
          go_ret
          exact ⟨rfl, S6.below⟩
      · have p1 := q1 (by decide)
        clear q1 q2 q3
        subst p1
        have tst := H1.out.2.1
        have hix : ∀ w, (Instr.index 43 (.agg #[.int .u32 1, .int .i64 16, .int .u32 2, .int .i64 17, .int .u32 4, .int .i64 18]) (.int .i64 1)).run Try.prog w = .ok (.agg #[.int .u32 2, .int .i64 17]) w := fun _ => by kernel_rfl
        cases b2
        · go_wp2_with (first | ((with_reducible refine gate_dst (N := 5) rfl ?_); refine box_event ?hg (N := 5) ?hd (cs := #[.int .u32 0, .int .i64 0]) (t := 42) ?hr ?_; (case hd => rfl); (case hg => rfl); (case hr => first | (go_simp; done) | (go_simp; rfl)); intro g2 hg w5 hbox hb; have S5 := S4.box hg hbox hb; clear hg hbox hb; clear S4) | ((with_reducible refine gate_store (t := 42) (p := 5) rfl ?_); refine wpList_store_row rfl 42 _ _ rfl g2 #[.int .u32 2, .int .i64 17] rfl rfl 42 #[.int .u32 0, .int .i64 0] (S5.heap ⟨g2, #[.int .u32 0, .int .i64 0], 42⟩ (by simp)) (by kernel_rfl) rfl (by kernel_rfl) ?_; have S6 : St w _ [⟨g2, #[.int .u32 2, .int .i64 17], 42⟩, ⟨g1, A, 26⟩] := St.row (L1 := []) (b := ⟨g2, #[.int .u32 0, .int .i64 0], 42⟩) S5 #[.int .u32 2, .int .i64 17]; clear S5; generalize World.setRow _ _ _ = w6 at S6 ⊢; have d0 := S6.cell (b := ⟨g2, #[.int .u32 2, .int .i64 17], 42⟩) (j := 0) (by simp) rfl; have d1 := S6.cell (b := ⟨g2, #[.int .u32 2, .int .i64 17], 42⟩) (j := 1) (by simp) rfl))
          go_roundw
          case rel => exact ⟨2, by decide, by go_num, S6.tail, fun h => by simp, fun h => by simp, fun h => by omega⟩
          case measure => simp [intOf]
        · go_wp2_with (first | ((with_reducible refine gate_dst (N := 5) rfl ?_); refine box_event ?hg (N := 5) ?hd (cs := #[.int .u32 0, .int .i64 0]) (t := 42) ?hr ?_; (case hd => rfl); (case hg => rfl); (case hr => first | (go_simp; done) | (go_simp; rfl)); intro g2 hg w5 hbox hb; have S5 := S4.box hg hbox hb; clear hg hbox hb; clear S4) | ((with_reducible refine gate_store (t := 42) (p := 5) rfl ?_); refine wpList_store_row rfl 42 _ _ rfl g2 #[.int .u32 2, .int .i64 17] rfl rfl 42 #[.int .u32 0, .int .i64 0] (S5.heap ⟨g2, #[.int .u32 0, .int .i64 0], 42⟩ (by simp)) (by kernel_rfl) rfl (by kernel_rfl) ?_; have S6 : St w _ [⟨g2, #[.int .u32 2, .int .i64 17], 42⟩, ⟨g1, A, 26⟩] := St.row (L1 := []) (b := ⟨g2, #[.int .u32 0, .int .i64 0], 42⟩) S5 #[.int .u32 2, .int .i64 17]; clear S5; generalize World.setRow _ _ _ = w6 at S6 ⊢; have d0 := S6.cell (b := ⟨g2, #[.int .u32 2, .int .i64 17], 42⟩) (j := 0) (by simp) rfl; have d1 := S6.cell (b := ⟨g2, #[.int .u32 2, .int .i64 17], 42⟩) (j := 1) (by simp) rfl))
          go_ret
          exact ⟨rfl, S6.below⟩
      · have p1 := q1 (by decide)
        have p2 := q2 (by decide)
        clear q1 q2 q3
        subst p1
        subst p2
        have tst := H1.out.2.2
        have hix : ∀ w, (Instr.index 43 (.agg #[.int .u32 1, .int .i64 16, .int .u32 2, .int .i64 17, .int .u32 4, .int .i64 18]) (.int .i64 2)).run Try.prog w = .ok (.agg #[.int .u32 4, .int .i64 18]) w := fun _ => by kernel_rfl
        cases b3
        · go_wp2_with (first | ((with_reducible refine gate_dst (N := 5) rfl ?_); refine box_event ?hg (N := 5) ?hd (cs := #[.int .u32 0, .int .i64 0]) (t := 42) ?hr ?_; (case hd => rfl); (case hg => rfl); (case hr => first | (go_simp; done) | (go_simp; rfl)); intro g2 hg w5 hbox hb; have S5 := S4.box hg hbox hb; clear hg hbox hb; clear S4) | ((with_reducible refine gate_store (t := 42) (p := 5) rfl ?_); refine wpList_store_row rfl 42 _ _ rfl g2 #[.int .u32 4, .int .i64 18] rfl rfl 42 #[.int .u32 0, .int .i64 0] (S5.heap ⟨g2, #[.int .u32 0, .int .i64 0], 42⟩ (by simp)) (by kernel_rfl) rfl (by kernel_rfl) ?_; have S6 : St w _ [⟨g2, #[.int .u32 4, .int .i64 18], 42⟩, ⟨g1, A, 26⟩] := St.row (L1 := []) (b := ⟨g2, #[.int .u32 0, .int .i64 0], 42⟩) S5 #[.int .u32 4, .int .i64 18]; clear S5; generalize World.setRow _ _ _ = w6 at S6 ⊢; have d0 := S6.cell (b := ⟨g2, #[.int .u32 4, .int .i64 18], 42⟩) (j := 0) (by simp) rfl; have d1 := S6.cell (b := ⟨g2, #[.int .u32 4, .int .i64 18], 42⟩) (j := 1) (by simp) rfl))
          go_roundw
          case rel => exact ⟨3, by decide, by go_num, S6.tail, fun h => by simp, fun h => by simp, fun h => by simp⟩
          case measure => simp [intOf]
        · go_wp2_with (first | ((with_reducible refine gate_dst (N := 5) rfl ?_); refine box_event ?hg (N := 5) ?hd (cs := #[.int .u32 0, .int .i64 0]) (t := 42) ?hr ?_; (case hd => rfl); (case hg => rfl); (case hr => first | (go_simp; done) | (go_simp; rfl)); intro g2 hg w5 hbox hb; have S5 := S4.box hg hbox hb; clear hg hbox hb; clear S4) | ((with_reducible refine gate_store (t := 42) (p := 5) rfl ?_); refine wpList_store_row rfl 42 _ _ rfl g2 #[.int .u32 4, .int .i64 18] rfl rfl 42 #[.int .u32 0, .int .i64 0] (S5.heap ⟨g2, #[.int .u32 0, .int .i64 0], 42⟩ (by simp)) (by kernel_rfl) rfl (by kernel_rfl) ?_; have S6 : St w _ [⟨g2, #[.int .u32 4, .int .i64 18], 42⟩, ⟨g1, A, 26⟩] := St.row (L1 := []) (b := ⟨g2, #[.int .u32 0, .int .i64 0], 42⟩) S5 #[.int .u32 4, .int .i64 18]; clear S5; generalize World.setRow _ _ _ = w6 at S6 ⊢; have d0 := S6.cell (b := ⟨g2, #[.int .u32 4, .int .i64 18], 42⟩) (j := 0) (by simp) rfl; have d1 := S6.cell (b := ⟨g2, #[.int .u32 4, .int .i64 18], 42⟩) (j := 1) (by simp) rfl))
          go_ret
          exact ⟨rfl, S6.below⟩
      · have p1 := q1 (by decide)
        have p2 := q2 (by decide)
        have p3 := q3 (by decide)
        clear q1 q2 q3
        subst p1
        subst p2
        subst p3
        go_wp2
        go_ret
        exact ⟨rfl, S4.below⟩

end Go.Proofs.Ytegpadmlidaljaa.Csr
