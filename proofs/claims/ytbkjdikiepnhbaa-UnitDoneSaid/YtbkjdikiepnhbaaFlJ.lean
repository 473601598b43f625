/- What the law's own example comes to: a walk of the code. No condition. -/
import Derived.Test.YtbkjdikiepnhbaaFlI
namespace Go.Proofs.Ytbkjdikiepnhbaa.Fl
open Go Go.Proofs Go.RowKit Go.Proofs.YtbkjdikiepnhbaaW.PrintWords Go.Proofs.YtbkjdikiepnhbaaW.PrintLast Go.Proofs.YtbkjdikiepnhbaaW.PrintMore Go.Proofs.Ytbkjdikiepnhbaa.Boxes
attribute [local go_sem] max2_int min2_int max_two min_two max_three min_three max_four min_four   -- for this text's walks alone
set_option linter.unusedVariables false
set_option linter.unusedSimpArgs false

section
variable {P : Program} {ops : Array Oper} {rest : List Oper} {o : Oper} {a : Act} {w : World} {Q : Exit → Act → World → Prop}
theorem wpList_bld (hg : o.guard = none) (t : TypeId) (parts : Array (Nat × Operand)) (ho : o.op = .build t parts) (cells : Array Value) (hb : P.built t (parts.map fun (i, x) => (i, a.eval x)).toList = some cells)
    (h : wpList P ops Q rest (a.put o.dst (.agg cells)) w) : wpList P ops Q (o :: rest) a w := wpList_build hg t parts ho (by rw [hb]; rfl) (by rw [hb]; exact h)
end
theorem cf_all {m d : Int} (c : Cf m d) : c.cs.toArray.all (·.oneCell') = true := Array.all_eq_true_iff_forall_mem.2 (fun v hv => c.one v (by simpa using hv))
def cf0 : Cf 3 0 where
  cs := [.int .i64 0, .int .i64 0, .int .i64 0, .int .i64 0, .int .i64 0, .int .i64 0, .int .i64 0, .int .i64 0, .int .i64 0, .int .i64 0, .int .i64 0, .int .i64 0, .int .i64 0, .int .i64 0, .int .i64 0, .int .i64 0, .int .i64 3, .int .i64 0, .int .i64 0, .int .i64 0, .int .i64 0, .bool false]
  len := rfl
  one := by simp [Value.oneCell']
  mul := rfl
  dv := rfl
def z23c : Array Value := #[.int .i64 0, .int .i64 0, .int .i64 0, .int .i64 0, .int .i64 0, .int .i64 0, .int .i64 0, .int .i64 0, .int .i64 0, .int .i64 0, .int .i64 0, .int .i64 0, .int .i64 0, .int .i64 0, .int .i64 0, .int .i64 0, .int .i64 0, .int .i64 0, .int .i64 0, .int .i64 0, .int .i64 0, .bool false]
def f0 : S44 := {z44 with f0 := {z42 with f1 := 1}, f1 := 2}
def r0 : Array Value := ((cs44 f0).take 29).toArray
def L1 : List S44 := [begX 3 0 f0]
def L2 : List S44 := tickX (tickX L1)
def L3 : List S44 := tickX L2
theorem room0 : roomX 3 0 [] f0.f1 = true := by decide
theorem room1 : roomX 3 0 L1 2 = false := by decide
theorem tick_v (f : S44) (v : Int) (h0 : 1 ≤ v) (h1 : v ≤ 32) : tick1 {f with f2 := v} = {f with f2 := v - 1} := by
  unfold tick1
  simp only
  rw [if_neg (by omega), wrap_i (by omega) (by omega)]
theorem L2_is : L2 = [{f0 with f2 := 1}] := by
  show [tick1 (tick1 {f0 with f2 := 3})] = _
  rw [tick_v f0 3 (by decide) (by decide), tick_v f0 (3 - 1) (by decide) (by decide)]
  rfl
theorem L3_is : L3 = [{f0 with f2 := 0}] := by
  unfold L3
  rw [L2_is]
  show [tick1 {f0 with f2 := 1}] = _
  rw [tick_v f0 1 (by decide) (by decide)]
  rfl
theorem room2 : roomX 3 0 L2 2 = true := by rw [L2_is]; decide
theorem done2 : (doneX L2).length = 0 := by rw [L2_is]; decide
theorem done3 : (doneX L3).length = 1 := by rw [L3_is]; decide
theorem len1 : L1.length = 1 := rfl
theorem len2 : L2.length = 1 := rfl
theorem tick_len (l : List S44) : (tickX l).length = l.length := by unfold tickX; simp

theorem start0 (w : World) : Calls Try.prog 12 #[.agg cf0.cs.toArray, .slice none 0 0, .agg (cs44 f0).toArray] w fun e w' => (∃ v, e = .returned (.tuple #[v, .bool true]) ∧ Kd.R k44 44 w' w.heap.size (fun _ => True) v L1) ∧ Below w.heap.size w w' :=
  (start cf0 none 0 [] f0 w (Kd.R_reads' (Kd.R_nil k44 44 w w.heap.size (fun _ => True))).2.2 (Nat.le_refl _) (by decide)).mono fun e w' ⟨⟨v, h1, _, h3⟩, hb⟩ => by
    rw [room0] at h1 h3
    exact ⟨⟨v, h1, h3 rfl⟩, hb⟩
theorem roomF {A : Option Addr} {c : Nat} {w : World} (hC : Kd.C k44 w A L1.length L1) (hc : L1.length ≤ c) : Calls Try.prog 10 #[.agg cf0.cs.toArray, .slice A L1.length c, .int .i64 2] w fun e w' => e = .returned (.bool false) ∧ Below w.heap.size w w' := by
  have := room cf0 A c L1 2 w hC hc (by decide)
  rw [room1] at this
  exact this
theorem roomT {A : Option Addr} {c : Nat} {w : World} (hC : Kd.C k44 w A L2.length L2) (hc : L2.length ≤ c) : Calls Try.prog 10 #[.agg cf0.cs.toArray, .slice A L2.length c, .int .i64 2] w fun e w' => e = .returned (.bool true) ∧ Below w.heap.size w w' := by
  have := room cf0 A c L2 2 w hC hc (by decide)
  rw [room2] at this
  exact this
theorem tickA {A : Option Addr} {c : Nat} (w : World) (hC : Kd.C k44 w A (tickX L1).length (tickX L1)) (hc : (tickX L1).length ≤ c) : Calls Try.prog 15 #[.slice A (tickX L1).length c] w fun e w' => ∃ v, e = .returned v ∧ Kd.R k44 44 w' w.heap.size (fun _ => True) v L2 ∧ Below w.heap.size w w' := tick A c (tickX L1) w hC hc (by decide)
theorem tickB {A : Option Addr} {c : Nat} (w : World) (hC : Kd.C k44 w A L2.length L2) (hc : L2.length ≤ c) : Calls Try.prog 15 #[.slice A L2.length c] w fun e w' => ∃ v, e = .returned v ∧ Kd.R k44 44 w' w.heap.size (fun _ => True) v L3 ∧ Below w.heap.size w w' := tick A c L2 w hC hc (by decide)
set_option maxHeartbeats 8000000 in
set_option maxRecDepth 100000 in
theorem awake (w : World) : Calls Try.prog 7 #[] w fun e w' => e = .returned (.bool true) ∧ Below w.heap.size w w' := by
  have S0 := St.start w
  go_enter Try.func7, Try.ntmps7
  go_upto_region 5 with (first | ((with_reducible refine gate_dst (N := 1) rfl ?_); refine box_event ?hg (N := 1) ?hd (cs := z23c) (t := 23) ?hr ?_; (case hd => rfl); (case hg => rfl); (case hr => first | (go_simp; done) | (go_simp; rfl)); intro g1 hg w1 hbox hb; have S1 := S0.box hg hbox hb; clear hg hbox hb; clear S0) | ((with_reducible refine gate_dst (N := 5) rfl ?_); refine wpList_bld rfl 23 _ rfl cf0.cs.toArray (by kernel_rfl) ?_) | ((with_reducible refine gate_store (t := 23) (p := 1) rfl ?_); refine wpList_store_row rfl 23 _ _ rfl g1 _ rfl rfl 23 _ (S1.heap ⟨g1, z23c, 23⟩ (by simp)) (cf0.size) (rfl) (cf_all cf0) ?_; have n_ : St w _ [⟨g1, cf0.cs.toArray, 23⟩] := St.row (L1 := []) (b := ⟨g1, z23c, 23⟩) S1 cf0.cs.toArray; clear S1; have S2 := n_; clear n_; generalize World.setRow _ _ _ = w2 at S2 ⊢) | ((with_reducible refine gate_dst (N := 7) rfl ?_); (try refine gate_guard (by first | rfl | decide | kernel_rfl) ?_); refine wpList_load_row rfl 23 _ rfl g1 rfl 23 cf0.cs.toArray (0, 0) _ (S2.heap ⟨g1, cf0.cs.toArray, 23⟩ (by simp)) Try.underlying23 rfl cf0.size ?_) | ((with_reducible refine gate_dst (N := 8) rfl ?_); refine wpList_bld rfl 42 _ rfl r0 (by kernel_rfl) ?_) | ((with_reducible refine gate_dst (N := 9) rfl ?_); refine wpList_bld rfl 44 _ rfl (cs44 f0).toArray (by kernel_rfl) ?_) | (go_at_call 12; (with_reducible refine (start0 _).mono ?_); rintro e_ w3 ⟨⟨v3, rfl, hR_⟩, hB_⟩; have S3 := S2.call hB_; have HO3 := Aside0.mk (Kd.R_lower hR_ (below_size S2.below)); obtain ⟨A3, c3, e3⟩ := Kd.R_slice HO3.out; subst e3; clear hR_ hB_; clear S2) | ((with_reducible refine gate_dst (N := 13) rfl ?_); (try refine gate_guard (by first | rfl | decide | kernel_rfl) ?_); refine wpList_load_row rfl 23 _ rfl g1 rfl 23 cf0.cs.toArray (0, 0) _ (S3.heap ⟨g1, cf0.cs.toArray, 23⟩ (by simp)) Try.underlying23 rfl cf0.size ?_) | (go_at_call 10; (with_reducible refine (roomF (Kd.R_reads' HO3.out).2.2 (Kd.R_reads' HO3.out).2.1).mono ?_); rintro e_ w4 ⟨rfl, hB_⟩; have S4 := S3.call hB_; have HO4 := Aside0.mk (Kd.R_below HO3.out hB_); clear hB_; clear S3) | (go_at_call 15; (with_reducible refine (tick _ _ L1 _ (Kd.R_reads' HO4.out).2.2 (Kd.R_reads' HO4.out).2.1 (by decide)).mono ?_); rintro e_ w5 ⟨v5, rfl, hR_, hB_⟩; have S5 := S4.call hB_; have HO5 := Aside0.mk (Kd.R_lower hR_ (below_size S4.below)); obtain ⟨Av5, cv5, ev5⟩ := Kd.R_slice HO5.out; subst ev5; clear hR_ hB_; clear S4) | (go_at_call 15; (with_reducible refine (tickA _ (Kd.R_reads' HO5.out).2.2 (Kd.R_reads' HO5.out).2.1).mono ?_); rintro e_ w6 ⟨v6, rfl, hR_, hB_⟩; have S6 := S5.call hB_; have HO6 := Aside0.mk (Kd.R_lower hR_ (below_size S5.below)); obtain ⟨Av6, cv6, ev6⟩ := Kd.R_slice HO6.out; subst ev6; clear hR_ hB_; clear S5))
  have q2 := done2
  have q3 := done3
  go_wp2_with (first | (go_at_call 18; (with_reducible refine (done _ _ L2 _ (Kd.R_reads' HO6.out).2.2 (Kd.R_reads' HO6.out).2.1 (by decide)).mono ?_); rintro e_ w7 ⟨v7, rfl, hR_, hB_⟩; have S7 := S6.call hB_; have HO7 := Aside0.mk (Kd.R_below HO6.out hB_); obtain ⟨A7, c7, e7⟩ := Kd.R_slice hR_; subst e7; clear hR_ hB_; clear S6) | (go_at_call 15; (with_reducible refine (tickB _ (Kd.R_reads' HO7.out).2.2 (Kd.R_reads' HO7.out).2.1).mono ?_); rintro e_ w8 ⟨v8, rfl, hR_, hB_⟩; have S8 := S7.call hB_; have HO8 := Aside0.mk (Kd.R_below HO7.out hB_); have HT8 := Aside0.mk (Kd.R_lower hR_ (below_size S7.below)); obtain ⟨A8, c8, e8⟩ := Kd.R_slice HT8.out; subst e8; clear hR_ hB_; clear S7) | (go_at_call 18; (with_reducible refine (done _ _ L3 _ (Kd.R_reads' HT8.out).2.2 (Kd.R_reads' HT8.out).2.1 (by decide)).mono ?_); rintro e_ w8b ⟨v8b, rfl, hR_, hB_⟩; have S8b := S8.call hB_; have HO8b := Aside0.mk (Kd.R_below HO8.out hB_); obtain ⟨A8b, c8b, e8b⟩ := Kd.R_slice hR_; subst e8b; clear hR_ hB_; clear S8) | ((with_reducible refine gate_dst (N := 38) rfl ?_); (try refine gate_guard (by first | rfl | decide | kernel_rfl) ?_); refine wpList_load_row rfl 23 _ rfl g1 rfl 23 cf0.cs.toArray (0, 0) _ (S8b.heap ⟨g1, cf0.cs.toArray, 23⟩ (by simp)) Try.underlying23 rfl cf0.size ?_) | (go_at_call 10; (with_reducible refine (roomT (Kd.R_reads' HO8b.out).2.2 (Kd.R_reads' HO8b.out).2.1).mono ?_); rintro e_ w9 ⟨rfl, hB_⟩; have S9 := S8b.call hB_; have HO9 := Aside0.mk (Kd.R_below HO8b.out hB_); clear hB_; clear S8b))
  go_ret
  exact ⟨rfl, S9.below⟩

end Go.Proofs.Ytbkjdikiepnhbaa.Fl
