-- PRINTED BY print.sh 35421559b90ae4d0a3588c463048766b98c2df88dd9212a6774a882060cdf62d: not written by this session
import Derived.Test.YtbkjdikiepnhbaaFlX0
namespace Go.Proofs.Ytbkjdikiepnhbaa.Fl
open Go.RowKit Go.Proofs.YtbkjdikiepnhbaaW.PrintWords Go.Proofs.YtbkjdikiepnhbaaW.PrintLast Go.Proofs.YtbkjdikiepnhbaaW.PrintMore
attribute [local go_sem] max2_int min2_int max_two min_two max_three min_three max_four min_four   -- for this text's walks alone
set_option linter.unusedVariables false
set_option linter.unusedSimpArgs false

theorem eqA29 (d : Nat) (w : World) (x0 y0 : Int) (x1 y1 : Int) (x2 y2 : Int) (x3 y3 : Int) (x4 y4 : Int) :
    (Op.equalIn (d + 2) 29 (.agg #[.int .i64 x0, .int .i64 x1, .int .i64 x2, .int .i64 x3, .int .i64 x4]) (.agg #[.int .i64 y0, .int .i64 y1, .int .i64 y2, .int .i64 y3, .int .i64 y4])).run Try.prog w = .ok (x0 == y0 && (x1 == y1 && (x2 == y2 && (x3 == y3 && (x4 == y4))))) w := by
  refine eqA_of Try.underlying29 (by kernel_rfl) ?_
  refine eqf_cons (by rfl) (by go_simp; rfl) (by go_simp; rfl) (by go_simp) ?_
  refine eqf_cons (by rfl) (by go_simp; rfl) (by go_simp; rfl) (by go_simp) ?_
  refine eqf_cons (by rfl) (by go_simp; rfl) (by go_simp; rfl) (by go_simp) ?_
  refine eqf_cons (by rfl) (by go_simp; rfl) (by go_simp; rfl) (by go_simp) ?_
  exact eqf_last (by rfl) (by go_simp; rfl) (by go_simp; rfl) (by go_simp)
theorem eqA32 (d : Nat) (w : World) (x0 y0 : Int) (x1 y1 : Int) (x2 y2 : Int) :
    (Op.equalIn (d + 2) 32 (.agg #[.int .u32 x0, .int .i64 x1, .int .u32 x2]) (.agg #[.int .u32 y0, .int .i64 y1, .int .u32 y2])).run Try.prog w = .ok (x0 == y0 && (x1 == y1 && (x2 == y2))) w := by
  refine eqA_of Try.underlying32 (by kernel_rfl) ?_
  refine eqf_cons (by rfl) (by go_simp; rfl) (by go_simp; rfl) (by go_simp) ?_
  refine eqf_cons (by rfl) (by go_simp; rfl) (by go_simp; rfl) (by go_simp) ?_
  exact eqf_last (by rfl) (by go_simp; rfl) (by go_simp; rfl) (by go_simp)
theorem eqA34 (d : Nat) (w : World) (x0 y0 : Bool) (x1 y1 : Int) (x2 y2 : Int) (x3 y3 : Int) (x4 y4 : Int) :
    (Op.equalIn (d + 3) 34 (.agg #[.bool x0, .int .u32 x1, .int .u32 x2, .int .i64 x3, .int .u32 x4]) (.agg #[.bool y0, .int .u32 y1, .int .u32 y2, .int .i64 y3, .int .u32 y4])).run Try.prog w = .ok (x0 == y0 && (x1 == y1 && ((x2 == y2 && (x3 == y3 && (x4 == y4)))))) w := by
  refine eqA_of Try.underlying34 (by kernel_rfl) ?_
  refine eqf_cons (by rfl) (by go_simp; rfl) (by go_simp; rfl) (by go_simp) ?_
  refine eqf_cons (by rfl) (by go_simp; rfl) (by go_simp; rfl) (by go_simp) ?_
  exact eqf_last (by rfl) (by go_simp) (by go_simp) (eqA32 (d + 0) w _ _ _ _ _ _)
theorem eqA36 (d : Nat) (w : World) (x0 y0 : Int) (x1 y1 : Int) (x2 y2 : Int) (x3 y3 : Int) (x4 y4 : Bool) (x5 y5 : Int) (x6 y6 : Int) (x7 y7 : Int) (x8 y8 : Int) :
    (Op.equalIn (d + 4) 36 (.agg #[.int .u32 x0, .int .u32 x1, .int .i64 x2, .int .u32 x3, .bool x4, .int .u32 x5, .int .u32 x6, .int .i64 x7, .int .u32 x8]) (.agg #[.int .u32 y0, .int .u32 y1, .int .i64 y2, .int .u32 y3, .bool y4, .int .u32 y5, .int .u32 y6, .int .i64 y7, .int .u32 y8])).run Try.prog w = .ok (x0 == y0 && (x1 == y1 && (x2 == y2 && (x3 == y3 && ((x4 == y4 && (x5 == y5 && ((x6 == y6 && (x7 == y7 && (x8 == y8))))))))))) w := by
  refine eqA_of Try.underlying36 (by kernel_rfl) ?_
  refine eqf_cons (by rfl) (by go_simp; rfl) (by go_simp; rfl) (by go_simp) ?_
  refine eqf_cons (by rfl) (by go_simp; rfl) (by go_simp; rfl) (by go_simp) ?_
  refine eqf_cons (by rfl) (by go_simp; rfl) (by go_simp; rfl) (by go_simp) ?_
  refine eqf_cons (by rfl) (by go_simp; rfl) (by go_simp; rfl) (by go_simp) ?_
  exact eqf_last (by rfl) (by go_simp) (by go_simp) (eqA34 (d + 0) w _ _ _ _ _ _ _ _ _ _)
section
open Go Go.Proofs
theorem part3 (w : World) (xs : Array Value) (i : Nat) (v : Value) (h : xs[i]? = some v) : (part 3 xs i).run Try.prog w = .ok v w := by
  have hag : (isAgg 3).run Try.prog w = .ok false w := by go_simp
  simp only [part, Sem.run_bind, hag, Result.andThen_ok, Bool.false_eq_true, if_false, h, Sem.run_pure]
theorem eqi (d : Nat) (w : World) (x y : Int) : (Op.equalIn (d + 1) 3 (.int .i64 x) (.int .i64 y)).run Try.prog w = .ok (x == y) w := by
  simp only [Op.equalIn, Sem.run_bind, run_underlying Try.underlying3, Result.andThen_ok, Sem.run_pure]
  simp
theorem loop3 {P : Program} {σ : Type} (w : World) (s r : σ) (g : Nat → σ → Sem (ForInStep σ)) (b0 b1 b2 : Bool) (h0 : (g 0 s).run P w = .ok (if b0 = true then .yield s else .done r) w) (h1 : (g 1 s).run P w = .ok (if b1 = true then .yield s else .done r) w) (h2 : (g 2 s).run P w = .ok (if b2 = true then .yield s else .done r) w) :
    (forIn (m := Sem) [0, 1, 2] s g).run P w = .ok (if (b0 && (b1 && b2)) = true then s else r) w := by
  simp only [List.forIn_cons, List.forIn_nil, Sem.run_bind, h0, Result.andThen_ok]
  cases b0 with
  | false => simp
  | true =>
    simp only [if_true, Sem.run_bind, h1, Result.andThen_ok, Bool.true_and]
    cases b1 with
    | false => simp
    | true =>
      simp only [if_true, Sem.run_bind, h2, Result.andThen_ok, Bool.true_and]
      cases b2 <;> simp
theorem eqA37 (d : Nat) (w : World) (x0 y0 : Int) (x1 y1 : Int) (x2 y2 : Int) :
    (Op.equalIn (d + 2) 37 (.agg #[.int .i64 x0, .int .i64 x1, .int .i64 x2]) (.agg #[.int .i64 y0, .int .i64 y1, .int .i64 y2])).run Try.prog w = .ok (x0 == y0 && (x1 == y1 && (x2 == y2))) w := by
  have hsz : (sizeOf 3).run Try.prog w = .ok 1 w := by go_simp
  have hb : ∀ (i : Nat) (x y : Int), (#[.int .i64 x0, .int .i64 x1, .int .i64 x2] : Array Value)[i]? = some (.int .i64 x) → (#[.int .i64 y0, .int .i64 y1, .int .i64 y2] : Array Value)[i]? = some (.int .i64 y) → ∀ (s : Option Bool × Unit), s = (none, ()) →
      ((do
        let a ← part 3 #[.int .i64 x0, .int .i64 x1, .int .i64 x2] (i * 1)
        let c ← part 3 #[.int .i64 y0, .int .i64 y1, .int .i64 y2] (i * 1)
        let b ← Op.equalIn (d + 1) 3 a c
        if (!b) = true then pure (ForInStep.done (some false, ())) else do
          pure PUnit.unit
          pure (ForInStep.yield (none, ()))) : Sem (ForInStep (Option Bool × Unit))).run Try.prog w = .ok (if (x == y) = true then .yield s else .done (some false, ())) w := by
    intro i x y hx hy s hs
    subst hs
    simp only [Sem.run_bind, Nat.mul_one, part3 w _ i _ hx, part3 w _ i _ hy, Result.andThen_ok, eqi]
    cases x == y <;> rfl
  rw [show d + 2 = (d + 1) + 1 from rfl, Op.equalIn]
  simp only [Sem.run_bind, run_underlying Try.underlying37, Result.andThen_ok, hsz]
  rw [Std.Legacy.Range.forIn_eq_forIn_range']
  have hr : List.range' ([:3] : Std.Legacy.Range).start ([:3] : Std.Legacy.Range).size ([:3] : Std.Legacy.Range).step = [0, 1, 2] := rfl
  rw [hr, loop3 w _ (some false, ()) _ (x0 == y0) (x1 == y1) (x2 == y2) (hb 0 x0 y0 rfl rfl _ rfl) (hb 1 x1 y1 rfl rfl _ rfl) (hb 2 x2 y2 rfl rfl _ rfl)]
  cases x0 == y0 && (x1 == y1 && x2 == y2) <;> rfl
end

theorem eqA39 (d : Nat) (w : World) (x0 y0 : Int) (x1 y1 : Int) (x2 y2 : Int) (x3 y3 : Int) (x4 y4 : Int) (x5 y5 : Int) (x6 y6 : Int) (x7 y7 : Int) (x8 y8 : Int) (x9 y9 : Bool) (x10 y10 : Int) (x11 y11 : Int) (x12 y12 : Int) (x13 y13 : Int) (x14 y14 : Int) (x15 y15 : Int) (x16 y16 : Bool) (x17 y17 : Int) (x18 y18 : Int) (x19 y19 : Int) (x20 y20 : Int) (x21 y21 : Int) (x22 y22 : Int) :
    (Op.equalIn (d + 5) 39 (.agg #[.int .i64 x0, .int .i64 x1, .int .i64 x2, .int .i64 x3, .int .i64 x4, .int .u32 x5, .int .u32 x6, .int .i64 x7, .int .u32 x8, .bool x9, .int .u32 x10, .int .u32 x11, .int .i64 x12, .int .u32 x13, .int .i64 x14, .int .i64 x15, .bool x16, .int .i64 x17, .int .i64 x18, .int .i64 x19, .int .i64 x20, .int .i64 x21, .int .u32 x22]) (.agg #[.int .i64 y0, .int .i64 y1, .int .i64 y2, .int .i64 y3, .int .i64 y4, .int .u32 y5, .int .u32 y6, .int .i64 y7, .int .u32 y8, .bool y9, .int .u32 y10, .int .u32 y11, .int .i64 y12, .int .u32 y13, .int .i64 y14, .int .i64 y15, .bool y16, .int .i64 y17, .int .i64 y18, .int .i64 y19, .int .i64 y20, .int .i64 y21, .int .u32 y22])).run Try.prog w = .ok ((x0 == y0 && (x1 == y1 && (x2 == y2 && (x3 == y3 && (x4 == y4))))) && ((x5 == y5 && (x6 == y6 && (x7 == y7 && (x8 == y8 && ((x9 == y9 && (x10 == y10 && ((x11 == y11 && (x12 == y12 && (x13 == y13))))))))))) && (x14 == y14 && (x15 == y15 && (x16 == y16 && ((x17 == y17 && (x18 == y18 && (x19 == y19))) && (x20 == y20 && (x21 == y21 && (x22 == y22))))))))) w := by
  refine eqA_of Try.underlying39 (by kernel_rfl) ?_
  refine eqf_cons (by rfl) (by go_simp) (by go_simp) (eqA29 (d + 2) w _ _ _ _ _ _ _ _ _ _) ?_
  refine eqf_cons (by rfl) (by go_simp) (by go_simp) (eqA36 (d + 0) w _ _ _ _ _ _ _ _ _ _ _ _ _ _ _ _ _ _) ?_
  refine eqf_cons (by rfl) (by go_simp; rfl) (by go_simp; rfl) (by go_simp) ?_
  refine eqf_cons (by rfl) (by go_simp; rfl) (by go_simp; rfl) (by go_simp) ?_
  refine eqf_cons (by rfl) (by go_simp; rfl) (by go_simp; rfl) (by go_simp) ?_
  refine eqf_cons (by rfl) (by go_simp) (by go_simp) (eqA37 (d + 2) w _ _ _ _ _ _) ?_
  refine eqf_cons (by rfl) (by go_simp; rfl) (by go_simp; rfl) (by go_simp) ?_
  refine eqf_cons (by rfl) (by go_simp; rfl) (by go_simp; rfl) (by go_simp) ?_
  exact eqf_last (by rfl) (by go_simp; rfl) (by go_simp; rfl) (by go_simp)
theorem eqA42 (d : Nat) (w : World) (x0 y0 : Int) (x1 y1 : Int) (x2 y2 : Int) (x3 y3 : Int) (x4 y4 : Int) (x5 y5 : Int) (x6 y6 : Int) (x7 y7 : Int) (x8 y8 : Int) (x9 y9 : Bool) (x10 y10 : Int) (x11 y11 : Int) (x12 y12 : Int) (x13 y13 : Int) (x14 y14 : Int) (x15 y15 : Int) (x16 y16 : Bool) (x17 y17 : Int) (x18 y18 : Int) (x19 y19 : Int) (x20 y20 : Int) (x21 y21 : Int) (x22 y22 : Int) (x23 y23 : Int) (x24 y24 : Int) (x25 y25 : Int) (x26 y26 : Int) (x27 y27 : Int) (x28 y28 : Int) :
    (Op.equalIn (d + 6) 42 (.agg #[.int .i64 x0, .int .i64 x1, .int .i64 x2, .int .i64 x3, .int .i64 x4, .int .u32 x5, .int .u32 x6, .int .i64 x7, .int .u32 x8, .bool x9, .int .u32 x10, .int .u32 x11, .int .i64 x12, .int .u32 x13, .int .i64 x14, .int .i64 x15, .bool x16, .int .i64 x17, .int .i64 x18, .int .i64 x19, .int .i64 x20, .int .i64 x21, .int .u32 x22, .int .u64 x23, .int .i64 x24, .int .i64 x25, .int .i64 x26, .int .i64 x27, .int .i64 x28]) (.agg #[.int .i64 y0, .int .i64 y1, .int .i64 y2, .int .i64 y3, .int .i64 y4, .int .u32 y5, .int .u32 y6, .int .i64 y7, .int .u32 y8, .bool y9, .int .u32 y10, .int .u32 y11, .int .i64 y12, .int .u32 y13, .int .i64 y14, .int .i64 y15, .bool y16, .int .i64 y17, .int .i64 y18, .int .i64 y19, .int .i64 y20, .int .i64 y21, .int .u32 y22, .int .u64 y23, .int .i64 y24, .int .i64 y25, .int .i64 y26, .int .i64 y27, .int .i64 y28])).run Try.prog w = .ok (((x0 == y0 && (x1 == y1 && (x2 == y2 && (x3 == y3 && (x4 == y4))))) && ((x5 == y5 && (x6 == y6 && (x7 == y7 && (x8 == y8 && ((x9 == y9 && (x10 == y10 && ((x11 == y11 && (x12 == y12 && (x13 == y13))))))))))) && (x14 == y14 && (x15 == y15 && (x16 == y16 && ((x17 == y17 && (x18 == y18 && (x19 == y19))) && (x20 == y20 && (x21 == y21 && (x22 == y22))))))))) && (x23 == y23 && ((x24 == y24 && (x25 == y25 && (x26 == y26))) && (x27 == y27 && (x28 == y28))))) w := by
  refine eqA_of Try.underlying42 (by kernel_rfl) ?_
  refine eqf_cons (by rfl) (by go_simp) (by go_simp) (eqA39 (d + 0) w _ _ _ _ _ _ _ _ _ _ _ _ _ _ _ _ _ _ _ _ _ _ _ _ _ _ _ _ _ _ _ _ _ _ _ _ _ _ _ _ _ _ _ _ _ _) ?_
  refine eqf_cons (by rfl) (by go_simp; rfl) (by go_simp; rfl) (by go_simp) ?_
  refine eqf_cons (by rfl) (by go_simp) (by go_simp) (eqA37 (d + 3) w _ _ _ _ _ _) ?_
  refine eqf_cons (by rfl) (by go_simp; rfl) (by go_simp; rfl) (by go_simp) ?_
  exact eqf_last (by rfl) (by go_simp; rfl) (by go_simp; rfl) (by go_simp)
theorem eqA44 (d : Nat) (w : World) (x0 y0 : Int) (x1 y1 : Int) (x2 y2 : Int) (x3 y3 : Int) (x4 y4 : Int) (x5 y5 : Int) (x6 y6 : Int) (x7 y7 : Int) (x8 y8 : Int) (x9 y9 : Bool) (x10 y10 : Int) (x11 y11 : Int) (x12 y12 : Int) (x13 y13 : Int) (x14 y14 : Int) (x15 y15 : Int) (x16 y16 : Bool) (x17 y17 : Int) (x18 y18 : Int) (x19 y19 : Int) (x20 y20 : Int) (x21 y21 : Int) (x22 y22 : Int) (x23 y23 : Int) (x24 y24 : Int) (x25 y25 : Int) (x26 y26 : Int) (x27 y27 : Int) (x28 y28 : Int) (x29 y29 : Int) (x30 y30 : Int) (x31 y31 : Int) (x32 y32 : Int) (x33 y33 : Int) (x34 y34 : Int) :
    (Op.equalIn (d + 7) 44 (.agg #[.int .i64 x0, .int .i64 x1, .int .i64 x2, .int .i64 x3, .int .i64 x4, .int .u32 x5, .int .u32 x6, .int .i64 x7, .int .u32 x8, .bool x9, .int .u32 x10, .int .u32 x11, .int .i64 x12, .int .u32 x13, .int .i64 x14, .int .i64 x15, .bool x16, .int .i64 x17, .int .i64 x18, .int .i64 x19, .int .i64 x20, .int .i64 x21, .int .u32 x22, .int .u64 x23, .int .i64 x24, .int .i64 x25, .int .i64 x26, .int .i64 x27, .int .i64 x28, .int .i64 x29, .int .i64 x30, .int .u32 x31, .int .u32 x32, .int .i64 x33, .int .u32 x34]) (.agg #[.int .i64 y0, .int .i64 y1, .int .i64 y2, .int .i64 y3, .int .i64 y4, .int .u32 y5, .int .u32 y6, .int .i64 y7, .int .u32 y8, .bool y9, .int .u32 y10, .int .u32 y11, .int .i64 y12, .int .u32 y13, .int .i64 y14, .int .i64 y15, .bool y16, .int .i64 y17, .int .i64 y18, .int .i64 y19, .int .i64 y20, .int .i64 y21, .int .u32 y22, .int .u64 y23, .int .i64 y24, .int .i64 y25, .int .i64 y26, .int .i64 y27, .int .i64 y28, .int .i64 y29, .int .i64 y30, .int .u32 y31, .int .u32 y32, .int .i64 y33, .int .u32 y34])).run Try.prog w = .ok ((((x0 == y0 && (x1 == y1 && (x2 == y2 && (x3 == y3 && (x4 == y4))))) && ((x5 == y5 && (x6 == y6 && (x7 == y7 && (x8 == y8 && ((x9 == y9 && (x10 == y10 && ((x11 == y11 && (x12 == y12 && (x13 == y13))))))))))) && (x14 == y14 && (x15 == y15 && (x16 == y16 && ((x17 == y17 && (x18 == y18 && (x19 == y19))) && (x20 == y20 && (x21 == y21 && (x22 == y22))))))))) && (x23 == y23 && ((x24 == y24 && (x25 == y25 && (x26 == y26))) && (x27 == y27 && (x28 == y28))))) && (x29 == y29 && (x30 == y30 && (x31 == y31 && (x32 == y32 && (x33 == y33 && (x34 == y34))))))) w := by
  refine eqA_of Try.underlying44 (by kernel_rfl) ?_
  refine eqf_cons (by rfl) (by go_simp) (by go_simp) (eqA42 (d + 0) w _ _ _ _ _ _ _ _ _ _ _ _ _ _ _ _ _ _ _ _ _ _ _ _ _ _ _ _ _ _ _ _ _ _ _ _ _ _ _ _ _ _ _ _ _ _ _ _ _ _ _ _ _ _ _ _ _ _) ?_
  refine eqf_cons (by rfl) (by go_simp; rfl) (by go_simp; rfl) (by go_simp) ?_
  refine eqf_cons (by rfl) (by go_simp; rfl) (by go_simp; rfl) (by go_simp) ?_
  refine eqf_cons (by rfl) (by go_simp; rfl) (by go_simp; rfl) (by go_simp) ?_
  refine eqf_cons (by rfl) (by go_simp; rfl) (by go_simp; rfl) (by go_simp) ?_
  refine eqf_cons (by rfl) (by go_simp; rfl) (by go_simp; rfl) (by go_simp) ?_
  exact eqf_last (by rfl) (by go_simp; rfl) (by go_simp; rfl) (by go_simp)
end Go.Proofs.Ytbkjdikiepnhbaa.Fl
