/- What fwd.Find comes to: the first of the older stores, the youngest first, that shares a byte. The conditions are those that each theorem names. -/
import Derived.Test.YtmpnnppgppoliaaOlder
import Derived.Test.YtmpnnppgppoliaaHeldIn
import Derived.Test.YtmpnnppgppoliaaPFwdx1
import Derived.Deep.RegionHeld
namespace Go.Proofs.Ytmpnnppgppoliaa.PFwd
open Go Go.Proofs Go.RowKit Go.Shelf Go.Proofs.YtmpnnppgppoliaaW.PrintWords Go.Proofs.Ytmpnnppgppoliaa.TailIn
set_option linter.unusedVariables false
set_option linter.unusedSimpArgs false
attribute [local go_sem] Oper.semAt_some
def ovB (a n b m : Int) : Bool := decide ((mx (IntKind.u64.wrap a) (IntKind.u64.wrap b)) < (mn (IntKind.u64.wrap ((IntKind.u64.wrap a) + (mn (mx n 0) 4))) (IntKind.u64.wrap ((IntKind.u64.wrap b) + (mn (mx m 0) 4)))))
theorem ov_is (a n b m : Int) : sq_Overlap.f a n b m = some (ovB a n b m) := rfl
def covB (a n b m : Int) : Bool := if a2 : n < 1 ∨ n > 4 ∨ m < 1 ∨ m > 4 ∨ b > a then false else decide ((IntKind.u64.wrap ((IntKind.u64.wrap a) + (IntKind.u64.wrap n))) ≤ (IntKind.u64.wrap ((IntKind.u64.wrap b) + (IntKind.u64.wrap m))))
theorem cov_is (a n b m : Int) : fwd_Covers.f a n b m = some (covB a n b m) := by
  unfold fwd_Covers.f covB
  by_cases h1 : n < 1
  · rw [if_pos h1, dif_pos (.inl h1)]
  · by_cases h2 : n > 4
    · rw [if_neg h1, if_pos h2, dif_pos (.inr (.inl h2))]
    · by_cases h3 : m < 1
      · rw [if_neg h1, if_neg h2, if_pos h3, dif_pos (.inr (.inr (.inl h3)))]
      · by_cases h4 : m > 4
        · rw [if_neg h1, if_neg h2, if_neg h3, if_pos h4, dif_pos (.inr (.inr (.inr (.inl h4))))]
        · by_cases h5 : b > a
          · rw [if_neg h1, if_neg h2, if_neg h3, if_neg h4, if_pos h5, dif_pos (.inr (.inr (.inr (.inr h5))))]
          · rw [if_neg h1, if_neg h2, if_neg h3, if_neg h4, if_neg h5, dif_neg (by omega)]
def cutW (d b a n : Int) : Int := if ((a - b) % 4294967296) > 3 then 0 else cutV d ((a - b) % 4294967296) (mn (mx n 0) 4)
theorem cut_is (d b a n : Int) : fwd_Cut.f d b a n = some (cutW d b a n) := rfl
/-- What a load has of a store that shares a byte with it; of stores. -/
def hitX (a n : Int) (x : SX) : Int × Int × Int := if covB a n x.a x.n = true then (1, cutW x.d x.a a n, x.q) else (2, 0, x.q)
def findX (a n : Int) : List SX → Int × Int × Int
  | [] => (0, 0, 0)
  | x :: r => if ovB a n x.a x.n = true then hitX a n x else findX a n r
theorem findX_none {a n : Int} : ∀ {l : List SX}, (∀ x ∈ l, ovB a n x.a x.n = false) → findX a n l = (0, 0, 0)
  | [], _ => rfl
  | x :: r, h => by
    unfold findX
    rw [if_neg (by rw [h x (by simp)]; decide)]
    exact findX_none fun y hy => h y (by simp [hy])
theorem findX_hit {a n : Int} {x : SX} {r : List SX} (hx : ovB a n x.a x.n = true) : ∀ {l : List SX}, (∀ y ∈ l, ovB a n y.a y.n = false) → findX a n (l ++ x :: r) = hitX a n x
  | [], _ => by
    show (if _ then _ else _) = _
    rw [if_pos hx]
  | y :: l, h => by
    show (if _ then _ else _) = _
    rw [if_neg (by rw [h y (by simp)]; decide)]
    exact findX_hit hx fun z hz => h z (by simp [hz])
theorem boxed_below {W W1 : World} {B : Nat} {t : TypeId} {v : Value} (h : Boxed W B t v) (hb : Below W.heap.size W W1) : Boxed W1 B t v := (hb.block B h.lt).trans h
theorem keepsFrom_below {B : Nat} {W W1 : World} (hb : Below W.heap.size W W1) : KeepsFrom B W W1 := ⟨hb.size, fun k o _ hk _ => (hb.block k (Array.getElem?_eq_some_iff.1 hk).1).trans hk⟩
theorem below_drawn {w w' : World} (h : Drawn0 w w') : Below w.heap.size w w' := by
  obtain ⟨m, rfl⟩ := h
  exact pw_below_drewN (Below.refl _ _) m
theorem cov_calls (a n b m : Int) (r : Bool) (w : World) (h : covB a n b m = r) : Calls Try.prog 32 #[.int .u32 a, .int .i64 n, .int .u32 b, .int .i64 m] w fun e w' => e = .returned (.bool r) ∧ Below w.heap.size w w' :=
  (fwd_Covers.calls a n b m r w (by rw [cov_is, h])).mono fun _ _ ⟨he, hb⟩ => ⟨he, below_drawn hb⟩
set_option maxHeartbeats 1000000 in
theorem older_in (A0 A1 : Option Addr) (n0 c0 n1 c1 : Nat) (q : Int) (w : World) :
    CallsIn Fence.wide 2 Try.prog 30 #[.slice A0 n0 c0, .slice A1 n1 c1, .int .u64 q] w fun e w' => e = .returned (.func (.func 40) #[] #[.pointer (some ⟨w.heap.size, 0, none⟩), .pointer (some ⟨w.heap.size + 1 + 1, 0, none⟩), .pointer (some ⟨w.heap.size + 1, 0, none⟩)]) ∧
      w' = ((w.alloc (.cells #[.slice A0 n0 c0] 28)).alloc (.cells #[.slice A1 n1 c1] 50)).alloc (.cells #[.int .u64 q] 41) := by
  refine callsIn_of_wp Try.func30 rfl trivial ?_ rfl
  simp only [Try.ntmps30, List.size_toArray, List.length_cons, List.length_nil, Nat.reduceAdd, Nat.reduceSub, Array.replicate_succ, Array.replicate_zero, List.push_toArray, List.append_toArray, List.nil_append, List.cons_append]
  gi_wp2
  go_ret
  exact ⟨rfl, rfl⟩
/-- What a round of fwd.Find reads. -/
structure C5 (g0 g1 B : Nat) (x : SX) (a n : Int) (W : World) : Prop where
  x0 : W.cell? ⟨B, 0, none⟩ = some (.int .u32 x.a)
  x1 : W.cell? ⟨B, 1, none⟩ = some (.int .u32 x.d)
  x2 : W.cell? ⟨B, 2, none⟩ = some (.int .i64 x.n)
  x3 : W.cell? ⟨B, 3, none⟩ = some (.int .u64 x.q)
  y0 : W.cell? ⟨g0, 0, none⟩ = some (.int .u32 a)
  y1 : W.cell? ⟨g1, 0, none⟩ = some (.int .i64 n)
theorem C5.set {g0 g1 B : Nat} {x : SX} {a n : Int} {W : World} (h : C5 g0 g1 B x a n W) (g : Nat) (n0 : g ≠ B) (n1 : g ≠ g0) (n2 : g ≠ g1) (v : Value) : C5 g0 g1 B x a n (W.setCell ⟨g, 0, none⟩ v) :=
  ⟨(World.cell?_setCell_far _ _ _ _ n0).trans h.x0, (World.cell?_setCell_far _ _ _ _ n0).trans h.x1, (World.cell?_setCell_far _ _ _ _ n0).trans h.x2, (World.cell?_setCell_far _ _ _ _ n0).trans h.x3, (World.cell?_setCell_far _ _ _ _ n1).trans h.y0, (World.cell?_setCell_far _ _ _ _ n2).trans h.y1⟩
theorem C5.below {g0 g1 B : Nat} {x : SX} {a n : Int} {W W1 : World} (h : C5 g0 g1 B x a n W) (hb : Below W.heap.size W W1) : C5 g0 g1 B x a n W1 :=
  ⟨(hb.cell (p := ⟨B, 0, none⟩) (World.block_lt_of_cell? _ _ h.x0)).trans h.x0, (hb.cell (p := ⟨B, 1, none⟩) (World.block_lt_of_cell? _ _ h.x1)).trans h.x1, (hb.cell (p := ⟨B, 2, none⟩) (World.block_lt_of_cell? _ _ h.x2)).trans h.x2, (hb.cell (p := ⟨B, 3, none⟩) (World.block_lt_of_cell? _ _ h.x3)).trans h.x3, (hb.cell (p := ⟨g0, 0, none⟩) (World.block_lt_of_cell? _ _ h.y0)).trans h.y0, (hb.cell (p := ⟨g1, 0, none⟩) (World.block_lt_of_cell? _ _ h.y1)).trans h.y1⟩
set_option maxRecDepth 100000 in
set_option maxHeartbeats 8000000 in
theorem find_walk (A0 A1 : Option Addr) (c0 c1 : Nat) (l : List S37) (b : List S48) (q a n : Int) (w : World) (h37 : Kd.C k37 w A0 l.length l) (h48 : Kd.C k48 w A1 b.length b) (m0 : (l.length : Int) ≤ 9223372036854775807) (m1 : (b.length : Int) ≤ 9223372036854775807) :
    Calls Try.prog 14 #[.slice A0 l.length c0, .slice A1 b.length c1, .int .u64 q, .int .u32 a, .int .i64 n] w fun e w' => e = .returned (.tuple #[.int .i64 (findX a n (old q l b)).1, .int .u32 (findX a n (old q l b)).2.1, .int .u64 (findX a n (old q l b)).2.2]) ∧ Below w.heap.size w w' := by
  refine (callsIn_wide (n := 3)).1 ?_
  refine callsIn_of_wp_marks Try.func14 rfl trivial ?_ rfl
  simp only [Try.ntmps14, List.size_toArray, List.length_cons, List.length_nil, Nat.reduceAdd, Nat.reduceSub, Array.replicate_succ, Array.replicate_zero, List.push_toArray, List.append_toArray, List.nil_append, List.cons_append]
  gi_wp2_with (refine ⟨trivial, ?_⟩; gi_at_call 30; refine (older_in _ _ _ _ _ _ _ _).mono ?_; rintro e w' ⟨rfl, rfl⟩)
  have b0 := (((((((Boxed.new w 32 (.int .u32 a)).alloc (.cells #[.int .i64 n] 3)).alloc (.cells #[.int .i64 0] 3)).alloc (.cells #[.int .u32 0] 32)).alloc (.cells #[.int .u64 0] 41)).alloc (.cells #[.slice A0 l.length c0] 28)).alloc (.cells #[.slice A1 b.length c1] 50)).alloc (.cells #[.int .u64 q] 41)
  have b1 := ((((((Boxed.new (w.alloc (.cells #[.int .u32 a] 32)) 3 (.int .i64 n)).alloc (.cells #[.int .i64 0] 3)).alloc (.cells #[.int .u32 0] 32)).alloc (.cells #[.int .u64 0] 41)).alloc (.cells #[.slice A0 l.length c0] 28)).alloc (.cells #[.slice A1 b.length c1] 50)).alloc (.cells #[.int .u64 q] 41)
  have b2 := (((((Boxed.new ((w.alloc (.cells #[.int .u32 a] 32)).alloc (.cells #[.int .i64 n] 3)) 3 (.int .i64 0)).alloc (.cells #[.int .u32 0] 32)).alloc (.cells #[.int .u64 0] 41)).alloc (.cells #[.slice A0 l.length c0] 28)).alloc (.cells #[.slice A1 b.length c1] 50)).alloc (.cells #[.int .u64 q] 41)
  have b3 := ((((Boxed.new (((w.alloc (.cells #[.int .u32 a] 32)).alloc (.cells #[.int .i64 n] 3)).alloc (.cells #[.int .i64 0] 3)) 32 (.int .u32 0)).alloc (.cells #[.int .u64 0] 41)).alloc (.cells #[.slice A0 l.length c0] 28)).alloc (.cells #[.slice A1 b.length c1] 50)).alloc (.cells #[.int .u64 q] 41)
  have b4 := (((Boxed.new ((((w.alloc (.cells #[.int .u32 a] 32)).alloc (.cells #[.int .i64 n] 3)).alloc (.cells #[.int .i64 0] 3)).alloc (.cells #[.int .u32 0] 32)) 41 (.int .u64 0)).alloc (.cells #[.slice A0 l.length c0] 28)).alloc (.cells #[.slice A1 b.length c1] 50)).alloc (.cells #[.int .u64 q] 41)
  have b5 := ((Boxed.new (((((w.alloc (.cells #[.int .u32 a] 32)).alloc (.cells #[.int .i64 n] 3)).alloc (.cells #[.int .i64 0] 3)).alloc (.cells #[.int .u32 0] 32)).alloc (.cells #[.int .u64 0] 41)) 28 (.slice A0 l.length c0)).alloc (.cells #[.slice A1 b.length c1] 50)).alloc (.cells #[.int .u64 q] 41)
  have b6 := (Boxed.new ((((((w.alloc (.cells #[.int .u32 a] 32)).alloc (.cells #[.int .i64 n] 3)).alloc (.cells #[.int .i64 0] 3)).alloc (.cells #[.int .u32 0] 32)).alloc (.cells #[.int .u64 0] 41)).alloc (.cells #[.slice A0 l.length c0] 28)) 50 (.slice A1 b.length c1)).alloc (.cells #[.int .u64 q] 41)
  have b7 := Boxed.new (((((((w.alloc (.cells #[.int .u32 a] 32)).alloc (.cells #[.int .i64 n] 3)).alloc (.cells #[.int .i64 0] 3)).alloc (.cells #[.int .u32 0] 32)).alloc (.cells #[.int .u64 0] 41)).alloc (.cells #[.slice A0 l.length c0] 28)).alloc (.cells #[.slice A1 b.length c1] 50)) 41 (.int .u64 q)
  simp only [World.size_alloc] at b1 b2 b3 b4 b5 b6 b7
  have hB0 : Below w.heap.size w ((((((((w.alloc (.cells #[.int .u32 a] 32)).alloc (.cells #[.int .i64 n] 3)).alloc (.cells #[.int .i64 0] 3)).alloc (.cells #[.int .u32 0] 32)).alloc (.cells #[.int .u64 0] 41)).alloc (.cells #[.slice A0 l.length c0] 28)).alloc (.cells #[.slice A1 b.length c1] 50)).alloc (.cells #[.int .u64 q] 41)) := by repeat (first | exact Below.refl _ _ | apply below_alloc)
  have hsz : (((((((((w.alloc (.cells #[.int .u32 a] 32)).alloc (.cells #[.int .i64 n] 3)).alloc (.cells #[.int .i64 0] 3)).alloc (.cells #[.int .u32 0] 32)).alloc (.cells #[.int .u64 0] 41)).alloc (.cells #[.slice A0 l.length c0] 28)).alloc (.cells #[.slice A1 b.length c1] 50)).alloc (.cells #[.int .u64 q] 41))).heap.size = w.heap.size + 8 := by simp
  obtain ⟨W0, hW0⟩ : ∃ W0, ((((((((w.alloc (.cells #[.int .u32 a] 32)).alloc (.cells #[.int .i64 n] 3)).alloc (.cells #[.int .i64 0] 3)).alloc (.cells #[.int .u32 0] 32)).alloc (.cells #[.int .u64 0] 41)).alloc (.cells #[.slice A0 l.length c0] 28)).alloc (.cells #[.slice A1 b.length c1] 50)).alloc (.cells #[.int .u64 q] 41)) = W0 := ⟨_, rfl⟩
  rw [hW0] at b0 b1 b2 b3 b4 b5 b6 b7 hB0 hsz ⊢
  clear hW0
  refine wpIn_rangeFunc_ownH rfl (by decide : 1 ≤ 3) (gf := 40) (lb := #[.pointer (some ⟨w.heap.size + 1 + 1 + 1 + 1 + 1, 0, none⟩), .pointer (some ⟨w.heap.size + 1 + 1 + 1 + 1 + 1 + 1 + 1, 0, none⟩), .pointer (some ⟨w.heap.size + 1 + 1 + 1 + 1 + 1 + 1, 0, none⟩)]) rfl trivial (enters_of Try.func40 (by kernel_rfl) rfl)
    (older_stops Fence.wide 2 trivial rfl (by decide) W0 (w.heap.size + 1 + 1 + 1 + 1 + 1) (w.heap.size + 1 + 1 + 1 + 1 + 1 + 1 + 1) (w.heap.size + 1 + 1 + 1 + 1 + 1 + 1) A0 A1 c0 c1 l b q b5.cell b7.cell b6.cell b5.lt b7.lt b6.lt (Kd.C_below h37 hB0) (Kd.C_below h48 hB0) m0 m1) belowK_t (belowK_b (Nat.le_refl _)) (Below.refl _ _) (fun _ => rfl)
    (fun pre W => (∀ y ∈ pre, ovB a n y.a y.n = false) ∧ Boxed W (w.heap.size) 32 (.int .u32 a) ∧ Boxed W (w.heap.size + 1) 3 (.int .i64 n) ∧ Boxed W (w.heap.size + 1 + 1) 3 (.int .i64 0) ∧ Boxed W (w.heap.size + 1 + 1 + 1) 32 (.int .u32 0) ∧ Boxed W (w.heap.size + 1 + 1 + 1 + 1) 41 (.int .u64 0) ∧ Below W0.heap.size W0 W)
    (fun c pre W => (c = .ret ∧ ∃ ini x, pre = ini ++ [x] ∧ (∀ y ∈ ini, ovB a n y.a y.n = false) ∧ ovB a n x.a x.n = true ∧ Boxed W (w.heap.size + 1 + 1) 3 (.int .i64 (hitX a n x).1) ∧ Boxed W (w.heap.size + 1 + 1 + 1) 32 (.int .u32 (hitX a n x).2.1) ∧ Boxed W (w.heap.size + 1 + 1 + 1 + 1) 41 (.int .u64 (hitX a n x).2.2)) ∧ Below w.heap.size w W)
    (OwnFrom.and (ownFrom_pure _ (fun pre : List SX => ∀ y ∈ pre, ovB a n y.a y.n = false)) (OwnFrom.and (Own.from (boxed_own _ _ _) _) (OwnFrom.and (Own.from (boxed_own _ _ _) _) (OwnFrom.and (Own.from (boxed_own _ _ _) _) (OwnFrom.and (Own.from (boxed_own _ _ _) _) (OwnFrom.and (Own.from (boxed_own _ _ _) _) (ownFrom_below (Nat.le_refl _) (Nat.le_refl _))))))))
    (fun c => OwnFrom.and (Own.from (fun s X Y row hs hg hr => by
      obtain ⟨hc, ini, x, e1, e2, e3, r2, r3, r4⟩ := hs
      exact ⟨hc, ini, x, e1, e2, e3, boxed_own _ 3 (fun _ : Unit => _) () X Y row r2 hg hr, boxed_own _ 32 (fun _ : Unit => _) () X Y row r3 hg hr, boxed_own _ 41 (fun _ : Unit => _) () X Y row r4 hg hr⟩) _) (ownFrom_below (Nat.le_refl _) (by omega)))
    ⟨by simp, b0, b1, b2, b3, b4, Below.refl _ _⟩
    (fun x a' W => ∃ Bx, W0.heap.size ≤ Bx ∧ W.heap[Bx]? = some (.cells #[.int .u32 x.a, .int .u32 x.d, .int .i64 x.n, .int .u64 x.q] 85 (0, 0)) ∧ a' = { tmps := #[.slice A0 l.length c0, .slice A1 b.length c1, .int .u64 q, .int .u32 a, .int .i64 n, undef, undef, undef, .pointer (some ⟨w.heap.size, 0, none⟩), .pointer (some ⟨w.heap.size + 1, 0, none⟩), .pointer (some ⟨w.heap.size + 1 + 1, 0, none⟩), .pointer (some ⟨w.heap.size + 1 + 1 + 1, 0, none⟩), .pointer (some ⟨w.heap.size + 1 + 1 + 1 + 1, 0, none⟩), .pointer (some ⟨Bx, 0, none⟩), .slice A0 l.length c0, .slice A1 b.length c1, .int .u64 q, .func (.func 40) #[] #[.pointer (some ⟨w.heap.size + 1 + 1 + 1 + 1 + 1, 0, none⟩), .pointer (some ⟨w.heap.size + 1 + 1 + 1 + 1 + 1 + 1 + 1, 0, none⟩), .pointer (some ⟨w.heap.size + 1 + 1 + 1 + 1 + 1 + 1, 0, none⟩)], .agg #[.int .u32 x.a, .int .u32 x.d, .int .i64 x.n, .int .u64 x.q], undef, undef, undef, undef, undef, undef, undef, undef, undef, undef, undef, undef, undef, undef, undef, undef, undef, undef, undef, undef, undef, undef, undef, undef, undef, undef], defers := [] })
    (fun x a' _ X Y row hs hg hr => by
      obtain ⟨Bx, h1, h2, h3⟩ := hs
      refine ⟨Bx, h1, (hg.block Bx (Array.getElem?_eq_some_iff.1 h2).1 (fun e' => ?_)).trans h2, h3⟩
      obtain ⟨_, o, ho, hc⟩ := hr Bx e'.symm
      rw [h2] at ho
      cases ho
      cases hc)
    ?assign ?body ?done ?stop
  case assign =>
    rintro lk pre x W K ⟨hpre, k0, k1, k2, k3, k4, hBW⟩ hK
    dsimp only [encX]
    gi_wp2
    have hbA : Below W.heap.size W (W.alloc (.cells #[.int .u32 x.a, .int .u32 x.d, .int .i64 x.n, .int .u64 x.q] 85)) := below_alloc (Below.refl _ _) _
    exact hK _ _ (keepsFrom_below hbA) (hbA.mono hBW.size) ⟨hpre, boxed_below k0 hbA, boxed_below k1 hbA, boxed_below k2 hbA, boxed_below k3 hbA, boxed_below k4 hbA, hBW.trans (hbA.mono hBW.size)⟩ ⟨W.heap.size, hBW.size, blk_new _ _, rfl⟩
  case body =>
    rintro lk pre x a' W hlk hrec ⟨hpre, k0, k1, k2, k3, k4, hBW⟩ ⟨Bx, hBx, bX, rfl⟩ hlt
    have x0 : W.cell? ⟨Bx, 0, none⟩ = some (.int .u32 x.a) := (blk_cell bX 0).trans rfl
    have x1 : W.cell? ⟨Bx, 1, none⟩ = some (.int .u32 x.d) := (blk_cell bX 1).trans rfl
    have x2 : W.cell? ⟨Bx, 2, none⟩ = some (.int .i64 x.n) := (blk_cell bX 2).trans rfl
    have x3 : W.cell? ⟨Bx, 3, none⟩ = some (.int .u64 x.q) := (blk_cell bX 3).trans rfl
    have y0 := k0.cell
    have y1 := k1.cell
    have ltX : Bx < W.heap.size := (Array.getElem?_eq_some_iff.1 bX).1
    have lt0 := k0.lt
    have lt1 := k1.lt
    have hsW := hBW.size
    cases hov : ovB a n x.a x.n with
    | false =>
      have HO := Aside0.mk hov
      clear hov
      gi_wp2_with (first | (refine ⟨trivial, ?_⟩; gi_at_call 31; refine (CallsIn.inRound lk (callsIn_wide.2 (sq_Overlap.calls a n x.a x.n false _ (by rw [ov_is, HO.out])))).mono ?_; rintro e w1 ⟨rfl, hb1⟩; replace x0 := (hb1.cell (p := ⟨Bx, 0, none⟩) ltX).trans x0; replace x1 := (hb1.cell (p := ⟨Bx, 1, none⟩) ltX).trans x1; replace x2 := (hb1.cell (p := ⟨Bx, 2, none⟩) ltX).trans x2; replace x3 := (hb1.cell (p := ⟨Bx, 3, none⟩) ltX).trans x3; replace y0 := (hb1.cell (p := ⟨w.heap.size, 0, none⟩) lt0).trans y0; replace y1 := (hb1.cell (p := ⟨w.heap.size + 1, 0, none⟩) lt1).trans y1))
      exact ⟨keepsFrom_below hb1, hb1.mono hsW, fun y hy => (List.mem_append.1 hy).elim (hpre y) (fun e => by simp at e; subst e; exact HO.out), boxed_below k0 hb1, boxed_below k1 hb1, boxed_below k2 hb1, boxed_below k3 hb1, boxed_below k4 hb1, hBW.trans (hb1.mono hsW)⟩
    | true =>
      have HO := Aside0.mk hov
      clear hov
      cases hcv : covB a n x.a x.n with
      | true =>
        have HC := Aside0.mk hcv
        clear hcv
        gi_wp2_with (first | (refine ⟨trivial, ?_⟩; gi_at_call 31; refine (CallsIn.inRound lk (callsIn_wide.2 (sq_Overlap.calls a n x.a x.n true _ (by rw [ov_is, HO.out])))).mono ?_; rintro e w1 ⟨rfl, hb1⟩; replace x0 := (hb1.cell (p := ⟨Bx, 0, none⟩) ltX).trans x0; replace x1 := (hb1.cell (p := ⟨Bx, 1, none⟩) ltX).trans x1; replace x2 := (hb1.cell (p := ⟨Bx, 2, none⟩) ltX).trans x2; replace x3 := (hb1.cell (p := ⟨Bx, 3, none⟩) ltX).trans x3; replace y0 := (hb1.cell (p := ⟨w.heap.size, 0, none⟩) lt0).trans y0; replace y1 := (hb1.cell (p := ⟨w.heap.size + 1, 0, none⟩) lt1).trans y1) | (refine ⟨trivial, ?_⟩; gi_at_call 32; refine (CallsIn.inRound lk (callsIn_wide.2 (cov_calls a n x.a x.n true _ HC.out))).mono ?_; rintro e w2 ⟨rfl, hb2⟩; replace x0 := (hb2.cell (p := ⟨Bx, 0, none⟩) (Nat.lt_of_lt_of_le ltX hb1.size)).trans x0; replace x1 := (hb2.cell (p := ⟨Bx, 1, none⟩) (Nat.lt_of_lt_of_le ltX hb1.size)).trans x1; replace x2 := (hb2.cell (p := ⟨Bx, 2, none⟩) (Nat.lt_of_lt_of_le ltX hb1.size)).trans x2; replace x3 := (hb2.cell (p := ⟨Bx, 3, none⟩) (Nat.lt_of_lt_of_le ltX hb1.size)).trans x3; replace y0 := (hb2.cell (p := ⟨w.heap.size, 0, none⟩) (Nat.lt_of_lt_of_le lt0 hb1.size)).trans y0; replace y1 := (hb2.cell (p := ⟨w.heap.size + 1, 0, none⟩) (Nat.lt_of_lt_of_le lt1 hb1.size)).trans y1))
        refine wpIn_region_held (C5 (w.heap.size) (w.heap.size + 1) Bx x a n) (by kernel_rfl) ?_
        have T : C5 (w.heap.size) (w.heap.size + 1) Bx x a n w2.drew := ⟨x0, x1, x2, x3, y0, y1⟩
        have hbd : Below w2.heap.size w2 w2.drew := below_drew (Below.refl _ _)
        obtain ⟨w3, e3⟩ : ∃ w3, w2.drew = w3 := ⟨_, rfl⟩
        rw [e3] at T hbd ⊢
        clear e3
        refine hIn_take 0 rfl (by kernel_rfl) (fun c e => by cases e) (by kernel_rfl) (by kernel_rfl) (by kernel_rfl) (fun _ _ _ h => h) (by rfl) (fun W' hS => by first | (go_simp; done) | (go_simp; rfl)) T ?_
        (try simp only [Act.put, List.setIfInBounds_toArray, List.set_cons_zero, List.set_cons_succ])
        refine hIn_take 1 rfl (by kernel_rfl) (fun c e => by cases e) (by kernel_rfl) (by kernel_rfl) (by kernel_rfl) (fun _ _ _ h => h) (by rfl) (fun W' hS => exec_load_cell 32 _ rfl (Bx) 1 rfl (.int .u32 x.d) _ hS.x1 Try.underlying32 rfl) T ?_
        (try simp only [Act.put, List.setIfInBounds_toArray, List.set_cons_zero, List.set_cons_succ])
        refine hIn_take 2 rfl (by kernel_rfl) (fun c e => by cases e) (by kernel_rfl) (by kernel_rfl) (by kernel_rfl) (fun _ _ _ h => h) (by rfl) (fun W' hS => by first | (go_simp; done) | (go_simp; rfl)) T ?_
        (try simp only [Act.put, List.setIfInBounds_toArray, List.set_cons_zero, List.set_cons_succ])
        refine hIn_take 3 rfl (by kernel_rfl) (fun c e => by cases e) (by kernel_rfl) (by kernel_rfl) (by kernel_rfl) (fun _ _ _ h => h) (by rfl) (fun W' hS => exec_load_cell 32 _ rfl (Bx) 0 rfl (.int .u32 x.a) _ hS.x0 Try.underlying32 rfl) T ?_
        (try simp only [Act.put, List.setIfInBounds_toArray, List.set_cons_zero, List.set_cons_succ])
        refine hIn_take 4 rfl (by kernel_rfl) (fun c e => by cases e) (by kernel_rfl) (by kernel_rfl) (by kernel_rfl) (fun _ _ _ h => h) (by rfl) (fun W' hS => exec_load_cell 32 _ rfl (w.heap.size) 0 rfl (.int .u32 a) _ hS.y0 Try.underlying32 rfl) T ?_
        (try simp only [Act.put, List.setIfInBounds_toArray, List.set_cons_zero, List.set_cons_succ])
        refine hIn_take 5 rfl (by kernel_rfl) (fun c e => by cases e) (by kernel_rfl) (by kernel_rfl) (by kernel_rfl) (fun _ _ _ h => h) (by rfl) (fun W' hS => exec_load_cell 3 _ rfl (w.heap.size + 1) 0 rfl (.int .i64 n) _ hS.y1 Try.underlying3 rfl) T ?_
        (try simp only [Act.put, List.setIfInBounds_toArray, List.set_cons_zero, List.set_cons_succ])
        refine hIn_take 7 rfl (by kernel_rfl) (fun c e => by cases e) (by kernel_rfl) (by kernel_rfl) (by kernel_rfl) (fun _ _ _ h => h) (by rfl) (fun W' hS => by first | (go_simp; done) | (go_simp; rfl)) T ?_
        (try simp only [Act.put, List.setIfInBounds_toArray, List.set_cons_zero, List.set_cons_succ])
        refine hIn_take 8 rfl (by kernel_rfl) (fun c e => by cases e) (by kernel_rfl) (by kernel_rfl) (by kernel_rfl) (fun _ _ _ h => h) (by rfl) (fun W' hS => exec_load_cell 41 _ rfl (Bx) 3 rfl (.int .u64 x.q) _ hS.x3 Try.underlying41 rfl) T ?_
        (try simp only [Act.put, List.setIfInBounds_toArray, List.set_cons_zero, List.set_cons_succ])
        refine hIn_call 6 rfl (by kernel_rfl) (fun _ => trivial) (fun h => by cases h) (by kernel_rfl) (by rfl) (f := 33) (args := #[.int .u32 x.d, .int .u32 x.a, .int .u32 a, .int .i64 n]) (by first | (go_simp; done) | (go_simp; rfl)) (CallsIn.inRound lk (callsIn_wide.2 (fwd_Cut.calls x.d x.a a n (cutW x.d x.a a n) _ (cut_is _ _ _ _)))) ?_
        rintro e w4 ⟨rfl, hb4⟩
        refine ⟨_, rfl, T.below hb4, ?_⟩
        (try simp only [Act.put, List.setIfInBounds_toArray, List.set_cons_zero, List.set_cons_succ])
        replace T := T.below hb4
        have hb13 := hb1.trans ((hb2.mono hb1.size).trans ((hbd.mono (Nat.le_trans hb1.size hb2.size)).trans (hb4.mono (Nat.le_trans (Nat.le_trans hb1.size hb2.size) hbd.size))))
        have k2' := boxed_below k2 hb13
        have k3' := boxed_below k3 hb13
        have k4' := boxed_below k4 hb13
        have p2 := k2'.cell
        have p3 := k3'.cell
        have p4 := k4'.cell
        have f2 := k2'.frozen
        have f3 := k3'.frozen
        have f4 := k4'.frozen
        refine hIn_store 9 rfl (by kernel_rfl) (fun c e => by cases e) (by kernel_rfl) (by rfl) (w1 := World.setCell _ ⟨w.heap.size + 1 + 1, 0, none⟩ (.int .i64 (1))) (by first | (go_simp; done) | (go_simp; rfl)) (T.set _ (by omega) (by omega) (by omega) _) ?_
        replace T := T.set (w.heap.size + 1 + 1) (by omega) (by omega) (by omega) (.int .i64 (1))
        (try simp only [Act.put, List.setIfInBounds_toArray, List.set_cons_zero, List.set_cons_succ])
        refine hIn_store 10 rfl (by kernel_rfl) (fun c e => by cases e) (by kernel_rfl) (by rfl) (w1 := World.setCell _ ⟨w.heap.size + 1 + 1 + 1, 0, none⟩ (.int .u32 (cutW x.d x.a a n))) (by first | (go_simp; done) | (go_simp; rfl)) (T.set _ (by omega) (by omega) (by omega) _) ?_
        replace T := T.set (w.heap.size + 1 + 1 + 1) (by omega) (by omega) (by omega) (.int .u32 (cutW x.d x.a a n))
        (try simp only [Act.put, List.setIfInBounds_toArray, List.set_cons_zero, List.set_cons_succ])
        refine hIn_store 11 rfl (by kernel_rfl) (fun c e => by cases e) (by kernel_rfl) (by rfl) (w1 := World.setCell _ ⟨w.heap.size + 1 + 1 + 1 + 1, 0, none⟩ (.int .u64 (x.q))) (by first | (go_simp; done) | (go_simp; rfl)) (T.set _ (by omega) (by omega) (by omega) _) ?_
        replace T := T.set (w.heap.size + 1 + 1 + 1 + 1) (by omega) (by omega) (by omega) (.int .u64 (x.q))
        (try simp only [Act.put, List.setIfInBounds_toArray, List.set_cons_zero, List.set_cons_succ])
        refine hIn_done (by kernel_rfl) ?_ _
        gi_wp2
        have hBw := (hB0.trans (hBW.mono hB0.size)).trans (hb13.mono (Nat.le_trans hB0.size hsW))
        have hh : hitX a n x = (1, cutW x.d x.a a n, x.q) := by unfold hitX; rw [HC.out]; rfl
        refine ⟨(keepsFrom_below hb13).trans ((((KeepsOthers.setCell _ ⟨w.heap.size + 1 + 1, 0, none⟩ (.int .i64 (1))).trans (KeepsOthers.setCell _ ⟨w.heap.size + 1 + 1 + 1, 0, none⟩ (.int .u32 (cutW x.d x.a a n)))).trans (KeepsOthers.setCell _ ⟨w.heap.size + 1 + 1 + 1 + 1, 0, none⟩ (.int .u64 (x.q)))).from _), ⟨rfl, pre, x, rfl, hpre, HO.out, ?_, ?_, ?_⟩, ((hBw.setCell (p := ⟨w.heap.size + 1 + 1, 0, none⟩) (by simp; omega) _).setCell (p := ⟨w.heap.size + 1 + 1 + 1, 0, none⟩) (by simp; omega) _).setCell (p := ⟨w.heap.size + 1 + 1 + 1 + 1, 0, none⟩) (by simp; omega) _⟩
        · rw [hh]
          exact ((k2'.set (.int .i64 (1))).other (B' := w.heap.size + 1 + 1 + 1) (by omega) (.int .u32 (cutW x.d x.a a n))).other (B' := w.heap.size + 1 + 1 + 1 + 1) (by omega) (.int .u64 (x.q))
        · rw [hh]
          exact ((k3'.other (B' := w.heap.size + 1 + 1) (by omega) (.int .i64 (1))).set (.int .u32 (cutW x.d x.a a n))).other (B' := w.heap.size + 1 + 1 + 1 + 1) (by omega) (.int .u64 (x.q))
        · rw [hh]
          exact ((k4'.other (B' := w.heap.size + 1 + 1) (by omega) (.int .i64 (1))).other (B' := w.heap.size + 1 + 1 + 1) (by omega) (.int .u32 (cutW x.d x.a a n))).set (.int .u64 (x.q))
      | false =>
        have HC := Aside0.mk hcv
        clear hcv
        gi_wp2_with (first | (refine ⟨trivial, ?_⟩; gi_at_call 31; refine (CallsIn.inRound lk (callsIn_wide.2 (sq_Overlap.calls a n x.a x.n true _ (by rw [ov_is, HO.out])))).mono ?_; rintro e w1 ⟨rfl, hb1⟩; replace x0 := (hb1.cell (p := ⟨Bx, 0, none⟩) ltX).trans x0; replace x1 := (hb1.cell (p := ⟨Bx, 1, none⟩) ltX).trans x1; replace x2 := (hb1.cell (p := ⟨Bx, 2, none⟩) ltX).trans x2; replace x3 := (hb1.cell (p := ⟨Bx, 3, none⟩) ltX).trans x3; replace y0 := (hb1.cell (p := ⟨w.heap.size, 0, none⟩) lt0).trans y0; replace y1 := (hb1.cell (p := ⟨w.heap.size + 1, 0, none⟩) lt1).trans y1) | (refine ⟨trivial, ?_⟩; gi_at_call 32; refine (CallsIn.inRound lk (callsIn_wide.2 (cov_calls a n x.a x.n false _ HC.out))).mono ?_; rintro e w2 ⟨rfl, hb2⟩; replace x0 := (hb2.cell (p := ⟨Bx, 0, none⟩) (Nat.lt_of_lt_of_le ltX hb1.size)).trans x0; replace x1 := (hb2.cell (p := ⟨Bx, 1, none⟩) (Nat.lt_of_lt_of_le ltX hb1.size)).trans x1; replace x2 := (hb2.cell (p := ⟨Bx, 2, none⟩) (Nat.lt_of_lt_of_le ltX hb1.size)).trans x2; replace x3 := (hb2.cell (p := ⟨Bx, 3, none⟩) (Nat.lt_of_lt_of_le ltX hb1.size)).trans x3; replace y0 := (hb2.cell (p := ⟨w.heap.size, 0, none⟩) (Nat.lt_of_lt_of_le lt0 hb1.size)).trans y0; replace y1 := (hb2.cell (p := ⟨w.heap.size + 1, 0, none⟩) (Nat.lt_of_lt_of_le lt1 hb1.size)).trans y1))
        refine wpIn_region_held (C5 (w.heap.size) (w.heap.size + 1) Bx x a n) (by kernel_rfl) ?_
        have T : C5 (w.heap.size) (w.heap.size + 1) Bx x a n w2.drew := ⟨x0, x1, x2, x3, y0, y1⟩
        have hbd : Below w2.heap.size w2 w2.drew := below_drew (Below.refl _ _)
        obtain ⟨w3, e3⟩ : ∃ w3, w2.drew = w3 := ⟨_, rfl⟩
        rw [e3] at T hbd ⊢
        clear e3
        have hb13 := hb1.trans ((hb2.mono hb1.size).trans (hbd.mono (Nat.le_trans hb1.size hb2.size)))
        have k2' := boxed_below k2 hb13
        have k3' := boxed_below k3 hb13
        have k4' := boxed_below k4 hb13
        have p2 := k2'.cell
        have p3 := k3'.cell
        have p4 := k4'.cell
        have f2 := k2'.frozen
        have f3 := k3'.frozen
        have f4 := k4'.frozen
        refine hIn_take 0 rfl (by kernel_rfl) (fun c e => by cases e) (by kernel_rfl) (by kernel_rfl) (by kernel_rfl) (fun _ _ _ h => h) (by rfl) (fun W' hS => by first | (go_simp; done) | (go_simp; rfl)) T ?_
        (try simp only [Act.put, List.setIfInBounds_toArray, List.set_cons_zero, List.set_cons_succ])
        refine hIn_take 1 rfl (by kernel_rfl) (fun c e => by cases e) (by kernel_rfl) (by kernel_rfl) (by kernel_rfl) (fun _ _ _ h => h) (by rfl) (fun W' hS => exec_load_cell 41 _ rfl (Bx) 3 rfl (.int .u64 x.q) _ hS.x3 Try.underlying41 rfl) T ?_
        (try simp only [Act.put, List.setIfInBounds_toArray, List.set_cons_zero, List.set_cons_succ])
        refine hIn_store 2 rfl (by kernel_rfl) (fun c e => by cases e) (by kernel_rfl) (by rfl) (w1 := World.setCell _ ⟨w.heap.size + 1 + 1, 0, none⟩ (.int .i64 (2))) (by first | (go_simp; done) | (go_simp; rfl)) (T.set _ (by omega) (by omega) (by omega) _) ?_
        replace T := T.set (w.heap.size + 1 + 1) (by omega) (by omega) (by omega) (.int .i64 (2))
        (try simp only [Act.put, List.setIfInBounds_toArray, List.set_cons_zero, List.set_cons_succ])
        refine hIn_store 3 rfl (by kernel_rfl) (fun c e => by cases e) (by kernel_rfl) (by rfl) (w1 := World.setCell _ ⟨w.heap.size + 1 + 1 + 1, 0, none⟩ (.int .u32 (0))) (by first | (go_simp; done) | (go_simp; rfl)) (T.set _ (by omega) (by omega) (by omega) _) ?_
        replace T := T.set (w.heap.size + 1 + 1 + 1) (by omega) (by omega) (by omega) (.int .u32 (0))
        (try simp only [Act.put, List.setIfInBounds_toArray, List.set_cons_zero, List.set_cons_succ])
        refine hIn_store 4 rfl (by kernel_rfl) (fun c e => by cases e) (by kernel_rfl) (by rfl) (w1 := World.setCell _ ⟨w.heap.size + 1 + 1 + 1 + 1, 0, none⟩ (.int .u64 (x.q))) (by first | (go_simp; done) | (go_simp; rfl)) (T.set _ (by omega) (by omega) (by omega) _) ?_
        replace T := T.set (w.heap.size + 1 + 1 + 1 + 1) (by omega) (by omega) (by omega) (.int .u64 (x.q))
        (try simp only [Act.put, List.setIfInBounds_toArray, List.set_cons_zero, List.set_cons_succ])
        refine hIn_done (by kernel_rfl) ?_ _
        gi_wp2
        have hBw := (hB0.trans (hBW.mono hB0.size)).trans (hb13.mono (Nat.le_trans hB0.size hsW))
        have hh : hitX a n x = (2, 0, x.q) := by unfold hitX; rw [HC.out]; rfl
        refine ⟨(keepsFrom_below hb13).trans ((((KeepsOthers.setCell _ ⟨w.heap.size + 1 + 1, 0, none⟩ (.int .i64 (2))).trans (KeepsOthers.setCell _ ⟨w.heap.size + 1 + 1 + 1, 0, none⟩ (.int .u32 (0)))).trans (KeepsOthers.setCell _ ⟨w.heap.size + 1 + 1 + 1 + 1, 0, none⟩ (.int .u64 (x.q)))).from _), ⟨rfl, pre, x, rfl, hpre, HO.out, ?_, ?_, ?_⟩, ((hBw.setCell (p := ⟨w.heap.size + 1 + 1, 0, none⟩) (by simp; omega) _).setCell (p := ⟨w.heap.size + 1 + 1 + 1, 0, none⟩) (by simp; omega) _).setCell (p := ⟨w.heap.size + 1 + 1 + 1 + 1, 0, none⟩) (by simp; omega) _⟩
        · rw [hh]
          exact ((k2'.set (.int .i64 (2))).other (B' := w.heap.size + 1 + 1 + 1) (by omega) (.int .u32 (0))).other (B' := w.heap.size + 1 + 1 + 1 + 1) (by omega) (.int .u64 (x.q))
        · rw [hh]
          exact ((k3'.other (B' := w.heap.size + 1 + 1) (by omega) (.int .i64 (2))).set (.int .u32 (0))).other (B' := w.heap.size + 1 + 1 + 1 + 1) (by omega) (.int .u64 (x.q))
        · rw [hh]
          exact ((k4'.other (B' := w.heap.size + 1 + 1) (by omega) (.int .i64 (2))).other (B' := w.heap.size + 1 + 1 + 1) (by omega) (.int .u32 (0))).set (.int .u64 (x.q))
  case done =>
    rintro D ys W hD rfl ⟨hpre, k0, k1, k2, k3, k4, hBW⟩ hK
    have p2 := k2.cell
    have p3 := k3.cell
    have p4 := k4.cell
    have f2 := k2.frozen
    have f3 := k3.frozen
    have f4 := k4.frozen
    gi_wp2
    have z2 := ((k2.set (.int .i64 0)).other (B' := w.heap.size + 1 + 1 + 1) (by omega) (.int .u32 0)).other (B' := w.heap.size + 1 + 1 + 1 + 1) (by omega) (.int .u64 0)
    have z3 := ((k3.other (B' := w.heap.size + 1 + 1) (by omega) (.int .i64 0)).set (.int .u32 0)).other (B' := w.heap.size + 1 + 1 + 1 + 1) (by omega) (.int .u64 0)
    have z4 := ((k4.other (B' := w.heap.size + 1 + 1) (by omega) (.int .i64 0)).other (B' := w.heap.size + 1 + 1 + 1) (by omega) (.int .u32 0)).set (.int .u64 0)
    have hK' := (((KeepsOthers.setCell W ⟨w.heap.size + 1 + 1, 0, none⟩ (.int .i64 0)).trans (KeepsOthers.setCell _ ⟨w.heap.size + 1 + 1 + 1, 0, none⟩ (.int .u32 0))).trans (KeepsOthers.setCell _ ⟨w.heap.size + 1 + 1 + 1 + 1, 0, none⟩ (.int .u64 0))).same D _ hK rfl
    refine ⟨by simp, .inl ⟨_, _, rfl, run_takeDeferred hK', ?_⟩⟩
    have q2 := cell_kept z2.cell (grownBy_putObj' _ D (.deferred none)) (fun r e => by cases e; exact ⟨_, hK', rfl⟩)
    have q3 := cell_kept z3.cell (grownBy_putObj' _ D (.deferred none)) (fun r e => by cases e; exact ⟨_, hK', rfl⟩)
    have q4 := cell_kept z4.cell (grownBy_putObj' _ D (.deferred none)) (fun r e => by cases e; exact ⟨_, hK', rfl⟩)
    refine ⟨.tuple #[.int .i64 0, .int .u32 0, .int .u64 0], ?_, by rw [findX_none hpre], ?_⟩
    · simp [results, Try.f14, go_sem, q2, q3, q4]
    · have hBw := hB0.trans (hBW.mono hB0.size)
      exact (((hBw.setCell (p := ⟨w.heap.size + 1 + 1, 0, none⟩) (by simp; omega) _).setCell (p := ⟨w.heap.size + 1 + 1 + 1, 0, none⟩) (by simp; omega) _).setCell (p := ⟨w.heap.size + 1 + 1 + 1 + 1, 0, none⟩) (by simp; omega) _).trans (belowK_b (w := w) (Nat.le_refl _) _ D _ _ (by omega) hK' rfl rfl)
  case stop =>
    rintro D c pre W hD ⟨tl, htl⟩ ⟨⟨rfl, ini, x, e1, e2, e3, r2, r3, r4⟩, hBw⟩ hK
    gi_wp2
    refine ⟨by simp, .inl ⟨_, _, rfl, run_takeDeferred hK, ?_⟩⟩
    have q2 := cell_kept r2.cell (grownBy_putObj' _ D (.deferred none)) (fun r e => by cases e; exact ⟨_, hK, rfl⟩)
    have q3 := cell_kept r3.cell (grownBy_putObj' _ D (.deferred none)) (fun r e => by cases e; exact ⟨_, hK, rfl⟩)
    have q4 := cell_kept r4.cell (grownBy_putObj' _ D (.deferred none)) (fun r e => by cases e; exact ⟨_, hK, rfl⟩)
    have ef : findX a n (old q l b) = hitX a n x := by rw [← htl, e1, List.append_assoc]; exact findX_hit e3 e2
    refine ⟨.tuple #[.int .i64 (hitX a n x).1, .int .u32 (hitX a n x).2.1, .int .u64 (hitX a n x).2.2], ?_, by rw [ef], hBw.trans (belowK_b (w := w) (Nat.le_refl _) W D _ _ (by omega) hK rfl rfl)⟩
    simp [results, Try.f14, go_sem, q2, q3, q4]
end Go.Proofs.Ytmpnnppgppoliaa.PFwd
