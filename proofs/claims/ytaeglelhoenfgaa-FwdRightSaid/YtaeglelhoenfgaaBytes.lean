/- What fwd.Bytes comes to: for each byte the first of the older stores, the youngest first, that has it, or the memory's. The conditions are those that each theorem names. -/
import Derived.Test.YtaeglelhoenfgaaPFwdx2
import Derived.Test.YtaeglelhoenfgaaBits
import Derived.OwnWalkIn
import Derived.LoopNIn
import Derived.Test.YtaeglelhoenfgaaFind
namespace Go.Proofs.Ytaeglelhoenfgaa.PFwd
open Go Go.Proofs Go.RowKit Go.Shelf Go.Proofs.YtaeglelhoenfgaaW.PrintWords Go.Proofs.YtaeglelhoenfgaaW.PrintLast Go.Proofs.YtaeglelhoenfgaaW.PrintMore Go.Proofs.Ytaeglelhoenfgaa.TailIn
set_option linter.unusedVariables false
set_option linter.unusedSimpArgs false
attribute [local go_sem] Oper.semAt_some
def byB (at_ : Int) (x : SX) : Bool := decide ((at_ - x.a) % 4294967296 < mn (mx x.n 0) 4)
def byV (at_ : Int) (x : SX) : Int := x.d / 2 ^ (8 * ((at_ - x.a) % 4294967296)).toNat % 256
def byteX (at_ v : Int) : List SX → Int
  | [] => v
  | x :: r => if byB at_ x = true then byV at_ x else byteX at_ v r
theorem byteX_none {at_ v : Int} : ∀ {l : List SX}, (∀ x ∈ l, byB at_ x = false) → byteX at_ v l = v := by
  intro l
  induction l with
  | nil => intro _; rfl
  | cons y l ih =>
    intro h
    show (if byB at_ y = true then _ else _) = v
    rw [if_neg (by rw [h y (by simp)]; decide)]
    exact ih fun z hz => h z (by simp [hz])
theorem byteX_hit {at_ v : Int} {x : SX} {r : List SX} : ∀ {l : List SX}, (∀ y ∈ l, byB at_ y = false) → byB at_ x = true → byteX at_ v (l ++ x :: r) = byV at_ x := by
  intro l
  induction l with
  | nil => intro _ hx; show (if byB at_ x = true then _ else _) = _; rw [if_pos hx]
  | cons y l ih =>
    intro h hx
    show (if byB at_ y = true then _ else _) = _
    rw [if_neg (by rw [h y (by simp)]; decide)]
    exact ih (fun z hz => h z (by simp [hz])) hx
def memX (m : List Int) (at_ : Int) : Int := if at_ < (m.length : Int) then rd m at_ else 0
def byteK (l : List S37) (b : List S48) (m : List Int) (q a : Int) (k : Nat) : Int := byteX ((a + k) % 4294967296) (memX m ((a + k) % 4294967296)) (old q l b)
def bytesX (l : List S37) (b : List S48) (m : List Int) (q a : Int) (k : Nat) : List Int := (List.range k).map (byteK l b m q a)
theorem putObj_far {W : World} {D k : Nat} {o : Obj} (h : k ≠ D) (hl : k < W.heap.size) : (W.putObj D o).heap[k]? = W.heap[k]? := (grownBy_putObj' W D o).block k hl (fun e => h (by cases e; rfl))
def mark (D : Nat) : Deferred := { target := .collected D, args := #[] }
/-- append(out, v) for bytes, inside a fence. -/
theorem app_u8 {F : Fence} {n : Nat} {ops : Array Oper} {rest : List Oper} {o : Oper} {a : Act} {Q : Exit → Act → World → Prop} (hg : o.guard = none) (s x : Operand) (hop : o.op = .call { callee := .builtin .append, args := #[s, x], argTypes := #[39, 39] })
    {w W : World} {v : Value} {xs : List Int} {y : Int} {g : Nat} (hs : a.eval s = v) (hx : a.eval x = .slice (some ⟨g, 0, none⟩) 1 1) (hc : W.cell? ⟨g, 0, none⟩ = some (.int .u8 y)) (hR : Kd.R (Kd.int .u8) 5 W w.heap.size (fun _ => True) v xs) (hB : Below w.heap.size w W) (hl : xs.length ≤ 100)
    (hK : ∀ v' W', Kd.R (Kd.int .u8) 5 W' w.heap.size (fun _ => True) v' (xs ++ [y]) → Below w.heap.size w W' → (∀ (D : Nat) (ob : Obj), W.heap[D]? = some ob → ob.isCells = false → W'.heap[D]? = some ob) → wpListIn F n Try.prog ops Q rest (a.put o.dst v') W') : wpListIn F n Try.prog ops Q (o :: rest) a W := by
  obtain ⟨i0, hi, hzz⟩ := Option.map_eq_some_iff.1 info5
  simp only [Prod.mk.injEq] at hzz
  obtain ⟨hz0, hz1, hz2⟩ := hzz
  have hbase := Kd.R_base hR
  have hcells : ∀ k, v.ownBlock = some k → ∃ cells, W.heap[k]? = some (.cells cells 5 (0, 0)) := fun k hk => by
    obtain ⟨_, _, ho, _⟩ := hR
    exact own_typed ho k hk
  obtain ⟨hok, inner, ho, hr⟩ := hR
  refine wpListIn_append_own W hg s x 39 hop w.heap.size 5 i0 (.int .u8 0) 1 1 Try.underlying39 hi hz0 hz1 hz2 rfl (by decide) v xs.length inner hs ho ⟨g, 0, none⟩ 1 1 [.int .u8 y] hx rfl (fun j u hj => ?_) (fun u hu => by rw [List.mem_singleton.1 hu]; rfl) (by simp only [maxLen]; omega) (by omega) hB.size (fun v' W' hown hgr _ => ?_)
  · cases j with
    | zero => cases hj; rw [add_plain]; exact hc
    | succ j => simp at hj
  · refine hK v' W' ⟨fun _ _ => trivial, inner ++ [.int .u8 y], by rw [List.length_append]; exact hown, ?_⟩ ⟨hgr.os.trans hB.os, hgr.tape.trans hB.tape, hgr.output.trans hB.output, Nat.le_trans hB.size hgr.size, fun k hk => ?_⟩ (fun D ob hD hcl => ?_)
    · exact Reps.snoc (hr.imp_ fun x cs h => h) rfl rfl
    · rw [hgr.block k (Nat.lt_of_lt_of_le hk hB.size) (fun e => by have := hbase k e.symm; omega)]
      exact hB.block k hk
    · rw [hgr.block D (Array.getElem?_eq_some_iff.1 hD).1 (fun e => ?_)]
      · exact hD
      · obtain ⟨cells, hcc⟩ := hcells D e.symm
        rw [hD] at hcc
        cases hcc
        cases hcl
theorem loop_rank {F : Fence} {n : Nat} {P : Program} {c : Code} {Q : Exit → Act → World → Prop} {a : Act} {w : World} (J : Nat → Act → World → Prop) (r : Nat) (h0 : J r a w) (hz : ∀ a w, J 0 a w → c.wpIn F n P (Exit.then (fun _ _ => False) Q) a w)
    (hs : ∀ r a w, J (r + 1) a w → c.wpIn F n P (Exit.then (J r) Q) a w) : (Code.loop c).wpIn F n P Q a w := by
  have key : ∀ r a w, J r a w → Code.roundsIn F n P c Q (r + 1) a w := by
    intro r
    induction r with
    | zero => exact fun a w h => Code.wpIn_mono (fun e a w q => by cases e <;> first | exact q | exact q.elim) (hz a w h)
    | succ r ih => exact fun a w h => Code.wpIn_mono (fun e a w q => by cases e <;> first | exact ih _ _ q | exact q) (hs r a w h)
  exact wpIn_loop_rounds (r + 1) (key r a w h0)
theorem leave_marks {F : Fence} {n : Nat} {P : Program} {fn : Func} {tmps : Array Value} {R : Ending → World → Prop} {B : Nat} (X : World → Prop) (hX : ∀ W D, X W → B ≤ D → W.heap[D]? = some (.deferred (some [])) → X (W.putObj D (.deferred none)))
    (hfin : ∀ W, X W → LeavesInM F n P fn tmps R [] .returning W) : ∀ (Ds : List Nat) (W : World), X W → (∀ D ∈ Ds, B ≤ D ∧ W.heap[D]? = some (.deferred (some []))) → Ds.Nodup → LeavesInM F n P fn tmps R (Ds.map mark) .returning W := by
  intro Ds
  induction Ds with
  | nil => exact fun W h _ _ => hfin W h
  | cons D Ds ih =>
    intro W h hD hN
    obtain ⟨hB, hK⟩ := hD D (by simp)
    obtain ⟨hN1, hN2⟩ := List.nodup_cons.1 hN
    refine ⟨by simp, .inl ⟨D, _, rfl, run_takeDeferred hK, ?_⟩⟩
    refine ih _ (hX W D h hB hK) (fun E hE => ?_) hN2
    obtain ⟨hE1, hE2⟩ := hD E (by simp [hE])
    exact ⟨hE1, (putObj_far (fun e => hN1 (by rw [← e]; exact hE)) (Array.getElem?_eq_some_iff.1 hE2).1).trans hE2⟩
theorem R_put {e : Nat} {W : World} {base : Nat} {v : Value} {xs : List Int} {D : Nat} (h : Kd.R (Kd.int .u8) e W base (fun _ => True) v xs) (hK : W.heap[D]? = some (.deferred (some []))) (o : Obj) : Kd.R (Kd.int .u8) e (W.putObj D o) base (fun _ => True) v xs :=
  Kd.R_mono (Kd.R_grown (Kd.R_mono (ok' := fun k => k ≠ D) (Kd.R_bound h) (fun k hk => by
    obtain ⟨_, _, _, q, _, cells, hc⟩ := hk
    rintro rfl
    rw [hK] at hc
    cases hc)) (grownBy_putObj' W D o) (fun k hk e => hk (by cases e; rfl))) (fun _ _ => trivial)
set_option maxRecDepth 100000 in
set_option maxHeartbeats 8000000 in
theorem bytes_walk (A0 A1 A2 : Option Addr) (c0 c1 c2 : Nat) (l : List S37) (b : List S48) (m : List Int) (q a n : Int) (w : World) (h37 : Kd.C k37 w A0 l.length l) (h48 : Kd.C k48 w A1 b.length b) (h8 : Kd.C (Kd.int .u8) w A2 m.length m) (m0 : (l.length : Int) ≤ 9223372036854775807) (m1 : (b.length : Int) ≤ 9223372036854775807) :
    Calls Try.prog 19 #[.slice A0 l.length c0, .slice A1 b.length c1, .slice A2 m.length c2, .int .u64 q, .int .u32 a, .int .i64 n] w fun e w' => ∃ v : Value, e = .returned v ∧ Kd.R (Kd.int .u8) 5 w' w.heap.size (fun _ => True) v (bytesX l b m q a (mn (mx n 0) 4).toNat) ∧ Below w.heap.size w w' := by
  refine (callsIn_wide (n := 3)).1 ?_
  refine callsIn_of_wp_marks Try.func19 rfl trivial ?_ rfl
  simp only [Try.ntmps19, List.size_toArray, List.length_cons, List.length_nil, Nat.reduceAdd, Nat.reduceSub, Array.replicate_succ, Array.replicate_zero, List.push_toArray, List.append_toArray, List.nil_append, List.cons_append]
  gi_wp2_with (refine ⟨trivial, ?_⟩; gi_at_call 22; refine (callsIn_wide.2 (fwd_four.calls n _ _ rfl)).mono ?_; rintro e w1 ⟨rfl, hb1⟩)
  refine loop_rank (fun r a' W => ∃ (k : Nat) (v13 : Value) (Ds : List Nat) (u14 u15 u16 u17 u18 u22 u23 u24 u25 u26 u27 u28 u29 u30 u31 u32 u33 u34 u35 u36 u37 u38 u39 u40 u41 u42 u43 u44 u45 u46 u47 u48 u49 u50 u51 u52 u53 u54 u55 u56 u57 u58 u59 u60 u61 u62 u63 u64 : Value), a' = { tmps := #[.slice A0 l.length c0, .slice A1 b.length c1, .slice A2 m.length c2, .int .u64 q, .int .u32 a, .int .i64 n, undef, undef, undef, undef, undef, undef, .slice none 0 0, v13, u14, u15, u16, u17, u18, .int .i64 n, .int .i64 (mn (mx n 0) 4), .int .i64 (k : Int), u22, u23, u24, u25, u26, u27, u28, u29, u30, u31, u32, u33, u34, u35, u36, u37, u38, u39, u40, u41, u42, u43, u44, u45, u46, u47, u48, u49, u50, u51, u52, u53, u54, u55, u56, u57, u58, u59, u60, u61, u62, u63, u64], defers := Ds.map mark } ∧ (k : Int) + r = mn (mx n 0) 4 ∧ Kd.R (Kd.int .u8) 5 W w.heap.size (fun _ => True) v13 (bytesX l b m q a k) ∧
      (∀ D ∈ Ds, w.heap.size ≤ D ∧ W.heap[D]? = some (.deferred (some []))) ∧ Ds.Nodup ∧ Below w.heap.size w W) (mn (mx n 0) 4).toNat ?h0 ?hz ?hs
  case h0 =>
    refine ⟨0, .slice none 0 0, [], _, _, _, _, _, _, _, _, _, _, _, _, _, _, _, _, _, _, _, _, _, _, _, _, _, _, _, _, _, _, _, _, _, _, _, _, _, _, _, _, _, _, _, _, _, _, _, _, rfl, ?_, Kd.R_nil _ _ _ _ _, fun _ h => by simp at h, List.nodup_nil, hb1⟩
    have : 0 ≤ mn (mx n 0) 4 := by unfold mn mx; (repeat' split) <;> omega
    omega
  case hz =>
    rintro a' W ⟨k, v13, Ds, u14, u15, u16, u17, u18, u22, u23, u24, u25, u26, u27, u28, u29, u30, u31, u32, u33, u34, u35, u36, u37, u38, u39, u40, u41, u42, u43, u44, u45, u46, u47, u48, u49, u50, u51, u52, u53, u54, u55, u56, u57, u58, u59, u60, u61, u62, u63, u64, rfl, hk, hR, hD, hN, hB⟩
    have d1 : decide ((k : Int) < mn (mx n 0) 4) = false := decide_eq_false (by omega)
    gi_wp2
    refine leave_marks (B := w.heap.size) (fun W => Kd.R (Kd.int .u8) 5 W w.heap.size (fun _ => True) v13 (bytesX l b m q a k) ∧ Below w.heap.size w W) (fun W D hX hBD hK => ⟨R_put hX.1 hK _, hX.2.trans (belowK_b (w := w) (Nat.le_refl _) W D _ _ hBD hK rfl rfl)⟩) (fun W hX => ?_) Ds W ⟨hR, hB⟩ hD hN
    have ek : (mn (mx n 0) 4).toNat = k := by omega
    refine ⟨v13, ?_, v13, rfl, by rw [ek]; exact hX.1, hX.2⟩
    simp [results, Try.f19, go_sem]
  case hs =>
    rintro r a' W ⟨k, v13, Ds, u14, u15, u16, u17, u18, u22, u23, u24, u25, u26, u27, u28, u29, u30, u31, u32, u33, u34, u35, u36, u37, u38, u39, u40, u41, u42, u43, u44, u45, u46, u47, u48, u49, u50, u51, u52, u53, u54, u55, u56, u57, u58, u59, u60, u61, u62, u63, u64, rfl, hk, hR, hD, hN, hB⟩
    · have hlt : (k : Int) < mn (mx n 0) 4 := by omega
      have d1 : decide ((k : Int) < mn (mx n 0) 4) = true := decide_eq_true hlt
      have hml : (m.length : Int) ≤ 9223372036854775807 := by have := h8.2.1; omega
      have hwr : IntKind.u64.wrap (m.length : Int) = (m.length : Int) := by rw [Go.Proofs.Ytaeglelhoenfgaa.Plain.wrap_u64]; omega
      have hat0 : 0 ≤ ((a + (k : Int)) % 4294967296) := Int.emod_nonneg _ (by decide)
      rcases Int.lt_or_le ((a + (k : Int)) % 4294967296) (m.length : Int) with ha | ha
      · have hmx : memX m ((a + (k : Int)) % 4294967296) = rd m ((a + (k : Int)) % 4294967296) := if_pos ha
        obtain ⟨ad, rfl, hrow⟩ := h8.2.2 (by omega)
        have d2 : decide (((a + (k : Int)) % 4294967296) < (m.length : Int)) = true := decide_eq_true ha
        have d3 : decide (0 ≤ ((a + (k : Int)) % 4294967296)) = true := decide_eq_true hat0
        have hcell := (Kd.foot_int h8 ((a + (k : Int)) % 4294967296) hat0 ha)
        have hx : ((W.alloc (.cells #[.int .u32 ((a + (k : Int)) % 4294967296)] 23)).alloc (.cells #[.int .u8 0] 5)).cell? (ad.add ((a + (k : Int)) % 4294967296).toNat) = some (.int .u8 (rd m ((a + (k : Int)) % 4294967296))) := ((below_alloc (below_alloc hB _) _).cell (World.block_lt_of_cell? _ _ hcell)).trans hcell
        gi_wp2_with (refine ⟨trivial, ?_⟩; gi_at_call 25; refine (older_in _ _ _ _ _ _ _ _).mono ?_; rintro e w' ⟨rfl, rfl⟩)
        have k15 := ((((Boxed.new W 23 (.int .u32 ((a + (k : Int)) % 4294967296))).alloc (.cells #[.int .u8 (rd m ((a + (k : Int)) % 4294967296))] 5)).alloc (.cells #[.slice A0 l.length c0] 30)).alloc (.cells #[.slice A1 b.length c1] 31)).alloc (.cells #[.int .u64 q] 22)
        have k16 := (((Boxed.new (W.alloc (.cells #[.int .u32 ((a + (k : Int)) % 4294967296)] 23)) 5 (.int .u8 (rd m ((a + (k : Int)) % 4294967296)))).alloc (.cells #[.slice A0 l.length c0] 30)).alloc (.cells #[.slice A1 b.length c1] 31)).alloc (.cells #[.int .u64 q] 22)
        have o1 := ((Boxed.new ((W.alloc (.cells #[.int .u32 ((a + (k : Int)) % 4294967296)] 23)).alloc (.cells #[.int .u8 (rd m ((a + (k : Int)) % 4294967296))] 5)) 30 (.slice A0 l.length c0)).alloc (.cells #[.slice A1 b.length c1] 31)).alloc (.cells #[.int .u64 q] 22)
        have o2 := (Boxed.new (((W.alloc (.cells #[.int .u32 ((a + (k : Int)) % 4294967296)] 23)).alloc (.cells #[.int .u8 (rd m ((a + (k : Int)) % 4294967296))] 5)).alloc (.cells #[.slice A0 l.length c0] 30)) 31 (.slice A1 b.length c1)).alloc (.cells #[.int .u64 q] 22)
        have o3 := Boxed.new ((((W.alloc (.cells #[.int .u32 ((a + (k : Int)) % 4294967296)] 23)).alloc (.cells #[.int .u8 (rd m ((a + (k : Int)) % 4294967296))] 5)).alloc (.cells #[.slice A0 l.length c0] 30)).alloc (.cells #[.slice A1 b.length c1] 31)) 22 (.int .u64 q)
        simp only [World.size_alloc] at k16 o1 o2 o3
        have hBW0 : Below W.heap.size W (((((W.alloc (.cells #[.int .u32 ((a + (k : Int)) % 4294967296)] 23)).alloc (.cells #[.int .u8 (rd m ((a + (k : Int)) % 4294967296))] 5)).alloc (.cells #[.slice A0 l.length c0] 30)).alloc (.cells #[.slice A1 b.length c1] 31)).alloc (.cells #[.int .u64 q] 22)) := by repeat (first | exact Below.refl _ _ | apply below_alloc)
        have hsz : (((((W.alloc (.cells #[.int .u32 ((a + (k : Int)) % 4294967296)] 23)).alloc (.cells #[.int .u8 (rd m ((a + (k : Int)) % 4294967296))] 5)).alloc (.cells #[.slice A0 l.length c0] 30)).alloc (.cells #[.slice A1 b.length c1] 31)).alloc (.cells #[.int .u64 q] 22)).heap.size = W.heap.size + 5 := by simp
        obtain ⟨W0, hW0⟩ : ∃ W0, (((((W.alloc (.cells #[.int .u32 ((a + (k : Int)) % 4294967296)] 23)).alloc (.cells #[.int .u8 (rd m ((a + (k : Int)) % 4294967296))] 5)).alloc (.cells #[.slice A0 l.length c0] 30)).alloc (.cells #[.slice A1 b.length c1] 31)).alloc (.cells #[.int .u64 q] 22)) = W0 := ⟨_, rfl⟩
        rw [hW0] at k15 k16 o1 o2 o3 hBW0 hsz ⊢
        clear hW0
        have hB0 : Below w.heap.size w W0 := below_step hB hBW0
        have hws := hB.size
        refine wpIn_rangeFunc_ownH rfl (by decide : 1 ≤ 3) (gf := 29) (lb := #[.pointer (some ⟨W.heap.size + 1 + 1, 0, none⟩), .pointer (some ⟨W.heap.size + 1 + 1 + 1 + 1, 0, none⟩), .pointer (some ⟨W.heap.size + 1 + 1 + 1, 0, none⟩)]) rfl trivial (enters_of Try.func29 (by kernel_rfl) rfl)
          (older_stops Fence.wide 2 trivial rfl (by decide) W0 (W.heap.size + 1 + 1) (W.heap.size + 1 + 1 + 1 + 1) (W.heap.size + 1 + 1 + 1) A0 A1 c0 c1 l b q o1.cell o3.cell o2.cell o1.lt o3.lt o2.lt (Kd.C_below h37 hB0) (Kd.C_below h48 hB0) m0 m1) belowK_t (belowK_b (Nat.le_refl _)) (Below.refl _ _) (fun _ => rfl)
          (fun pre X => (∀ y ∈ pre, byB ((a + (k : Int)) % 4294967296) y = false) ∧ Boxed X W.heap.size 23 (.int .u32 ((a + (k : Int)) % 4294967296)) ∧ Boxed X (W.heap.size + 1) 5 (.int .u8 (rd m ((a + (k : Int)) % 4294967296))) ∧ Below W0.heap.size W0 X)
          (fun c pre X => (c = .exit 2 ∧ ∃ ini x, pre = ini ++ [x] ∧ (∀ y ∈ ini, byB ((a + (k : Int)) % 4294967296) y = false) ∧ byB ((a + (k : Int)) % 4294967296) x = true ∧ Boxed X (W.heap.size + 1) 5 (.int .u8 (byV ((a + (k : Int)) % 4294967296) x))) ∧ Below W.heap.size W X)
          (OwnFrom.and (ownFrom_pure _ (fun pre : List SX => ∀ y ∈ pre, byB ((a + (k : Int)) % 4294967296) y = false)) (OwnFrom.and (Own.from (boxed_own _ _ _) _) (OwnFrom.and (Own.from (boxed_own _ _ _) _) (ownFrom_below (Nat.le_refl _) (Nat.le_refl _)))))
          (fun c => OwnFrom.and (Own.from (fun s X Y row hs hg hr => by
            obtain ⟨hc, ini, x, e1, e2, e3, r2⟩ := hs
            exact ⟨hc, ini, x, e1, e2, e3, boxed_own _ 5 (fun _ : Unit => _) () X Y row r2 hg hr⟩) _) (ownFrom_below (Nat.le_refl _) (by omega)))
          ⟨by simp, k15, k16, Below.refl _ _⟩
          (fun x a' X => ∃ Bx, W0.heap.size ≤ Bx ∧ X.heap[Bx]? = some (.cells #[.int .u32 x.a, .int .u32 x.d, .int .i64 x.n, .int .u64 x.q] 50 (0, 0)) ∧ a' = { tmps := #[.slice A0 l.length c0, .slice A1 b.length c1, .slice (some ad) m.length c2, .int .u64 q, .int .u32 a, .int .i64 n, undef, undef, undef, undef, undef, undef, .slice none 0 0, v13, .int .i64 (k : Int), .pointer (some ⟨W.heap.size, 0, none⟩), .pointer (some ⟨W.heap.size + 1, 0, none⟩), .pointer (some ⟨Bx, 0, none⟩), u18, .int .i64 n, .int .i64 (mn (mx n 0) 4), .int .i64 (k : Int), .bool true, .int .i64 (k : Int), .int .u32 a, .int .i64 (k : Int), .int .u32 ((k : Int) % 4294967296), .int .u32 ((a + (k : Int)) % 4294967296), .int .u32 ((a + (k : Int)) % 4294967296), .int .u64 ((a + (k : Int)) % 4294967296), .slice (some ad) m.length c2, .int .i64 (m.length : Int), .int .u64 (m.length : Int), .bool true, .slice (some ad) m.length c2, .int .u32 ((a + (k : Int)) % 4294967296), .pointer (some (ad.add ((a + (k : Int)) % 4294967296).toNat)), .int .u8 (rd m ((a + (k : Int)) % 4294967296)), .slice A0 l.length c0, .slice A1 b.length c1, .int .u64 q, .func (.func 29) #[] #[.pointer (some ⟨W.heap.size + 1 + 1, 0, none⟩), .pointer (some ⟨W.heap.size + 1 + 1 + 1 + 1, 0, none⟩), .pointer (some ⟨W.heap.size + 1 + 1 + 1, 0, none⟩)], .agg #[.int .u32 x.a, .int .u32 x.d, .int .i64 x.n, .int .u64 x.q], u43, u44, u45, u46, u47, u48, u49, u50, u51, u52, u53, u54, u55, u56, u57, u58, u59, u60, u61, u62, u63, u64], defers := [] })
          (fun x a' _ X Y row hs hg hr => by
            obtain ⟨Bx, h1, h2, h3⟩ := hs
            refine ⟨Bx, h1, (hg.block Bx (Array.getElem?_eq_some_iff.1 h2).1 (fun e' => ?_)).trans h2, h3⟩
            obtain ⟨_, o, ho, hc⟩ := hr Bx e'.symm
            rw [h2] at ho
            cases ho
            cases hc)
          ?assign ?body ?done ?stop
        case assign =>
          rintro lk pre x X K ⟨hpre, z15, z16, hBX⟩ hK
          dsimp only [encX]
          gi_wp2
          have hbA : Below X.heap.size X (X.alloc (.cells #[.int .u32 x.a, .int .u32 x.d, .int .i64 x.n, .int .u64 x.q] 50)) := below_alloc (Below.refl _ _) _
          exact hK _ _ (keepsFrom_below hbA) (hbA.mono hBX.size) ⟨hpre, boxed_below z15 hbA, boxed_below z16 hbA, hBX.trans (hbA.mono hBX.size)⟩ ⟨X.heap.size, hBX.size, blk_new _ _, rfl⟩
        case body =>
          rintro lk pre x a' X hlk hrec ⟨hpre, z15, z16, hBX⟩ ⟨Bx, hBx, bX, rfl⟩ hlt'
          have p0 : X.cell? ⟨Bx, 0, none⟩ = some (.int .u32 x.a) := (blk_cell bX 0).trans rfl
          have p1 : X.cell? ⟨Bx, 1, none⟩ = some (.int .u32 x.d) := (blk_cell bX 1).trans rfl
          have p2 : X.cell? ⟨Bx, 2, none⟩ = some (.int .i64 x.n) := (blk_cell bX 2).trans rfl
          have p15 := z15.cell
          have p16 := z16.cell
          have f16 := z16.frozen
          have lt16 := z16.lt
          have hsX := hBX.size
          have hr4 : 0 ≤ mn (mx x.n 0) 4 ∧ mn (mx x.n 0) 4 ≤ 4 := by unfold mn mx; constructor <;> (repeat' split) <;> omega
          have h4 : mn (mx x.n 0) 4 % 4294967296 = mn (mx x.n 0) 4 := by omega
          have ee : (((a + (k : Int)) % 4294967296) - x.a) % 4294967296 = (a + (k : Int) - x.a) % 4294967296 := by omega
          cases hby : byB ((a + (k : Int)) % 4294967296) x with
          | false =>
            have dd : decide ((a + (k : Int) - x.a) % 4294967296 < mn (mx x.n 0) 4) = false := by rw [← ee]; exact hby
            gi_wp2_with (refine ⟨trivial, ?_⟩; gi_at_call 22; refine (CallsIn.inRound lk (callsIn_wide.2 (fwd_four.calls x.n _ _ rfl))).mono ?_; rintro e w9 ⟨rfl, hb9⟩; have q1 : w9.cell? ⟨Bx, 1, none⟩ = some (.int .u32 x.d) := (hb9.cell (World.block_lt_of_cell? _ _ p1)).trans p1; have q16 := (boxed_below z16 hb9).cell; have g16 := (boxed_below z16 hb9).frozen)
            exact ⟨keepsFrom_below hb9, hb9.mono hsX, fun y hy => (List.mem_append.1 hy).elim (hpre y) (fun e => by simp at e; subst e; exact hby), boxed_below z15 hb9, boxed_below z16 hb9, hBX.trans (hb9.mono hsX)⟩
          | true =>
            have dd : decide ((a + (k : Int) - x.a) % 4294967296 < mn (mx x.n 0) 4) = true := by rw [← ee]; exact hby
            have hlt4 := of_decide_eq_true dd
            have by0 : 0 ≤ (a + (k : Int) - x.a) % 4294967296 := Int.emod_nonneg _ (by decide)
            have hmul : 8 * ((a + (k : Int) - x.a) % 4294967296) % 4294967296 = 8 * ((a + (k : Int) - x.a) % 4294967296) := by omega
            have s0 : 0 ≤ 8 * ((a + (k : Int) - x.a) % 4294967296) := by omega
            have s1 : 8 * ((a + (k : Int) - x.a) % 4294967296) ≤ 32 := by omega
            gi_wp2_with (refine ⟨trivial, ?_⟩; gi_at_call 22; refine (CallsIn.inRound lk (callsIn_wide.2 (fwd_four.calls x.n _ _ rfl))).mono ?_; rintro e w9 ⟨rfl, hb9⟩; have q1 : w9.cell? ⟨Bx, 1, none⟩ = some (.int .u32 x.d) := (hb9.cell (World.block_lt_of_cell? _ _ p1)).trans p1; have q16 := (boxed_below z16 hb9).cell; have g16 := (boxed_below z16 hb9).frozen)
            have hv : byV ((a + (k : Int)) % 4294967296) x = x.d / 2 ^ (8 * ((a + (k : Int) - x.a) % 4294967296)).toNat % 256 := by unfold byV; rw [ee]
            have hBw := (below_step hBW0 hBX)
            have hBw9 := below_step hBw hb9
            refine ⟨(keepsFrom_below hb9).trans ((KeepsOthers.setCell _ ⟨W.heap.size + 1, 0, none⟩ (.int .u8 (x.d / 2 ^ (8 * ((a + (k : Int) - x.a) % 4294967296)).toNat % 256))).from _), ⟨rfl, pre, x, rfl, hpre, hby, ?_⟩, hBw9.setCell (p := ⟨W.heap.size + 1, 0, none⟩) (by simp) _⟩
            rw [hv]
            exact (boxed_below z16 hb9).set _
        case done =>
          rintro D ys X hDX rfl ⟨hpre, z15, z16, hBX⟩ hK
          have p16 := z16.cell
          have hB2 : Below w.heap.size w X := hB0.trans (hBX.mono hB0.size)
          have hl4 : (bytesX l b m q a k).length ≤ 100 := by
            have : mn (mx n 0) 4 ≤ 4 := by unfold mn mx; (repeat' split) <;> omega
            simp [bytesX]; omega
          have hRX : Kd.R (Kd.int .u8) 5 (X.alloc (.cells #[.int .u8 (rd m ((a + (k : Int)) % 4294967296))] 5)) w.heap.size (fun _ => True) v13 (bytesX l b m q a k) := Kd.R_alloc (Kd.R_below (Kd.R_below hR hBW0) hBX) _
          gi_wp2_with (gi_at_builtin; refine app_u8 (w := w) rfl (.tmp 59) (.tmp 61) rfl (v := v13) (y := (rd m ((a + (k : Int)) % 4294967296))) (g := X.heap.size) rfl rfl ((blk_cell (blk_new _ _) 0).trans rfl) hRX (below_alloc hB2 _) hl4 ?_; intro v14 X2 hR2 hBX2 hkeep)
          have hWX : Below W.heap.size W X := below_step hBW0 hBX
          have hval : byteK l b m q a k = (rd m ((a + (k : Int)) % 4294967296)) := by
            unfold byteK
            rw [byteX_none hpre, hmx]
          have hwk : wrap64 ((k : Int) + 1) = (((k + 1 : Nat)) : Int) := by
            have : mn (mx n 0) 4 ≤ 4 := by unfold mn mx; (repeat' split) <;> omega
            unfold wrap64; omega
          have kd : ∀ (E : Nat) (ob : Obj), W.heap[E]? = some ob → ob.isCells = false → X2.heap[E]? = some ob := fun E ob hE hc => by
            have hEl := (Array.getElem?_eq_some_iff.1 hE).1
            have e1 : X.heap[E]? = some ob := (hWX.block E hEl).trans hE
            exact hkeep E ob (((below_alloc (Below.refl X.heap.size X) (.cells #[.int .u8 (rd m ((a + (k : Int)) % 4294967296))] 5)).block E (Array.getElem?_eq_some_iff.1 e1).1).trans e1) hc
          have kD : X2.heap[D]? = some (.deferred (some [])) := hkeep D _ (((below_alloc (Below.refl X.heap.size X) (.cells #[.int .u8 (rd m ((a + (k : Int)) % 4294967296))] 5)).block D (Array.getElem?_eq_some_iff.1 hK).1).trans hK) rfl
          have hbk : bytesX l b m q a (k + 1) = bytesX l b m q a k ++ [(rd m ((a + (k : Int)) % 4294967296))] := by
            rw [← hval]
            unfold bytesX
            rw [List.range_succ, List.map_append]
            rfl
          simp only [hwk]
          refine ⟨k + 1, v14, D :: Ds, _, _, _, _, _, _, _, _, _, _, _, _, _, _, _, _, _, _, _, _, _, _, _, _, _, _, _, _, _, _, _, _, _, _, _, _, _, _, _, _, _, _, _, _, _, _, _, _, rfl, by omega, by rw [hbk]; exact hR2, fun E hE => ?_, ?_, hBX2⟩
          · rcases List.mem_cons.1 hE with rfl | hE
            · exact ⟨by have := hB0.size; omega, kD⟩
            · exact ⟨(hD E hE).1, kd E _ (hD E hE).2 rfl⟩
          · refine List.nodup_cons.2 ⟨fun hE => ?_, hN⟩
            have := (Array.getElem?_eq_some_iff.1 (hD D hE).2).1
            omega
        case stop =>
          rintro D c pre X hDX ⟨tl, htl⟩ ⟨⟨rfl, ini, x, e1, e2, e3, r2⟩, hBw⟩ hK
          have p16 := r2.cell
          have hWX := hBw
          have hB2 : Below w.heap.size w X := below_step hB hBw
          have hl4 : (bytesX l b m q a k).length ≤ 100 := by
            have : mn (mx n 0) 4 ≤ 4 := by unfold mn mx; (repeat' split) <;> omega
            simp [bytesX]; omega
          have hRX : Kd.R (Kd.int .u8) 5 (X.alloc (.cells #[.int .u8 (byV ((a + (k : Int)) % 4294967296) x)] 5)) w.heap.size (fun _ => True) v13 (bytesX l b m q a k) := Kd.R_alloc (Kd.R_below hR hBw) _
          gi_wp2_with (gi_at_builtin; refine app_u8 (w := w) rfl (.tmp 59) (.tmp 61) rfl (v := v13) (y := byV ((a + (k : Int)) % 4294967296) x) (g := X.heap.size) rfl rfl ((blk_cell (blk_new _ _) 0).trans rfl) hRX (below_alloc hB2 _) hl4 ?_; intro v14 X2 hR2 hBX2 hkeep)
          have hval : byteK l b m q a k = byV ((a + (k : Int)) % 4294967296) x := by
            unfold byteK
            rw [← htl, e1, List.append_assoc]
            exact byteX_hit e2 e3
          have hwk : wrap64 ((k : Int) + 1) = (((k + 1 : Nat)) : Int) := by
            have : mn (mx n 0) 4 ≤ 4 := by unfold mn mx; (repeat' split) <;> omega
            unfold wrap64; omega
          have kd : ∀ (E : Nat) (ob : Obj), W.heap[E]? = some ob → ob.isCells = false → X2.heap[E]? = some ob := fun E ob hE hc => by
            have hEl := (Array.getElem?_eq_some_iff.1 hE).1
            have e1 : X.heap[E]? = some ob := (hWX.block E hEl).trans hE
            exact hkeep E ob (((below_alloc (Below.refl X.heap.size X) (.cells #[.int .u8 (byV ((a + (k : Int)) % 4294967296) x)] 5)).block E (Array.getElem?_eq_some_iff.1 e1).1).trans e1) hc
          have kD : X2.heap[D]? = some (.deferred (some [])) := hkeep D _ (((below_alloc (Below.refl X.heap.size X) (.cells #[.int .u8 (byV ((a + (k : Int)) % 4294967296) x)] 5)).block D (Array.getElem?_eq_some_iff.1 hK).1).trans hK) rfl
          have hbk : bytesX l b m q a (k + 1) = bytesX l b m q a k ++ [(byV ((a + (k : Int)) % 4294967296) x)] := by
            rw [← hval]
            unfold bytesX
            rw [List.range_succ, List.map_append]
            rfl
          simp only [hwk]
          refine ⟨k + 1, v14, D :: Ds, _, _, _, _, _, _, _, _, _, _, _, _, _, _, _, _, _, _, _, _, _, _, _, _, _, _, _, _, _, _, _, _, _, _, _, _, _, _, _, _, _, _, _, _, _, _, _, _, rfl, by omega, by rw [hbk]; exact hR2, fun E hE => ?_, ?_, hBX2⟩
          · rcases List.mem_cons.1 hE with rfl | hE
            · exact ⟨by have := hB0.size; omega, kD⟩
            · exact ⟨(hD E hE).1, kd E _ (hD E hE).2 rfl⟩
          · refine List.nodup_cons.2 ⟨fun hE => ?_, hN⟩
            have := (Array.getElem?_eq_some_iff.1 (hD D hE).2).1
            omega
      · have hmx : memX m ((a + (k : Int)) % 4294967296) = 0 := if_neg (by omega)
        have d2 : decide (((a + (k : Int)) % 4294967296) < (m.length : Int)) = false := decide_eq_false (by omega)
        gi_wp2_with (refine ⟨trivial, ?_⟩; gi_at_call 25; refine (older_in _ _ _ _ _ _ _ _).mono ?_; rintro e w' ⟨rfl, rfl⟩)
        have k15 := ((((Boxed.new W 23 (.int .u32 ((a + (k : Int)) % 4294967296))).alloc (.cells #[.int .u8 0] 5)).alloc (.cells #[.slice A0 l.length c0] 30)).alloc (.cells #[.slice A1 b.length c1] 31)).alloc (.cells #[.int .u64 q] 22)
        have k16 := (((Boxed.new (W.alloc (.cells #[.int .u32 ((a + (k : Int)) % 4294967296)] 23)) 5 (.int .u8 0)).alloc (.cells #[.slice A0 l.length c0] 30)).alloc (.cells #[.slice A1 b.length c1] 31)).alloc (.cells #[.int .u64 q] 22)
        have o1 := ((Boxed.new ((W.alloc (.cells #[.int .u32 ((a + (k : Int)) % 4294967296)] 23)).alloc (.cells #[.int .u8 0] 5)) 30 (.slice A0 l.length c0)).alloc (.cells #[.slice A1 b.length c1] 31)).alloc (.cells #[.int .u64 q] 22)
        have o2 := (Boxed.new (((W.alloc (.cells #[.int .u32 ((a + (k : Int)) % 4294967296)] 23)).alloc (.cells #[.int .u8 0] 5)).alloc (.cells #[.slice A0 l.length c0] 30)) 31 (.slice A1 b.length c1)).alloc (.cells #[.int .u64 q] 22)
        have o3 := Boxed.new ((((W.alloc (.cells #[.int .u32 ((a + (k : Int)) % 4294967296)] 23)).alloc (.cells #[.int .u8 0] 5)).alloc (.cells #[.slice A0 l.length c0] 30)).alloc (.cells #[.slice A1 b.length c1] 31)) 22 (.int .u64 q)
        simp only [World.size_alloc] at k16 o1 o2 o3
        have hBW0 : Below W.heap.size W (((((W.alloc (.cells #[.int .u32 ((a + (k : Int)) % 4294967296)] 23)).alloc (.cells #[.int .u8 0] 5)).alloc (.cells #[.slice A0 l.length c0] 30)).alloc (.cells #[.slice A1 b.length c1] 31)).alloc (.cells #[.int .u64 q] 22)) := by repeat (first | exact Below.refl _ _ | apply below_alloc)
        have hsz : (((((W.alloc (.cells #[.int .u32 ((a + (k : Int)) % 4294967296)] 23)).alloc (.cells #[.int .u8 0] 5)).alloc (.cells #[.slice A0 l.length c0] 30)).alloc (.cells #[.slice A1 b.length c1] 31)).alloc (.cells #[.int .u64 q] 22)).heap.size = W.heap.size + 5 := by simp
        obtain ⟨W0, hW0⟩ : ∃ W0, (((((W.alloc (.cells #[.int .u32 ((a + (k : Int)) % 4294967296)] 23)).alloc (.cells #[.int .u8 0] 5)).alloc (.cells #[.slice A0 l.length c0] 30)).alloc (.cells #[.slice A1 b.length c1] 31)).alloc (.cells #[.int .u64 q] 22)) = W0 := ⟨_, rfl⟩
        rw [hW0] at k15 k16 o1 o2 o3 hBW0 hsz ⊢
        clear hW0
        have hB0 : Below w.heap.size w W0 := below_step hB hBW0
        have hws := hB.size
        refine wpIn_rangeFunc_ownH rfl (by decide : 1 ≤ 3) (gf := 29) (lb := #[.pointer (some ⟨W.heap.size + 1 + 1, 0, none⟩), .pointer (some ⟨W.heap.size + 1 + 1 + 1 + 1, 0, none⟩), .pointer (some ⟨W.heap.size + 1 + 1 + 1, 0, none⟩)]) rfl trivial (enters_of Try.func29 (by kernel_rfl) rfl)
          (older_stops Fence.wide 2 trivial rfl (by decide) W0 (W.heap.size + 1 + 1) (W.heap.size + 1 + 1 + 1 + 1) (W.heap.size + 1 + 1 + 1) A0 A1 c0 c1 l b q o1.cell o3.cell o2.cell o1.lt o3.lt o2.lt (Kd.C_below h37 hB0) (Kd.C_below h48 hB0) m0 m1) belowK_t (belowK_b (Nat.le_refl _)) (Below.refl _ _) (fun _ => rfl)
          (fun pre X => (∀ y ∈ pre, byB ((a + (k : Int)) % 4294967296) y = false) ∧ Boxed X W.heap.size 23 (.int .u32 ((a + (k : Int)) % 4294967296)) ∧ Boxed X (W.heap.size + 1) 5 (.int .u8 0) ∧ Below W0.heap.size W0 X)
          (fun c pre X => (c = .exit 2 ∧ ∃ ini x, pre = ini ++ [x] ∧ (∀ y ∈ ini, byB ((a + (k : Int)) % 4294967296) y = false) ∧ byB ((a + (k : Int)) % 4294967296) x = true ∧ Boxed X (W.heap.size + 1) 5 (.int .u8 (byV ((a + (k : Int)) % 4294967296) x))) ∧ Below W.heap.size W X)
          (OwnFrom.and (ownFrom_pure _ (fun pre : List SX => ∀ y ∈ pre, byB ((a + (k : Int)) % 4294967296) y = false)) (OwnFrom.and (Own.from (boxed_own _ _ _) _) (OwnFrom.and (Own.from (boxed_own _ _ _) _) (ownFrom_below (Nat.le_refl _) (Nat.le_refl _)))))
          (fun c => OwnFrom.and (Own.from (fun s X Y row hs hg hr => by
            obtain ⟨hc, ini, x, e1, e2, e3, r2⟩ := hs
            exact ⟨hc, ini, x, e1, e2, e3, boxed_own _ 5 (fun _ : Unit => _) () X Y row r2 hg hr⟩) _) (ownFrom_below (Nat.le_refl _) (by omega)))
          ⟨by simp, k15, k16, Below.refl _ _⟩
          (fun x a' X => ∃ Bx, W0.heap.size ≤ Bx ∧ X.heap[Bx]? = some (.cells #[.int .u32 x.a, .int .u32 x.d, .int .i64 x.n, .int .u64 x.q] 50 (0, 0)) ∧ a' = { tmps := #[.slice A0 l.length c0, .slice A1 b.length c1, .slice A2 m.length c2, .int .u64 q, .int .u32 a, .int .i64 n, undef, undef, undef, undef, undef, undef, .slice none 0 0, v13, .int .i64 (k : Int), .pointer (some ⟨W.heap.size, 0, none⟩), .pointer (some ⟨W.heap.size + 1, 0, none⟩), .pointer (some ⟨Bx, 0, none⟩), u18, .int .i64 n, .int .i64 (mn (mx n 0) 4), .int .i64 (k : Int), .bool true, .int .i64 (k : Int), .int .u32 a, .int .i64 (k : Int), .int .u32 ((k : Int) % 4294967296), .int .u32 ((a + (k : Int)) % 4294967296), .int .u32 ((a + (k : Int)) % 4294967296), .int .u64 ((a + (k : Int)) % 4294967296), .slice A2 m.length c2, .int .i64 (m.length : Int), .int .u64 (m.length : Int), .bool false, u34, u35, u36, u37, .slice A0 l.length c0, .slice A1 b.length c1, .int .u64 q, .func (.func 29) #[] #[.pointer (some ⟨W.heap.size + 1 + 1, 0, none⟩), .pointer (some ⟨W.heap.size + 1 + 1 + 1 + 1, 0, none⟩), .pointer (some ⟨W.heap.size + 1 + 1 + 1, 0, none⟩)], .agg #[.int .u32 x.a, .int .u32 x.d, .int .i64 x.n, .int .u64 x.q], u43, u44, u45, u46, u47, u48, u49, u50, u51, u52, u53, u54, u55, u56, u57, u58, u59, u60, u61, u62, u63, u64], defers := [] })
          (fun x a' _ X Y row hs hg hr => by
            obtain ⟨Bx, h1, h2, h3⟩ := hs
            refine ⟨Bx, h1, (hg.block Bx (Array.getElem?_eq_some_iff.1 h2).1 (fun e' => ?_)).trans h2, h3⟩
            obtain ⟨_, o, ho, hc⟩ := hr Bx e'.symm
            rw [h2] at ho
            cases ho
            cases hc)
          ?assign ?body ?done ?stop
        case assign =>
          rintro lk pre x X K ⟨hpre, z15, z16, hBX⟩ hK
          dsimp only [encX]
          gi_wp2
          have hbA : Below X.heap.size X (X.alloc (.cells #[.int .u32 x.a, .int .u32 x.d, .int .i64 x.n, .int .u64 x.q] 50)) := below_alloc (Below.refl _ _) _
          exact hK _ _ (keepsFrom_below hbA) (hbA.mono hBX.size) ⟨hpre, boxed_below z15 hbA, boxed_below z16 hbA, hBX.trans (hbA.mono hBX.size)⟩ ⟨X.heap.size, hBX.size, blk_new _ _, rfl⟩
        case body =>
          rintro lk pre x a' X hlk hrec ⟨hpre, z15, z16, hBX⟩ ⟨Bx, hBx, bX, rfl⟩ hlt'
          have p0 : X.cell? ⟨Bx, 0, none⟩ = some (.int .u32 x.a) := (blk_cell bX 0).trans rfl
          have p1 : X.cell? ⟨Bx, 1, none⟩ = some (.int .u32 x.d) := (blk_cell bX 1).trans rfl
          have p2 : X.cell? ⟨Bx, 2, none⟩ = some (.int .i64 x.n) := (blk_cell bX 2).trans rfl
          have p15 := z15.cell
          have p16 := z16.cell
          have f16 := z16.frozen
          have lt16 := z16.lt
          have hsX := hBX.size
          have hr4 : 0 ≤ mn (mx x.n 0) 4 ∧ mn (mx x.n 0) 4 ≤ 4 := by unfold mn mx; constructor <;> (repeat' split) <;> omega
          have h4 : mn (mx x.n 0) 4 % 4294967296 = mn (mx x.n 0) 4 := by omega
          have ee : (((a + (k : Int)) % 4294967296) - x.a) % 4294967296 = (a + (k : Int) - x.a) % 4294967296 := by omega
          cases hby : byB ((a + (k : Int)) % 4294967296) x with
          | false =>
            have dd : decide ((a + (k : Int) - x.a) % 4294967296 < mn (mx x.n 0) 4) = false := by rw [← ee]; exact hby
            gi_wp2_with (refine ⟨trivial, ?_⟩; gi_at_call 22; refine (CallsIn.inRound lk (callsIn_wide.2 (fwd_four.calls x.n _ _ rfl))).mono ?_; rintro e w9 ⟨rfl, hb9⟩; have q1 : w9.cell? ⟨Bx, 1, none⟩ = some (.int .u32 x.d) := (hb9.cell (World.block_lt_of_cell? _ _ p1)).trans p1; have q16 := (boxed_below z16 hb9).cell; have g16 := (boxed_below z16 hb9).frozen)
            exact ⟨keepsFrom_below hb9, hb9.mono hsX, fun y hy => (List.mem_append.1 hy).elim (hpre y) (fun e => by simp at e; subst e; exact hby), boxed_below z15 hb9, boxed_below z16 hb9, hBX.trans (hb9.mono hsX)⟩
          | true =>
            have dd : decide ((a + (k : Int) - x.a) % 4294967296 < mn (mx x.n 0) 4) = true := by rw [← ee]; exact hby
            have hlt4 := of_decide_eq_true dd
            have by0 : 0 ≤ (a + (k : Int) - x.a) % 4294967296 := Int.emod_nonneg _ (by decide)
            have hmul : 8 * ((a + (k : Int) - x.a) % 4294967296) % 4294967296 = 8 * ((a + (k : Int) - x.a) % 4294967296) := by omega
            have s0 : 0 ≤ 8 * ((a + (k : Int) - x.a) % 4294967296) := by omega
            have s1 : 8 * ((a + (k : Int) - x.a) % 4294967296) ≤ 32 := by omega
            gi_wp2_with (refine ⟨trivial, ?_⟩; gi_at_call 22; refine (CallsIn.inRound lk (callsIn_wide.2 (fwd_four.calls x.n _ _ rfl))).mono ?_; rintro e w9 ⟨rfl, hb9⟩; have q1 : w9.cell? ⟨Bx, 1, none⟩ = some (.int .u32 x.d) := (hb9.cell (World.block_lt_of_cell? _ _ p1)).trans p1; have q16 := (boxed_below z16 hb9).cell; have g16 := (boxed_below z16 hb9).frozen)
            have hv : byV ((a + (k : Int)) % 4294967296) x = x.d / 2 ^ (8 * ((a + (k : Int) - x.a) % 4294967296)).toNat % 256 := by unfold byV; rw [ee]
            have hBw := (below_step hBW0 hBX)
            have hBw9 := below_step hBw hb9
            refine ⟨(keepsFrom_below hb9).trans ((KeepsOthers.setCell _ ⟨W.heap.size + 1, 0, none⟩ (.int .u8 (x.d / 2 ^ (8 * ((a + (k : Int) - x.a) % 4294967296)).toNat % 256))).from _), ⟨rfl, pre, x, rfl, hpre, hby, ?_⟩, hBw9.setCell (p := ⟨W.heap.size + 1, 0, none⟩) (by simp) _⟩
            rw [hv]
            exact (boxed_below z16 hb9).set _
        case done =>
          rintro D ys X hDX rfl ⟨hpre, z15, z16, hBX⟩ hK
          have p16 := z16.cell
          have hB2 : Below w.heap.size w X := hB0.trans (hBX.mono hB0.size)
          have hl4 : (bytesX l b m q a k).length ≤ 100 := by
            have : mn (mx n 0) 4 ≤ 4 := by unfold mn mx; (repeat' split) <;> omega
            simp [bytesX]; omega
          have hRX : Kd.R (Kd.int .u8) 5 (X.alloc (.cells #[.int .u8 0] 5)) w.heap.size (fun _ => True) v13 (bytesX l b m q a k) := Kd.R_alloc (Kd.R_below (Kd.R_below hR hBW0) hBX) _
          gi_wp2_with (gi_at_builtin; refine app_u8 (w := w) rfl (.tmp 59) (.tmp 61) rfl (v := v13) (y := 0) (g := X.heap.size) rfl rfl ((blk_cell (blk_new _ _) 0).trans rfl) hRX (below_alloc hB2 _) hl4 ?_; intro v14 X2 hR2 hBX2 hkeep)
          have hWX : Below W.heap.size W X := below_step hBW0 hBX
          have hval : byteK l b m q a k = 0 := by
            unfold byteK
            rw [byteX_none hpre, hmx]
          have hwk : wrap64 ((k : Int) + 1) = (((k + 1 : Nat)) : Int) := by
            have : mn (mx n 0) 4 ≤ 4 := by unfold mn mx; (repeat' split) <;> omega
            unfold wrap64; omega
          have kd : ∀ (E : Nat) (ob : Obj), W.heap[E]? = some ob → ob.isCells = false → X2.heap[E]? = some ob := fun E ob hE hc => by
            have hEl := (Array.getElem?_eq_some_iff.1 hE).1
            have e1 : X.heap[E]? = some ob := (hWX.block E hEl).trans hE
            exact hkeep E ob (((below_alloc (Below.refl X.heap.size X) (.cells #[.int .u8 0] 5)).block E (Array.getElem?_eq_some_iff.1 e1).1).trans e1) hc
          have kD : X2.heap[D]? = some (.deferred (some [])) := hkeep D _ (((below_alloc (Below.refl X.heap.size X) (.cells #[.int .u8 0] 5)).block D (Array.getElem?_eq_some_iff.1 hK).1).trans hK) rfl
          have hbk : bytesX l b m q a (k + 1) = bytesX l b m q a k ++ [0] := by
            rw [← hval]
            unfold bytesX
            rw [List.range_succ, List.map_append]
            rfl
          simp only [hwk]
          refine ⟨k + 1, v14, D :: Ds, _, _, _, _, _, _, _, _, _, _, _, _, _, _, _, _, _, _, _, _, _, _, _, _, _, _, _, _, _, _, _, _, _, _, _, _, _, _, _, _, _, _, _, _, _, _, _, _, rfl, by omega, by rw [hbk]; exact hR2, fun E hE => ?_, ?_, hBX2⟩
          · rcases List.mem_cons.1 hE with rfl | hE
            · exact ⟨by have := hB0.size; omega, kD⟩
            · exact ⟨(hD E hE).1, kd E _ (hD E hE).2 rfl⟩
          · refine List.nodup_cons.2 ⟨fun hE => ?_, hN⟩
            have := (Array.getElem?_eq_some_iff.1 (hD D hE).2).1
            omega
        case stop =>
          rintro D c pre X hDX ⟨tl, htl⟩ ⟨⟨rfl, ini, x, e1, e2, e3, r2⟩, hBw⟩ hK
          have p16 := r2.cell
          have hWX := hBw
          have hB2 : Below w.heap.size w X := below_step hB hBw
          have hl4 : (bytesX l b m q a k).length ≤ 100 := by
            have : mn (mx n 0) 4 ≤ 4 := by unfold mn mx; (repeat' split) <;> omega
            simp [bytesX]; omega
          have hRX : Kd.R (Kd.int .u8) 5 (X.alloc (.cells #[.int .u8 (byV ((a + (k : Int)) % 4294967296) x)] 5)) w.heap.size (fun _ => True) v13 (bytesX l b m q a k) := Kd.R_alloc (Kd.R_below hR hBw) _
          gi_wp2_with (gi_at_builtin; refine app_u8 (w := w) rfl (.tmp 59) (.tmp 61) rfl (v := v13) (y := byV ((a + (k : Int)) % 4294967296) x) (g := X.heap.size) rfl rfl ((blk_cell (blk_new _ _) 0).trans rfl) hRX (below_alloc hB2 _) hl4 ?_; intro v14 X2 hR2 hBX2 hkeep)
          have hval : byteK l b m q a k = byV ((a + (k : Int)) % 4294967296) x := by
            unfold byteK
            rw [← htl, e1, List.append_assoc]
            exact byteX_hit e2 e3
          have hwk : wrap64 ((k : Int) + 1) = (((k + 1 : Nat)) : Int) := by
            have : mn (mx n 0) 4 ≤ 4 := by unfold mn mx; (repeat' split) <;> omega
            unfold wrap64; omega
          have kd : ∀ (E : Nat) (ob : Obj), W.heap[E]? = some ob → ob.isCells = false → X2.heap[E]? = some ob := fun E ob hE hc => by
            have hEl := (Array.getElem?_eq_some_iff.1 hE).1
            have e1 : X.heap[E]? = some ob := (hWX.block E hEl).trans hE
            exact hkeep E ob (((below_alloc (Below.refl X.heap.size X) (.cells #[.int .u8 (byV ((a + (k : Int)) % 4294967296) x)] 5)).block E (Array.getElem?_eq_some_iff.1 e1).1).trans e1) hc
          have kD : X2.heap[D]? = some (.deferred (some [])) := hkeep D _ (((below_alloc (Below.refl X.heap.size X) (.cells #[.int .u8 (byV ((a + (k : Int)) % 4294967296) x)] 5)).block D (Array.getElem?_eq_some_iff.1 hK).1).trans hK) rfl
          have hbk : bytesX l b m q a (k + 1) = bytesX l b m q a k ++ [(byV ((a + (k : Int)) % 4294967296) x)] := by
            rw [← hval]
            unfold bytesX
            rw [List.range_succ, List.map_append]
            rfl
          simp only [hwk]
          refine ⟨k + 1, v14, D :: Ds, _, _, _, _, _, _, _, _, _, _, _, _, _, _, _, _, _, _, _, _, _, _, _, _, _, _, _, _, _, _, _, _, _, _, _, _, _, _, _, _, _, _, _, _, _, _, _, _, rfl, by omega, by rw [hbk]; exact hR2, fun E hE => ?_, ?_, hBX2⟩
          · rcases List.mem_cons.1 hE with rfl | hE
            · exact ⟨by have := hB0.size; omega, kD⟩
            · exact ⟨(hD E hE).1, kd E _ (hD E hE).2 rfl⟩
          · refine List.nodup_cons.2 ⟨fun hE => ?_, hN⟩
            have := (Array.getElem?_eq_some_iff.1 (hD D hE).2).1
            omega
end Go.Proofs.Ytaeglelhoenfgaa.PFwd
