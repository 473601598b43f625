/- The law UnitTime: a walk of the code. The conditions are those that each theorem names. -/
import Derived.Test.YtbkjdikiepnhbaaFlK
namespace Go.Proofs.Ytbkjdikiepnhbaa.Fl
open Go Go.Proofs Go.RowKit Go.Proofs.YtbkjdikiepnhbaaW.PrintWords Go.Proofs.YtbkjdikiepnhbaaW.PrintLast Go.Proofs.YtbkjdikiepnhbaaW.PrintMore Go.Proofs.Ytbkjdikiepnhbaa.Boxes
attribute [local go_sem] max2_int min2_int max_two min_two max_three min_three max_four min_four   -- for this text's walks alone
set_option linter.unusedVariables false
set_option linter.unusedSimpArgs false

theorem takeX_any (s : Int) : ∀ l : List S44, (takeX l s).length + (if (l.any fun y => y.f0.f1 == s) = true then 1 else 0) = l.length
  | [] => rfl
  | y :: r => by
    have ih := takeX_any s r
    unfold takeX
    by_cases c : y.f0.f1 = s
    · rw [if_pos c, List.any_cons]
      simp [c]
    · rw [if_neg c, List.any_cons, show (y.f0.f1 == s) = false from beq_eq_false_iff_ne.mpr c, Bool.false_or, List.length_cons, List.length_cons]
      omega
theorem hasX_any (l : List S44) (s : Int) : hasX l s = l.any fun y => y.f0.f1 == s := by
  have h := takeX_any s l
  unfold hasX
  cases e : (l.any fun y => y.f0.f1 == s) with
  | true => rw [e, if_pos rfl] at h; exact decide_eq_true (by omega)
  | false => rw [e, if_neg (by decide)] at h; exact decide_eq_false (by omega)
theorem ins_any (p : S44 → Bool) (y : S44) : ∀ l, (ins y l).any p = (p y || l.any p)
  | [] => by simp [ins]
  | a :: r => by
    unfold ins
    split
    · simp
    · rw [List.any_cons, ins_any p y r, List.any_cons, ← Bool.or_assoc, ← Bool.or_assoc, Bool.or_comm (p a)]
theorem fold_any (p : S44 → Bool) : ∀ l s : List S44, (l.foldl (fun s y => ins y s) s).any p = (l.any p || s.any p)
  | [], s => by simp
  | y :: r, s => by rw [List.foldl_cons, fold_any p r, ins_any, List.any_cons, ← Bool.or_assoc, Bool.or_comm (r.any p)]
theorem done_any (p : S44 → Bool) (l : List S44) : (doneX l).any p = l.any fun y => decide (y.f2 ≤ 0) && p y := by
  unfold doneX srtX
  rw [fold_any, List.any_filter]
  simp
/-- So many cycles later. -/
def tks : Nat → List S44 → List S44
  | 0, m => m
  | i + 1, m => tickX (tks i m)
theorem tks_app (a b : List S44) : ∀ i, tks i (a ++ b) = tks i a ++ tks i b
  | 0 => rfl
  | i + 1 => by unfold tks; rw [tks_app a b i]; unfold tickX; rw [List.map_append]
theorem tks_len (m : List S44) : ∀ i, (tks i m).length = m.length
  | 0 => rfl
  | i + 1 => by unfold tks; rw [tick_len, tks_len m i]
theorem tks_seq (m : List S44) (s : Int) : ∀ i, ((tks i m).any fun y => y.f0.f1 == s) = m.any fun y => y.f0.f1 == s
  | 0 => rfl
  | i + 1 => by
    rw [← tks_seq m s i]
    show ((tickX (tks i m)).any fun y => y.f0.f1 == s) = _
    unfold tickX
    rw [List.any_map]
    rfl
theorem tks_one (g : S44) (v : Int) (hv : v ≤ 32) : ∀ i : Nat, (i : Int) ≤ v → tks i [{g with f2 := v}] = [{g with f2 := v - i}]
  | 0, _ => by show [_] = [_]; simp
  | i + 1, h => by
    show tickX (tks i [{g with f2 := v}]) = _
    rw [tks_one g v hv i (by omega)]
    show [tick1 {g with f2 := v - i}] = _
    rw [tick_v g (v - i) (by omega) (by omega), show v - (i : Int) - 1 = v - ((i + 1 : Nat) : Int) by omega]
theorem early {l : List S44} {g : S44} {v : Int} {i : Nat} (hl : hasX l g.f0.f1 = false) (hv : v ≤ 32) (hi : (i : Int) < v) : hasX (doneX (tks i (l ++ [{g with f2 := v}]))) g.f0.f1 = false := by
  rw [hasX_any] at hl ⊢
  rw [done_any, tks_app, tks_one g v hv i (by omega), List.any_append]
  have h1 : ((tks i l).any fun y => decide (y.f2 ≤ 0) && (y.f0.f1 == g.f0.f1)) = false := by
    rw [List.any_eq_false]
    intro y hy hc
    have h2 := tks_seq l g.f0.f1 i
    rw [hl, List.any_eq_false] at h2
    exact h2 y hy (by simp at hc ⊢; exact hc.2)
  rw [h1]
  simp
  omega
theorem late {l : List S44} {g : S44} {v : Int} {i : Nat} (hv : v ≤ 32) (hi : (i : Int) = v) : hasX (doneX (tks i (l ++ [{g with f2 := v}]))) g.f0.f1 = true := by
  rw [hasX_any, done_any, tks_app, tks_one g v hv i (by omega), List.any_append]
  simp
  right
  omega
theorem room_lat {m d : Int} {l : List S44} {u : Int} (h : roomX m d l u = true) : 1 ≤ latX m d u ∧ latX m d u ≤ 32 := by
  unfold roomX at h
  have h1 := wi_rng m
  have h2 := wi_rng d
  unfold latX
  by_cases c : u = 1 ∨ u = 4 ∨ u = 5 ∨ u = 6
  · (repeat' split) <;> omega
  · rw [if_neg c] at h
    by_cases c2 : u = 2 ∨ u = 3
    · (repeat' split) <;> omega
    · rw [if_neg c2] at h; cases h

set_option maxHeartbeats 16000000 in
set_option maxRecDepth 100000 in
theorem unitTime {m d : Int} (cf : Cf m d) (A0 : Option Addr) (c0 : Nat) (l : List S44) (f : S44) (w : World) (hr0 : Kd.C k44 w A0 l.length l) (hc0 : l.length ≤ c0) :
    Calls Try.prog 5 #[.agg cf.cs.toArray, .slice A0 l.length c0, .agg (cs44 f).toArray] w fun e w' => e = .returned (.bool true) ∧ Below w.heap.size w w' := by
  have HR0 := Aside0.mk hr0
  have HC0 := Aside0.mk hc0
  clear hr0 hc0
  have S0 := St.start w
  have hc23 : (cs44 f).toArray[23]? = some (.int .u64 f.f0.f1) := rfl
  have hc29 : (cs44 f).toArray[29]? = some (.int .i64 f.f1) := rfl
  have hc30 : (cs44 f).toArray[30]? = some (.int .i64 f.f2) := rfl
  by_cases c : (l.length : Int) > 40
  · have cb : decide (40 < (l.length : Int)) = true := decide_eq_true c
    clear c
    go_enter Try.func5, Try.ntmps5
    go_wp2_with (first | ((with_reducible refine gate_dst (N := 3) rfl ?_); refine box_event ?hg (N := 3) ?hd (cs := cf.cs.toArray) (t := 23) ?hr ?_; (case hd => rfl); (case hg => rfl); (case hr => first | (go_simp; done) | (go_simp; rfl)); intro g1 hg w1 hbox hb; have S1 := S0.box hg hbox hb; clear hg hbox hb; clear S0) | ((with_reducible refine gate_dst (N := 5) rfl ?_); refine box_event ?hg (N := 5) ?hd (cs := (cs44 f).toArray) (t := 44) ?hr ?_; (case hd => rfl); (case hg => rfl); (case hr => first | (go_simp; done) | (go_simp; rfl)); intro g2 hg w2 hbox hb; have S2 := S1.box hg hbox hb; clear hg hbox hb; clear S1; have c23 := S2.cell (b := ⟨g2, (cs44 f).toArray, 44⟩) (by simp) hc23; have c29 := S2.cell (b := ⟨g2, (cs44 f).toArray, 44⟩) (by simp) hc29; have c30 := S2.cell (b := ⟨g2, (cs44 f).toArray, 44⟩) (by simp) hc30) | (go_at_call 7; (with_reducible refine (awake _).mono ?_); rintro e_ w3 ⟨rfl, hB_⟩; have S3 := S2.call hB_; clear hB_; clear S2))
    go_ret
    exact ⟨rfl, S3.below⟩
  · have cb : decide (40 < (l.length : Int)) = false := decide_eq_false c
    have HL := Aside0.mk (show l.length ≤ 900 by omega)
    clear c
    have HS := Aside0.mk (fun w_ (hC_ : Kd.C k44 w_ A0 l.length l) => has A0 c0 l f.f0.f1 w_ hC_ HC0.out (by have := HL.out; omega))
    cases hs : hasX l f.f0.f1 with
    | true =>
      rw [hs] at HS
      clear hs
      go_enter Try.func5, Try.ntmps5
      go_wp2_with (first | ((with_reducible refine gate_dst (N := 3) rfl ?_); refine box_event ?hg (N := 3) ?hd (cs := cf.cs.toArray) (t := 23) ?hr ?_; (case hd => rfl); (case hg => rfl); (case hr => first | (go_simp; done) | (go_simp; rfl)); intro g1 hg w1 hbox hb; have S1 := S0.box hg hbox hb; clear hg hbox hb; clear S0) | ((with_reducible refine gate_dst (N := 5) rfl ?_); refine box_event ?hg (N := 5) ?hd (cs := (cs44 f).toArray) (t := 44) ?hr ?_; (case hd => rfl); (case hg => rfl); (case hr => first | (go_simp; done) | (go_simp; rfl)); intro g2 hg w2 hbox hb; have S2 := S1.box hg hbox hb; clear hg hbox hb; clear S1; have c23 := S2.cell (b := ⟨g2, (cs44 f).toArray, 44⟩) (by simp) hc23; have c29 := S2.cell (b := ⟨g2, (cs44 f).toArray, 44⟩) (by simp) hc29; have c30 := S2.cell (b := ⟨g2, (cs44 f).toArray, 44⟩) (by simp) hc30) | (go_at_call 17; (with_reducible refine (HS.out _ (Kd.C_below HR0.out S2.below)).mono ?_); rintro e_ w3 ⟨rfl, hB_⟩; have S3 := S2.call hB_; clear hB_; clear S2; have c23 := S3.cell (b := ⟨g2, (cs44 f).toArray, 44⟩) (by simp) hc23; have c29 := S3.cell (b := ⟨g2, (cs44 f).toArray, 44⟩) (by simp) hc29; have c30 := S3.cell (b := ⟨g2, (cs44 f).toArray, 44⟩) (by simp) hc30) | (go_at_call 7; (with_reducible refine (awake _).mono ?_); rintro e_ w4 ⟨rfl, hB_⟩; have S4 := S3.call hB_; clear hB_; clear S3))
      go_ret
      exact ⟨rfl, S4.below⟩
    | false =>
      rw [hs] at HS
      have HSL := Aside0.mk hs
      clear hs
      cases hr : roomX m d l f.f1 with
      | false =>
        have ST := Aside0.mk (fun w_ (hC_ : Kd.C k44 w_ A0 l.length l) => (start cf A0 c0 l f w_ hC_ HC0.out (by have := HL.out; omega)).mono (R' := fun e w' => e = .returned (.tuple #[.slice A0 l.length c0, .bool false]) ∧ Below w_.heap.size w_ w') fun e w' ⟨⟨v, h1, h2, _⟩, hb⟩ => by rw [hr] at h1; rw [h2 hr] at h1; exact ⟨h1, hb⟩)
        have RM := Aside0.mk (fun w_ (hC_ : Kd.C k44 w_ A0 l.length l) => room cf A0 c0 l f.f1 w_ hC_ HC0.out (by have := HL.out; omega))
        rw [hr] at RM
        clear hr
        go_enter Try.func5, Try.ntmps5
        go_wp2_with (first | ((with_reducible refine gate_dst (N := 3) rfl ?_); refine box_event ?hg (N := 3) ?hd (cs := cf.cs.toArray) (t := 23) ?hr ?_; (case hd => rfl); (case hg => rfl); (case hr => first | (go_simp; done) | (go_simp; rfl)); intro g1 hg w1 hbox hb; have S1 := S0.box hg hbox hb; clear hg hbox hb; clear S0) | ((with_reducible refine gate_dst (N := 5) rfl ?_); refine box_event ?hg (N := 5) ?hd (cs := (cs44 f).toArray) (t := 44) ?hr ?_; (case hd => rfl); (case hg => rfl); (case hr => first | (go_simp; done) | (go_simp; rfl)); intro g2 hg w2 hbox hb; have S2 := S1.box hg hbox hb; clear hg hbox hb; clear S1; have c23 := S2.cell (b := ⟨g2, (cs44 f).toArray, 44⟩) (by simp) hc23; have c29 := S2.cell (b := ⟨g2, (cs44 f).toArray, 44⟩) (by simp) hc29; have c30 := S2.cell (b := ⟨g2, (cs44 f).toArray, 44⟩) (by simp) hc30) | (go_at_call 17; (with_reducible refine (HS.out _ (Kd.C_below HR0.out S2.below)).mono ?_); rintro e_ w3 ⟨rfl, hB_⟩; have S3 := S2.call hB_; clear hB_; clear S2; have c23 := S3.cell (b := ⟨g2, (cs44 f).toArray, 44⟩) (by simp) hc23; have c29 := S3.cell (b := ⟨g2, (cs44 f).toArray, 44⟩) (by simp) hc29; have c30 := S3.cell (b := ⟨g2, (cs44 f).toArray, 44⟩) (by simp) hc30) | ((with_reducible refine gate_dst (N := 23) rfl ?_); (try refine gate_guard (by first | rfl | decide | kernel_rfl) ?_); refine wpList_load_row rfl 23 _ rfl g1 rfl 23 cf.cs.toArray (0, 0) _ (S3.heap ⟨g1, cf.cs.toArray, 23⟩ (by simp)) Try.underlying23 rfl cf.size ?_) | ((with_reducible refine gate_dst (N := 25) rfl ?_); refine wpList_load_row rfl 44 _ rfl g2 rfl 44 (cs44 f).toArray (0, 0) _ (S3.heap ⟨g2, (cs44 f).toArray, 44⟩ (by simp)) Try.underlying44 rfl (by kernel_rfl) ?_) | (go_at_call 12; (with_reducible refine (ST.out _ (Kd.C_below HR0.out S3.below)).mono ?_); rintro e_ w4 ⟨rfl, hB_⟩; have S4 := S3.call hB_; clear hB_; clear S3; have c23 := S4.cell (b := ⟨g2, (cs44 f).toArray, 44⟩) (by simp) hc23; have c29 := S4.cell (b := ⟨g2, (cs44 f).toArray, 44⟩) (by simp) hc29; have c30 := S4.cell (b := ⟨g2, (cs44 f).toArray, 44⟩) (by simp) hc30) | ((with_reducible refine gate_dst (N := 31) rfl ?_); (try refine gate_guard (by first | rfl | decide | kernel_rfl) ?_); refine wpList_load_row rfl 23 _ rfl g1 rfl 23 cf.cs.toArray (0, 0) _ (S4.heap ⟨g1, cf.cs.toArray, 23⟩ (by simp)) Try.underlying23 rfl cf.size ?_) | (go_at_call 10; (with_reducible refine (RM.out _ (Kd.C_below HR0.out S4.below)).mono ?_); rintro e_ w5 ⟨rfl, hB_⟩; have S5 := S4.call hB_; clear hB_; clear S4) | (go_at_call 7; (with_reducible refine (awake _).mono ?_); rintro e_ w6 ⟨rfl, hB_⟩; have S6 := S5.call hB_; clear hB_; clear S5))
        go_ret
        exact ⟨rfl, S6.below⟩
      | true =>
        have ST := Aside0.mk (fun w_ (hC_ : Kd.C k44 w_ A0 l.length l) => (start cf A0 c0 l f w_ hC_ HC0.out (by have := HL.out; omega)).mono (R' := fun e w' => (∃ v, e = .returned (.tuple #[v, .bool true]) ∧ Kd.R k44 44 w' w_.heap.size (fun _ => True) v (l ++ [begX m d f])) ∧ Below w_.heap.size w_ w') fun e w' ⟨⟨v, h1, _, h3⟩, hb⟩ => by rw [hr] at h1; exact ⟨⟨v, h1, h3 hr⟩, hb⟩)
        have hlt := room_lat hr
        clear hr
        by_cases e5 : f.f1 = 5
        · have HNR := Aside0.mk (show 1 ≤ wi f.f2 ∧ wi f.f2 ≤ 32 from wi_rng _)
          have hM : ∃ M_, l ++ [begX m d f] = M_ := ⟨_, rfl⟩
          obtain ⟨M, hM⟩ := hM
          have hb_ : begX m d f = {f with f2 := wi f.f2} := by unfold begX; rw [if_pos e5]
          have HEY := Aside0.mk (fun (i : Nat) (hi : (i : Int) < wi f.f2) => (early (g := f) (v := wi f.f2) HSL.out HNR.out.2 hi : hasX (doneX (tks i (l ++ [{f with f2 := wi f.f2}]))) f.f0.f1 = false))
          have HLY := Aside0.mk (fun (i : Nat) (hi : (i : Int) = wi f.f2) => (late (l := l) (g := f) (v := wi f.f2) HNR.out.2 hi : hasX (doneX (tks i (l ++ [{f with f2 := wi f.f2}]))) f.f0.f1 = true))
          rw [← hb_, hM] at HEY HLY
          have HMM := Aside0.mk hM
          rw [hM] at ST
          have HLM := Aside0.mk (show M.length ≤ 1000 by rw [← hM]; have := HL.out; simp; omega)
          have HDL := Aside0.mk (fun i => (show (doneX (tks i M)).length ≤ 1000 by unfold doneX; rw [srtX_len]; exact Nat.le_trans (List.length_filter_le _ _) (by rw [tks_len]; exact HLM.out)))
          clear hM hb_
          have e5b : (f.f1 == 5) = true := beq_iff_eq.mpr e5
          clear e5 hlt
          obtain ⟨NN, hNN⟩ : ∃ n_, wi f.f2 = n_ := ⟨_, rfl⟩
          rw [hNN] at HNR HEY HLY
          have hn := hNN
          unfold wi at hn
          obtain ⟨j2, h2⟩ : ∃ j_ : Int, (mx f.f2 1) = j_ := ⟨_, rfl⟩
          rw [h2] at hn
          have h2_ : (if f.f2 < 1 then 1 else f.f2) = j2 := h2
          have h3_ : (if 32 < j2 then 32 else j2) = NN := hn
          have n1 : decide (NN < 1) = false := decide_eq_false (by have := HNR.out; omega)
          have n2 : decide (32 < NN) = false := decide_eq_false (by have := HNR.out; omega)
          clear h2 hn hNN
          go_enter Try.func5, Try.ntmps5
          go_wp2_with (first | ((with_reducible refine gate_dst (N := 3) rfl ?_); refine box_event ?hg (N := 3) ?hd (cs := cf.cs.toArray) (t := 23) ?hr ?_; (case hd => rfl); (case hg => rfl); (case hr => first | (go_simp; done) | (go_simp; rfl)); intro g1 hg w1 hbox hb; have S1 := S0.box hg hbox hb; clear hg hbox hb; clear S0) | ((with_reducible refine gate_dst (N := 5) rfl ?_); refine box_event ?hg (N := 5) ?hd (cs := (cs44 f).toArray) (t := 44) ?hr ?_; (case hd => rfl); (case hg => rfl); (case hr => first | (go_simp; done) | (go_simp; rfl)); intro g2 hg w2 hbox hb; have S2 := S1.box hg hbox hb; clear hg hbox hb; clear S1; have c23 := S2.cell (b := ⟨g2, (cs44 f).toArray, 44⟩) (by simp) hc23; have c29 := S2.cell (b := ⟨g2, (cs44 f).toArray, 44⟩) (by simp) hc29; have c30 := S2.cell (b := ⟨g2, (cs44 f).toArray, 44⟩) (by simp) hc30) | (go_at_call 17; (with_reducible refine (HS.out _ (Kd.C_below HR0.out S2.below)).mono ?_); rintro e_ w3 ⟨rfl, hB_⟩; have S3 := S2.call hB_; clear hB_; clear S2; have c23 := S3.cell (b := ⟨g2, (cs44 f).toArray, 44⟩) (by simp) hc23; have c29 := S3.cell (b := ⟨g2, (cs44 f).toArray, 44⟩) (by simp) hc29; have c30 := S3.cell (b := ⟨g2, (cs44 f).toArray, 44⟩) (by simp) hc30) | ((with_reducible refine gate_dst (N := 23) rfl ?_); (try refine gate_guard (by first | rfl | decide | kernel_rfl) ?_); refine wpList_load_row rfl 23 _ rfl g1 rfl 23 cf.cs.toArray (0, 0) _ (S3.heap ⟨g1, cf.cs.toArray, 23⟩ (by simp)) Try.underlying23 rfl cf.size ?_) | ((with_reducible refine gate_dst (N := 25) rfl ?_); refine wpList_load_row rfl 44 _ rfl g2 rfl 44 (cs44 f).toArray (0, 0) _ (S3.heap ⟨g2, (cs44 f).toArray, 44⟩ (by simp)) Try.underlying44 rfl (by kernel_rfl) ?_) | (go_at_call 12; (with_reducible refine (ST.out _ (Kd.C_below HR0.out S3.below)).mono ?_); rintro e_ w4 ⟨⟨v4, rfl, hR_⟩, hB_⟩; have S4 := S3.call hB_; have HOm := Aside0.mk (Kd.R_lower hR_ (below_size S3.below)); clear hR_ hB_; clear S3; have c23 := S4.cell (b := ⟨g2, (cs44 f).toArray, 44⟩) (by simp) hc23; have c29 := S4.cell (b := ⟨g2, (cs44 f).toArray, 44⟩) (by simp) hc29; have c30 := S4.cell (b := ⟨g2, (cs44 f).toArray, 44⟩) (by simp) hc30) | ((with_reducible refine gate_dst (N := 40) rfl ?_); (try refine gate_guard (by first | rfl | decide | kernel_rfl) ?_); refine wpList_load_row rfl 23 _ rfl g1 rfl 23 cf.cs.toArray (0, 0) _ (S4.heap ⟨g1, cf.cs.toArray, 23⟩ (by simp)) Try.underlying23 rfl cf.size ?_) | (go_at_call 8; (with_reducible refine (lat cf f.f1 _).mono ?_); rintro e_ w5 ⟨rfl, hB_⟩; have S5 := S4.call hB_; have HOm5 := Aside0.mk (Kd.R_below HOm.out hB_); clear hB_; clear S4; have c23 := S5.cell (b := ⟨g2, (cs44 f).toArray, 44⟩) (by simp) hc23; have c29 := S5.cell (b := ⟨g2, (cs44 f).toArray, 44⟩) (by simp) hc29; have c30 := S5.cell (b := ⟨g2, (cs44 f).toArray, 44⟩) (by simp) hc30))
          have HO0 := Aside0.mk HOm5
          go_loopg [7, 10] (NN).toNat (fun kq v7 v10 w' => ∃ (x : Int), v10 = .int .i64 x ∧ Aside0 (0 ≤ x ∧ x + kq = NN) ∧ Aside0 (Kd.R k44 44 w' w.heap.size (fun _ => True) v7 (tks x.toNat M)) ∧ Aside0 (St w w' [⟨g2, (cs44 f).toArray, 44⟩, ⟨g1, cf.cs.toArray, 23⟩]))
          case atStart => exact ⟨0, (by first | rfl | (simp; done)), ⟨by have := HNR.out; omega⟩, ⟨by simpa [tks] using HOm5.out⟩, ⟨S5⟩⟩
          case round =>
            clear HOm5 HO0 S5
            obtain ⟨x, rfl, HX, HO, HSt⟩ := hrel
            by_cases c : x < NN
            · have cb : decide (x < NN) = true := decide_eq_true c
              have CC := Aside0.mk c
              have HN := Aside0.mk (wrap_i (x := x + 1) (by have := HX.out; omega) (by have := HNR.out; omega))
              have HHS := Aside0.mk (fun A_ c_ w_ (hC_ : Kd.C k44 w_ A_ (doneX (tks x.toNat M)).length (doneX (tks x.toNat M))) (hc_ : (doneX (tks x.toNat M)).length ≤ c_) => has A_ c_ (doneX (tks x.toNat M)) f.f0.f1 w_ hC_ hc_ (HDL.out _))
              rw [show hasX (doneX (tks x.toNat M)) f.f0.f1 = false from HEY.out _ (by have := HX.out; omega)] at HHS
              clear c
              obtain ⟨Am, cm, em⟩ := Kd.R_slice HO.out
              subst em
              have hcm := (Kd.R_reads' HO.out).2.1
              have HCM := Aside0.mk hcm
              clear hcm
              have HML := Aside0.mk (show (tks x.toNat M).length ≤ 1000 by rw [tks_len]; exact HLM.out)
              have S6 := HSt.out
              have c23 := S6.cell (b := ⟨g2, (cs44 f).toArray, 44⟩) (by simp) hc23
              try go_wp2
              refine start_ (n := 6) (S := fun w_ => w_.cell? ⟨g2, 23, none⟩ = some (.int .u64 f.f0.f1)) (ds := [5]) #[false, false, false, false, false, false] (by kernel_rfl) rfl rfl ((S6.drew.cell (b := ⟨g2, (cs44 f).toArray, 44⟩) (by simp) hc23)) (fun hHeld => ?_)
              have S7 := S6.drew
              have HO7 := Aside0.mk (Kd.R_below HO.out (below_drew (Below.refl _ _)))
              generalize World.drew _ = w10 at S7 HO7 hHeld ⊢
              refine pure_ (i := 0) (N := some 62) (v := ?_) (a' := ?_) #[true, false, false, false, false, false] rfl rfl (by kernel_rfl) (fun _ _ _ h => h) (Or.inl ⟨by rfl, ?_⟩) ?_ ?_
              rotate_left
              · intro w'
                go_simp
                with_reducible rfl
              rotate_left
              · simp only [Act.put, List.setIfInBounds_toArray, List.set_cons_zero, List.set_cons_succ]
                rfl
              refine pure_ (i := 2) (N := some 64) (v := ?_) (a' := ?_) #[true, false, true, false, false, false] rfl rfl (by kernel_rfl) (fun _ _ _ h => h) (Or.inl ⟨by rfl, ?_⟩) ?_ ?_
              rotate_left
              · intro w'
                go_simp
                with_reducible rfl
              rotate_left
              · simp only [Act.put, List.setIfInBounds_toArray, List.set_cons_zero, List.set_cons_succ]
                rfl
              refine pure_ (i := 3) (N := some 65) (v := ?_) (a' := ?_) #[true, false, true, true, false, false] rfl rfl (by kernel_rfl) (fun _ _ _ h => h) (Or.inl ⟨by rfl, ?_⟩) ?_ ?_
              rotate_left
              · intro w'
                go_simp
                with_reducible rfl
              rotate_left
              · simp only [Act.put, List.setIfInBounds_toArray, List.set_cons_zero, List.set_cons_succ]
                rfl
              refine take_ (i := 4) (N := some 66) (v := .int .u64 f.f0.f1) (a' := ?_) #[true, false, true, true, true, false] rfl rfl (by kernel_rfl) (fun _ _ _ h => h) (Or.inl ⟨by rfl, fun w_ hw_ => exec_load_cell 40 _ rfl g2 23 rfl _ _ hw_ Try.underlying40 rfl⟩) hHeld ?_ ?_
              rotate_left
              · simp only [Act.put, List.setIfInBounds_toArray, List.set_cons_zero, List.set_cons_succ]
                rfl
              refine one_ (i := 1) (N := some 63) #[true, true, true, true, true, false] rfl rfl (by kernel_rfl) (by decide) (fun K hK => ?_)
              refine goes_ Try.func18 (by kernel_rfl) rfl #[.slice Am (tks x.toNat M).length cm] rfl rfl rfl (by (try simp only [List.map_toArray, List.map_cons, List.map_nil]); first | done | rfl) ?_
              refine (done Am cm (tks x.toNat M) _ (Kd.R_reads' HO7.out).2.2 HCM.out HML.out).mono ?_
              rintro e_ w11 ⟨v11, rfl, hR_, hB_⟩
              obtain ⟨Ad, cd, ed⟩ := Kd.R_slice hR_
              subst ed
              refine ⟨_, rfl, ?_⟩
              have S8 := S7.call hB_
              have HO8 := Aside0.mk (Kd.R_below HO7.out hB_)
              have HD8 := Aside0.mk hR_
              clear hR_ hB_
              refine hK.out _ _ (S8.cell (b := ⟨g2, (cs44 f).toArray, 44⟩) (by simp) hc23) (fun hHeld => ?_)
              clear hK K
              simp only [Act.put, List.setIfInBounds_toArray, List.set_cons_zero, List.set_cons_succ]
              refine last_ (i := 5) (N := some 67) #[true, true, true, true, true, true] rfl rfl (by kernel_rfl) (by decide) (fun K hK => ?_)
              refine goes_ Try.func17 (by kernel_rfl) rfl #[.slice Ad (doneX (tks x.toNat M)).length cd, .int .u64 f.f0.f1] rfl rfl rfl (by (try simp only [List.map_toArray, List.map_cons, List.map_nil]); first | done | rfl) ?_
              refine (HHS.out Ad cd _ (Kd.R_reads' HD8.out).2.2 (Kd.R_reads' HD8.out).2.1).mono ?_
              rintro e_ w12 ⟨rfl, hB_⟩
              refine ⟨_, rfl, ?_⟩
              refine hK.out _ _ ?_
              clear hK K
              have S9 := S8.call hB_
              have HO9 := Aside0.mk (Kd.R_below HO8.out hB_)
              clear hB_
              simp only [Act.put, List.setIfInBounds_toArray, List.set_cons_zero, List.set_cons_succ]
              refine done_ (by kernel_rfl) ?_
              go_wp2_with (first | (go_at_call 15; (with_reducible refine (tick Am cm (tks x.toNat M) _ (Kd.R_reads' HO9.out).2.2 HCM.out HML.out).mono ?_); rintro e_ w14 ⟨v14, rfl, hR_, hB_⟩; have S10 := S9.call hB_; have HO14 := Aside0.mk (Kd.R_lower hR_ (below_size S9.below)); clear hR_ hB_))
              go_roundg (gk - 1)
              case measure => have := HX.out; have := CC.out; omega
              case rel => exact ⟨x + 1, (by first | rfl | (simp; done) | (simp [HN.out]; done)), ⟨by have := HX.out; have := CC.out; omega⟩, ⟨by have e_ : (x + 1).toNat = x.toNat + 1 := (by have := HX.out; omega); rw [e_]; exact HO14.out⟩, ⟨S10⟩⟩
            · have cb : decide (x < NN) = false := decide_eq_false c
              have hx : x = NN := by have := HX.out; omega
              have HHS := Aside0.mk (fun A_ c_ w_ (hC_ : Kd.C k44 w_ A_ (doneX (tks x.toNat M)).length (doneX (tks x.toNat M))) (hc_ : (doneX (tks x.toNat M)).length ≤ c_) => has A_ c_ (doneX (tks x.toNat M)) f.f0.f1 w_ hC_ hc_ (HDL.out _))
              rw [show hasX (doneX (tks x.toNat M)) f.f0.f1 = true from HLY.out _ (by have := HX.out; omega)] at HHS
              have hlen : ((tks x.toNat M).length : Int) = (l.length : Int) + 1 := by rw [tks_len, ← HMM.out]; simp
              obtain ⟨n9, hn9⟩ : ∃ n_ : Int, wrap64 ((l.length : Int) + 1) = n_ := ⟨_, rfl⟩
              have hn9w : IntKind.i64.wrap ((l.length : Int) + 1) = n9 := (i64_w _).trans hn9
              have hlw : (((tks x.toNat M).length : Int) == n9) = true := by rw [← hn9, wrap_i (by omega) (by have := HL.out; omega)]; exact beq_iff_eq.mpr hlen
              clear c hx hlen
              obtain ⟨Am, cm, em⟩ := Kd.R_slice HO.out
              subst em
              have hcm := (Kd.R_reads' HO.out).2.1
              have HCM := Aside0.mk hcm
              clear hcm
              have HML := Aside0.mk (show (tks x.toNat M).length ≤ 1000 by rw [tks_len]; exact HLM.out)
              have S6 := HSt.out
              have c23 := S6.cell (b := ⟨g2, (cs44 f).toArray, 44⟩) (by simp) hc23
              try go_wp2
              refine start_ (n := 18) (S := fun w_ => w_.cell? ⟨g2, 23, none⟩ = some (.int .u64 f.f0.f1)) (ds := [5, 15]) #[false, false, false, false, false, false, false, false, false, false, false, false, false, false, false, false, false, false] (by kernel_rfl) rfl rfl ((S6.drew.cell (b := ⟨g2, (cs44 f).toArray, 44⟩) (by simp) hc23)) (fun hHeld => ?_)
              have S7 := S6.drew
              have HO7 := Aside0.mk (Kd.R_below HO.out (below_drew (Below.refl _ _)))
              generalize World.drew _ = w10 at S7 HO7 hHeld ⊢
              refine pure_ (i := 0) (N := some 70) (v := ?_) (a' := ?_) #[true, false, false, false, false, false, false, false, false, false, false, false, false, false, false, false, false, false] rfl rfl (by kernel_rfl) (fun _ _ _ h => h) (Or.inl ⟨by rfl, ?_⟩) ?_ ?_
              rotate_left
              · intro w'
                go_simp
                with_reducible rfl
              rotate_left
              · simp only [Act.put, List.setIfInBounds_toArray, List.set_cons_zero, List.set_cons_succ]
                rfl
              refine pure_ (i := 2) (N := some 72) (v := ?_) (a' := ?_) #[true, false, true, false, false, false, false, false, false, false, false, false, false, false, false, false, false, false] rfl rfl (by kernel_rfl) (fun _ _ _ h => h) (Or.inl ⟨by rfl, ?_⟩) ?_ ?_
              rotate_left
              · intro w'
                go_simp
                with_reducible rfl
              rotate_left
              · simp only [Act.put, List.setIfInBounds_toArray, List.set_cons_zero, List.set_cons_succ]
                rfl
              refine pure_ (i := 3) (N := some 73) (v := ?_) (a' := ?_) #[true, false, true, true, false, false, false, false, false, false, false, false, false, false, false, false, false, false] rfl rfl (by kernel_rfl) (fun _ _ _ h => h) (Or.inl ⟨by rfl, ?_⟩) ?_ ?_
              rotate_left
              · intro w'
                go_simp
                with_reducible rfl
              rotate_left
              · simp only [Act.put, List.setIfInBounds_toArray, List.set_cons_zero, List.set_cons_succ]
                rfl
              refine take_ (i := 4) (N := some 74) (v := .int .u64 f.f0.f1) (a' := ?_) #[true, false, true, true, true, false, false, false, false, false, false, false, false, false, false, false, false, false] rfl rfl (by kernel_rfl) (fun _ _ _ h => h) (Or.inl ⟨by rfl, fun w_ hw_ => exec_load_cell 40 _ rfl g2 23 rfl _ _ hw_ Try.underlying40 rfl⟩) hHeld ?_ ?_
              rotate_left
              · simp only [Act.put, List.setIfInBounds_toArray, List.set_cons_zero, List.set_cons_succ]
                rfl
              refine one_ (i := 1) (N := some 71) #[true, true, true, true, true, false, false, false, false, false, false, false, false, false, false, false, false, false] rfl rfl (by kernel_rfl) (by decide) (fun K hK => ?_)
              refine goes_ Try.func18 (by kernel_rfl) rfl #[.slice Am (tks x.toNat M).length cm] rfl rfl rfl (by (try simp only [List.map_toArray, List.map_cons, List.map_nil]); first | done | rfl) ?_
              refine (done Am cm (tks x.toNat M) _ (Kd.R_reads' HO7.out).2.2 HCM.out HML.out).mono ?_
              rintro e_ w11 ⟨v11, rfl, hR_, hB_⟩
              obtain ⟨Ad, cd, ed⟩ := Kd.R_slice hR_
              subst ed
              refine ⟨_, rfl, ?_⟩
              have S8 := S7.call hB_
              have HO8 := Aside0.mk (Kd.R_below HO7.out hB_)
              have HD8 := Aside0.mk hR_
              clear hR_ hB_
              refine hK.out _ _ (S8.cell (b := ⟨g2, (cs44 f).toArray, 44⟩) (by simp) hc23) (fun hHeld => ?_)
              clear hK K
              simp only [Act.put, List.setIfInBounds_toArray, List.set_cons_zero, List.set_cons_succ]
              refine last_ (i := 5) (N := some 75) #[true, true, true, true, true, true, false, false, false, false, false, false, false, false, false, false, false, false] rfl rfl (by kernel_rfl) (by decide) (fun K hK => ?_)
              refine goes_ Try.func17 (by kernel_rfl) rfl #[.slice Ad (doneX (tks x.toNat M)).length cd, .int .u64 f.f0.f1] rfl rfl rfl (by (try simp only [List.map_toArray, List.map_cons, List.map_nil]); first | done | rfl) ?_
              refine (HHS.out Ad cd _ (Kd.R_reads' HD8.out).2.2 (Kd.R_reads' HD8.out).2.1).mono ?_
              rintro e_ w12 ⟨rfl, hB_⟩
              refine ⟨_, rfl, ?_⟩
              refine hK.out _ _ ?_
              clear hK K
              have S9 := S8.call hB_
              have HO9 := Aside0.mk (Kd.R_below HO8.out hB_)
              clear hB_
              simp only [Act.put, List.setIfInBounds_toArray, List.set_cons_zero, List.set_cons_succ]
              refine pure_ (i := 6) (N := some 76) (v := ?_) (a' := ?_) #[true, true, true, true, true, true, true, false, false, false, false, false, false, false, false, false, false, false] rfl rfl (by kernel_rfl) (fun _ _ _ h => h) (Or.inl ⟨by rfl, ?_⟩) ?_ ?_
              rotate_left
              · intro w'
                go_simp
                with_reducible rfl
              rotate_left
              · simp only [Act.put, List.setIfInBounds_toArray, List.set_cons_zero, List.set_cons_succ]
                rfl
              refine pure_ (i := 7) (N := some 77) (v := ?_) (a' := ?_) #[true, true, true, true, true, true, true, true, false, false, false, false, false, false, false, false, false, false] rfl rfl (by kernel_rfl) (fun _ _ _ h => h) (Or.inl ⟨by rfl, ?_⟩) ?_ ?_
              rotate_left
              · intro w'
                go_simp
                with_reducible rfl
              rotate_left
              · simp only [Act.put, List.setIfInBounds_toArray, List.set_cons_zero, List.set_cons_succ]
                rfl
              refine pure_ (i := 8) (N := some 78) (v := ?_) (a' := ?_) #[true, true, true, true, true, true, true, true, true, false, false, false, false, false, false, false, false, false] rfl rfl (by kernel_rfl) (fun _ _ _ h => h) (Or.inl ⟨by rfl, ?_⟩) ?_ ?_
              rotate_left
              · intro w'
                go_simp
                with_reducible rfl
              rotate_left
              · simp only [Act.put, List.setIfInBounds_toArray, List.set_cons_zero, List.set_cons_succ]
                rfl
              refine pure_ (i := 9) (N := some 79) (v := ?_) (a' := ?_) #[true, true, true, true, true, true, true, true, true, true, false, false, false, false, false, false, false, false] rfl rfl (by kernel_rfl) (fun _ _ _ h => h) (Or.inl ⟨by rfl, ?_⟩) ?_ ?_
              rotate_left
              · intro w'
                go_simp
                with_reducible rfl
              rotate_left
              · simp only [Act.put, List.setIfInBounds_toArray, List.set_cons_zero, List.set_cons_succ]
                rfl
              refine pure_ (i := 10) (N := some 80) (v := ?_) (a' := ?_) #[true, true, true, true, true, true, true, true, true, true, true, false, false, false, false, false, false, false] rfl rfl (by kernel_rfl) (fun _ _ _ h => h) (Or.inl ⟨by rfl, ?_⟩) ?_ ?_
              rotate_left
              · intro w'
                go_simp
                with_reducible rfl
              rotate_left
              · simp only [Act.put, List.setIfInBounds_toArray, List.set_cons_zero, List.set_cons_succ]
                rfl
              refine pure_ (i := 11) (N := some 81) (v := ?_) (a' := ?_) #[true, true, true, true, true, true, true, true, true, true, true, true, false, false, false, false, false, false] rfl rfl (by kernel_rfl) (fun _ _ _ h => h) (Or.inl ⟨by rfl, ?_⟩) ?_ ?_
              rotate_left
              · intro w'
                go_simp
                with_reducible rfl
              rotate_left
              · simp only [Act.put, List.setIfInBounds_toArray, List.set_cons_zero, List.set_cons_succ]
                rfl
              refine pure_ (i := 12) (N := some 82) (v := ?_) (a' := ?_) #[true, true, true, true, true, true, true, true, true, true, true, true, true, false, false, false, false, false] rfl rfl (by kernel_rfl) (fun _ _ _ h => h) (Or.inl ⟨by rfl, ?_⟩) ?_ ?_
              rotate_left
              · intro w'
                go_simp
                with_reducible rfl
              rotate_left
              · simp only [Act.put, List.setIfInBounds_toArray, List.set_cons_zero, List.set_cons_succ]
                rfl
              refine pure_ (i := 13) (N := some 83) (v := ?_) (a' := ?_) #[true, true, true, true, true, true, true, true, true, true, true, true, true, true, false, false, false, false] rfl rfl (by kernel_rfl) (fun _ _ _ h => h) (Or.inl ⟨by rfl, ?_⟩) ?_ ?_
              rotate_left
              · intro w'
                go_simp
                with_reducible rfl
              rotate_left
              · simp only [Act.put, List.setIfInBounds_toArray, List.set_cons_zero, List.set_cons_succ]
                rfl
              refine pure_ (i := 14) (N := some 84) (v := ?_) (a' := ?_) #[true, true, true, true, true, true, true, true, true, true, true, true, true, true, true, false, false, false] rfl rfl (by kernel_rfl) (fun _ _ _ h => h) (Or.inl ⟨by rfl, ?_⟩) ?_ ?_
              rotate_left
              · intro w'
                go_simp
                with_reducible rfl
              rotate_left
              · simp only [Act.put, List.setIfInBounds_toArray, List.set_cons_zero, List.set_cons_succ]
                rfl
              refine last_ (i := 15) (N := some 85) #[true, true, true, true, true, true, true, true, true, true, true, true, true, true, true, true, false, false] rfl rfl (by kernel_rfl) (by decide) (fun K hK => ?_)
              refine goes_ Try.func7 (by kernel_rfl) rfl #[] rfl rfl rfl (by (try simp only [List.map_toArray, List.map_cons, List.map_nil]); first | done | rfl) ?_
              refine (awake _).mono ?_
              rintro e_ w13 ⟨rfl, hB_⟩
              refine ⟨_, rfl, ?_⟩
              refine hK.out _ _ ?_
              clear hK K
              have S10 := S9.call hB_
              clear hB_
              simp only [Act.put, List.setIfInBounds_toArray, List.set_cons_zero, List.set_cons_succ]
              refine pure_ (i := 16) (N := some 86) (v := ?_) (a' := ?_) #[true, true, true, true, true, true, true, true, true, true, true, true, true, true, true, true, true, false] rfl rfl (by kernel_rfl) (fun _ _ _ h => h) (Or.inl ⟨by rfl, ?_⟩) ?_ ?_
              rotate_left
              · intro w'
                go_simp
                with_reducible rfl
              rotate_left
              · simp only [Act.put, List.setIfInBounds_toArray, List.set_cons_zero, List.set_cons_succ]
                rfl
              refine pure_ (i := 17) (N := some 6) (v := ?_) (a' := ?_) #[true, true, true, true, true, true, true, true, true, true, true, true, true, true, true, true, true, true] rfl rfl (by kernel_rfl) (fun _ _ _ h => h) (Or.inl ⟨by rfl, ?_⟩) ?_ ?_
              rotate_left
              · intro w'
                go_simp
                with_reducible rfl
              rotate_left
              · simp only [Act.put, List.setIfInBounds_toArray, List.set_cons_zero, List.set_cons_succ]
                rfl
              refine done_ (by kernel_rfl) ?_
              go_wp2
              go_ret
              exact ⟨rfl, S10.below⟩
        · have HNR := Aside0.mk (show 1 ≤ latX m d f.f1 ∧ latX m d f.f1 ≤ 32 from hlt)
          have hM : ∃ M_, l ++ [begX m d f] = M_ := ⟨_, rfl⟩
          obtain ⟨M, hM⟩ := hM
          have hb_ : begX m d f = {f with f2 := latX m d f.f1} := by unfold begX; rw [if_neg e5]
          have HEY := Aside0.mk (fun (i : Nat) (hi : (i : Int) < latX m d f.f1) => (early (g := f) (v := latX m d f.f1) HSL.out HNR.out.2 hi : hasX (doneX (tks i (l ++ [{f with f2 := latX m d f.f1}]))) f.f0.f1 = false))
          have HLY := Aside0.mk (fun (i : Nat) (hi : (i : Int) = latX m d f.f1) => (late (l := l) (g := f) (v := latX m d f.f1) HNR.out.2 hi : hasX (doneX (tks i (l ++ [{f with f2 := latX m d f.f1}]))) f.f0.f1 = true))
          rw [← hb_, hM] at HEY HLY
          have HMM := Aside0.mk hM
          rw [hM] at ST
          have HLM := Aside0.mk (show M.length ≤ 1000 by rw [← hM]; have := HL.out; simp; omega)
          have HDL := Aside0.mk (fun i => (show (doneX (tks i M)).length ≤ 1000 by unfold doneX; rw [srtX_len]; exact Nat.le_trans (List.length_filter_le _ _) (by rw [tks_len]; exact HLM.out)))
          clear hM hb_
          have e5b : (f.f1 == 5) = false := beq_eq_false_iff_ne.mpr e5
          clear e5 hlt
          have LTF := Aside0.mk (fun w_ => lat cf f.f1 w_)
          obtain ⟨NN, hNN⟩ : ∃ n_, latX m d f.f1 = n_ := ⟨_, rfl⟩
          rw [hNN] at HNR HEY HLY LTF
          have n1 : decide (NN < 1) = false := decide_eq_false (by have := HNR.out; omega)
          have n2 : decide (32 < NN) = false := decide_eq_false (by have := HNR.out; omega)
          clear hNN
          go_enter Try.func5, Try.ntmps5
          go_wp2_with (first | ((with_reducible refine gate_dst (N := 3) rfl ?_); refine box_event ?hg (N := 3) ?hd (cs := cf.cs.toArray) (t := 23) ?hr ?_; (case hd => rfl); (case hg => rfl); (case hr => first | (go_simp; done) | (go_simp; rfl)); intro g1 hg w1 hbox hb; have S1 := S0.box hg hbox hb; clear hg hbox hb; clear S0) | ((with_reducible refine gate_dst (N := 5) rfl ?_); refine box_event ?hg (N := 5) ?hd (cs := (cs44 f).toArray) (t := 44) ?hr ?_; (case hd => rfl); (case hg => rfl); (case hr => first | (go_simp; done) | (go_simp; rfl)); intro g2 hg w2 hbox hb; have S2 := S1.box hg hbox hb; clear hg hbox hb; clear S1; have c23 := S2.cell (b := ⟨g2, (cs44 f).toArray, 44⟩) (by simp) hc23; have c29 := S2.cell (b := ⟨g2, (cs44 f).toArray, 44⟩) (by simp) hc29; have c30 := S2.cell (b := ⟨g2, (cs44 f).toArray, 44⟩) (by simp) hc30) | (go_at_call 17; (with_reducible refine (HS.out _ (Kd.C_below HR0.out S2.below)).mono ?_); rintro e_ w3 ⟨rfl, hB_⟩; have S3 := S2.call hB_; clear hB_; clear S2; have c23 := S3.cell (b := ⟨g2, (cs44 f).toArray, 44⟩) (by simp) hc23; have c29 := S3.cell (b := ⟨g2, (cs44 f).toArray, 44⟩) (by simp) hc29; have c30 := S3.cell (b := ⟨g2, (cs44 f).toArray, 44⟩) (by simp) hc30) | ((with_reducible refine gate_dst (N := 23) rfl ?_); (try refine gate_guard (by first | rfl | decide | kernel_rfl) ?_); refine wpList_load_row rfl 23 _ rfl g1 rfl 23 cf.cs.toArray (0, 0) _ (S3.heap ⟨g1, cf.cs.toArray, 23⟩ (by simp)) Try.underlying23 rfl cf.size ?_) | ((with_reducible refine gate_dst (N := 25) rfl ?_); refine wpList_load_row rfl 44 _ rfl g2 rfl 44 (cs44 f).toArray (0, 0) _ (S3.heap ⟨g2, (cs44 f).toArray, 44⟩ (by simp)) Try.underlying44 rfl (by kernel_rfl) ?_) | (go_at_call 12; (with_reducible refine (ST.out _ (Kd.C_below HR0.out S3.below)).mono ?_); rintro e_ w4 ⟨⟨v4, rfl, hR_⟩, hB_⟩; have S4 := S3.call hB_; have HOm := Aside0.mk (Kd.R_lower hR_ (below_size S3.below)); clear hR_ hB_; clear S3; have c23 := S4.cell (b := ⟨g2, (cs44 f).toArray, 44⟩) (by simp) hc23; have c29 := S4.cell (b := ⟨g2, (cs44 f).toArray, 44⟩) (by simp) hc29; have c30 := S4.cell (b := ⟨g2, (cs44 f).toArray, 44⟩) (by simp) hc30) | ((with_reducible refine gate_dst (N := 40) rfl ?_); (try refine gate_guard (by first | rfl | decide | kernel_rfl) ?_); refine wpList_load_row rfl 23 _ rfl g1 rfl 23 cf.cs.toArray (0, 0) _ (S4.heap ⟨g1, cf.cs.toArray, 23⟩ (by simp)) Try.underlying23 rfl cf.size ?_) | (go_at_call 8; (with_reducible refine (LTF.out _).mono ?_); rintro e_ w5 ⟨rfl, hB_⟩; have S5 := S4.call hB_; have HOm5 := Aside0.mk (Kd.R_below HOm.out hB_); clear hB_; clear S4; have c23 := S5.cell (b := ⟨g2, (cs44 f).toArray, 44⟩) (by simp) hc23; have c29 := S5.cell (b := ⟨g2, (cs44 f).toArray, 44⟩) (by simp) hc29; have c30 := S5.cell (b := ⟨g2, (cs44 f).toArray, 44⟩) (by simp) hc30))
          have HO0 := Aside0.mk HOm5
          go_loopg [7, 10] (NN).toNat (fun kq v7 v10 w' => ∃ (x : Int), v10 = .int .i64 x ∧ Aside0 (0 ≤ x ∧ x + kq = NN) ∧ Aside0 (Kd.R k44 44 w' w.heap.size (fun _ => True) v7 (tks x.toNat M)) ∧ Aside0 (St w w' [⟨g2, (cs44 f).toArray, 44⟩, ⟨g1, cf.cs.toArray, 23⟩]))
          case atStart => exact ⟨0, (by first | rfl | (simp; done)), ⟨by have := HNR.out; omega⟩, ⟨by simpa [tks] using HOm5.out⟩, ⟨S5⟩⟩
          case round =>
            clear HOm5 HO0 S5
            obtain ⟨x, rfl, HX, HO, HSt⟩ := hrel
            by_cases c : x < NN
            · have cb : decide (x < NN) = true := decide_eq_true c
              have CC := Aside0.mk c
              have HN := Aside0.mk (wrap_i (x := x + 1) (by have := HX.out; omega) (by have := HNR.out; omega))
              have HHS := Aside0.mk (fun A_ c_ w_ (hC_ : Kd.C k44 w_ A_ (doneX (tks x.toNat M)).length (doneX (tks x.toNat M))) (hc_ : (doneX (tks x.toNat M)).length ≤ c_) => has A_ c_ (doneX (tks x.toNat M)) f.f0.f1 w_ hC_ hc_ (HDL.out _))
              rw [show hasX (doneX (tks x.toNat M)) f.f0.f1 = false from HEY.out _ (by have := HX.out; omega)] at HHS
              clear c
              obtain ⟨Am, cm, em⟩ := Kd.R_slice HO.out
              subst em
              have hcm := (Kd.R_reads' HO.out).2.1
              have HCM := Aside0.mk hcm
              clear hcm
              have HML := Aside0.mk (show (tks x.toNat M).length ≤ 1000 by rw [tks_len]; exact HLM.out)
              have S6 := HSt.out
              have c23 := S6.cell (b := ⟨g2, (cs44 f).toArray, 44⟩) (by simp) hc23
              try go_wp2
              refine start_ (n := 6) (S := fun w_ => w_.cell? ⟨g2, 23, none⟩ = some (.int .u64 f.f0.f1)) (ds := [5]) #[false, false, false, false, false, false] (by kernel_rfl) rfl rfl ((S6.drew.cell (b := ⟨g2, (cs44 f).toArray, 44⟩) (by simp) hc23)) (fun hHeld => ?_)
              have S7 := S6.drew
              have HO7 := Aside0.mk (Kd.R_below HO.out (below_drew (Below.refl _ _)))
              generalize World.drew _ = w10 at S7 HO7 hHeld ⊢
              refine pure_ (i := 0) (N := some 62) (v := ?_) (a' := ?_) #[true, false, false, false, false, false] rfl rfl (by kernel_rfl) (fun _ _ _ h => h) (Or.inl ⟨by rfl, ?_⟩) ?_ ?_
              rotate_left
              · intro w'
                go_simp
                with_reducible rfl
              rotate_left
              · simp only [Act.put, List.setIfInBounds_toArray, List.set_cons_zero, List.set_cons_succ]
                rfl
              refine pure_ (i := 2) (N := some 64) (v := ?_) (a' := ?_) #[true, false, true, false, false, false] rfl rfl (by kernel_rfl) (fun _ _ _ h => h) (Or.inl ⟨by rfl, ?_⟩) ?_ ?_
              rotate_left
              · intro w'
                go_simp
                with_reducible rfl
              rotate_left
              · simp only [Act.put, List.setIfInBounds_toArray, List.set_cons_zero, List.set_cons_succ]
                rfl
              refine pure_ (i := 3) (N := some 65) (v := ?_) (a' := ?_) #[true, false, true, true, false, false] rfl rfl (by kernel_rfl) (fun _ _ _ h => h) (Or.inl ⟨by rfl, ?_⟩) ?_ ?_
              rotate_left
              · intro w'
                go_simp
                with_reducible rfl
              rotate_left
              · simp only [Act.put, List.setIfInBounds_toArray, List.set_cons_zero, List.set_cons_succ]
                rfl
              refine take_ (i := 4) (N := some 66) (v := .int .u64 f.f0.f1) (a' := ?_) #[true, false, true, true, true, false] rfl rfl (by kernel_rfl) (fun _ _ _ h => h) (Or.inl ⟨by rfl, fun w_ hw_ => exec_load_cell 40 _ rfl g2 23 rfl _ _ hw_ Try.underlying40 rfl⟩) hHeld ?_ ?_
              rotate_left
              · simp only [Act.put, List.setIfInBounds_toArray, List.set_cons_zero, List.set_cons_succ]
                rfl
              refine one_ (i := 1) (N := some 63) #[true, true, true, true, true, false] rfl rfl (by kernel_rfl) (by decide) (fun K hK => ?_)
              refine goes_ Try.func18 (by kernel_rfl) rfl #[.slice Am (tks x.toNat M).length cm] rfl rfl rfl (by (try simp only [List.map_toArray, List.map_cons, List.map_nil]); first | done | rfl) ?_
              refine (done Am cm (tks x.toNat M) _ (Kd.R_reads' HO7.out).2.2 HCM.out HML.out).mono ?_
              rintro e_ w11 ⟨v11, rfl, hR_, hB_⟩
              obtain ⟨Ad, cd, ed⟩ := Kd.R_slice hR_
              subst ed
              refine ⟨_, rfl, ?_⟩
              have S8 := S7.call hB_
              have HO8 := Aside0.mk (Kd.R_below HO7.out hB_)
              have HD8 := Aside0.mk hR_
              clear hR_ hB_
              refine hK.out _ _ (S8.cell (b := ⟨g2, (cs44 f).toArray, 44⟩) (by simp) hc23) (fun hHeld => ?_)
              clear hK K
              simp only [Act.put, List.setIfInBounds_toArray, List.set_cons_zero, List.set_cons_succ]
              refine last_ (i := 5) (N := some 67) #[true, true, true, true, true, true] rfl rfl (by kernel_rfl) (by decide) (fun K hK => ?_)
              refine goes_ Try.func17 (by kernel_rfl) rfl #[.slice Ad (doneX (tks x.toNat M)).length cd, .int .u64 f.f0.f1] rfl rfl rfl (by (try simp only [List.map_toArray, List.map_cons, List.map_nil]); first | done | rfl) ?_
              refine (HHS.out Ad cd _ (Kd.R_reads' HD8.out).2.2 (Kd.R_reads' HD8.out).2.1).mono ?_
              rintro e_ w12 ⟨rfl, hB_⟩
              refine ⟨_, rfl, ?_⟩
              refine hK.out _ _ ?_
              clear hK K
              have S9 := S8.call hB_
              have HO9 := Aside0.mk (Kd.R_below HO8.out hB_)
              clear hB_
              simp only [Act.put, List.setIfInBounds_toArray, List.set_cons_zero, List.set_cons_succ]
              refine done_ (by kernel_rfl) ?_
              go_wp2_with (first | (go_at_call 15; (with_reducible refine (tick Am cm (tks x.toNat M) _ (Kd.R_reads' HO9.out).2.2 HCM.out HML.out).mono ?_); rintro e_ w14 ⟨v14, rfl, hR_, hB_⟩; have S10 := S9.call hB_; have HO14 := Aside0.mk (Kd.R_lower hR_ (below_size S9.below)); clear hR_ hB_))
              go_roundg (gk - 1)
              case measure => have := HX.out; have := CC.out; omega
              case rel => exact ⟨x + 1, (by first | rfl | (simp; done) | (simp [HN.out]; done)), ⟨by have := HX.out; have := CC.out; omega⟩, ⟨by have e_ : (x + 1).toNat = x.toNat + 1 := (by have := HX.out; omega); rw [e_]; exact HO14.out⟩, ⟨S10⟩⟩
            · have cb : decide (x < NN) = false := decide_eq_false c
              have hx : x = NN := by have := HX.out; omega
              have HHS := Aside0.mk (fun A_ c_ w_ (hC_ : Kd.C k44 w_ A_ (doneX (tks x.toNat M)).length (doneX (tks x.toNat M))) (hc_ : (doneX (tks x.toNat M)).length ≤ c_) => has A_ c_ (doneX (tks x.toNat M)) f.f0.f1 w_ hC_ hc_ (HDL.out _))
              rw [show hasX (doneX (tks x.toNat M)) f.f0.f1 = true from HLY.out _ (by have := HX.out; omega)] at HHS
              have hlen : ((tks x.toNat M).length : Int) = (l.length : Int) + 1 := by rw [tks_len, ← HMM.out]; simp
              obtain ⟨n9, hn9⟩ : ∃ n_ : Int, wrap64 ((l.length : Int) + 1) = n_ := ⟨_, rfl⟩
              have hn9w : IntKind.i64.wrap ((l.length : Int) + 1) = n9 := (i64_w _).trans hn9
              have hlw : (((tks x.toNat M).length : Int) == n9) = true := by rw [← hn9, wrap_i (by omega) (by have := HL.out; omega)]; exact beq_iff_eq.mpr hlen
              clear c hx hlen
              obtain ⟨Am, cm, em⟩ := Kd.R_slice HO.out
              subst em
              have hcm := (Kd.R_reads' HO.out).2.1
              have HCM := Aside0.mk hcm
              clear hcm
              have HML := Aside0.mk (show (tks x.toNat M).length ≤ 1000 by rw [tks_len]; exact HLM.out)
              have S6 := HSt.out
              have c23 := S6.cell (b := ⟨g2, (cs44 f).toArray, 44⟩) (by simp) hc23
              try go_wp2
              refine start_ (n := 18) (S := fun w_ => w_.cell? ⟨g2, 23, none⟩ = some (.int .u64 f.f0.f1)) (ds := [5, 15]) #[false, false, false, false, false, false, false, false, false, false, false, false, false, false, false, false, false, false] (by kernel_rfl) rfl rfl ((S6.drew.cell (b := ⟨g2, (cs44 f).toArray, 44⟩) (by simp) hc23)) (fun hHeld => ?_)
              have S7 := S6.drew
              have HO7 := Aside0.mk (Kd.R_below HO.out (below_drew (Below.refl _ _)))
              generalize World.drew _ = w10 at S7 HO7 hHeld ⊢
              refine pure_ (i := 0) (N := some 70) (v := ?_) (a' := ?_) #[true, false, false, false, false, false, false, false, false, false, false, false, false, false, false, false, false, false] rfl rfl (by kernel_rfl) (fun _ _ _ h => h) (Or.inl ⟨by rfl, ?_⟩) ?_ ?_
              rotate_left
              · intro w'
                go_simp
                with_reducible rfl
              rotate_left
              · simp only [Act.put, List.setIfInBounds_toArray, List.set_cons_zero, List.set_cons_succ]
                rfl
              refine pure_ (i := 2) (N := some 72) (v := ?_) (a' := ?_) #[true, false, true, false, false, false, false, false, false, false, false, false, false, false, false, false, false, false] rfl rfl (by kernel_rfl) (fun _ _ _ h => h) (Or.inl ⟨by rfl, ?_⟩) ?_ ?_
              rotate_left
              · intro w'
                go_simp
                with_reducible rfl
              rotate_left
              · simp only [Act.put, List.setIfInBounds_toArray, List.set_cons_zero, List.set_cons_succ]
                rfl
              refine pure_ (i := 3) (N := some 73) (v := ?_) (a' := ?_) #[true, false, true, true, false, false, false, false, false, false, false, false, false, false, false, false, false, false] rfl rfl (by kernel_rfl) (fun _ _ _ h => h) (Or.inl ⟨by rfl, ?_⟩) ?_ ?_
              rotate_left
              · intro w'
                go_simp
                with_reducible rfl
              rotate_left
              · simp only [Act.put, List.setIfInBounds_toArray, List.set_cons_zero, List.set_cons_succ]
                rfl
              refine take_ (i := 4) (N := some 74) (v := .int .u64 f.f0.f1) (a' := ?_) #[true, false, true, true, true, false, false, false, false, false, false, false, false, false, false, false, false, false] rfl rfl (by kernel_rfl) (fun _ _ _ h => h) (Or.inl ⟨by rfl, fun w_ hw_ => exec_load_cell 40 _ rfl g2 23 rfl _ _ hw_ Try.underlying40 rfl⟩) hHeld ?_ ?_
              rotate_left
              · simp only [Act.put, List.setIfInBounds_toArray, List.set_cons_zero, List.set_cons_succ]
                rfl
              refine one_ (i := 1) (N := some 71) #[true, true, true, true, true, false, false, false, false, false, false, false, false, false, false, false, false, false] rfl rfl (by kernel_rfl) (by decide) (fun K hK => ?_)
              refine goes_ Try.func18 (by kernel_rfl) rfl #[.slice Am (tks x.toNat M).length cm] rfl rfl rfl (by (try simp only [List.map_toArray, List.map_cons, List.map_nil]); first | done | rfl) ?_
              refine (done Am cm (tks x.toNat M) _ (Kd.R_reads' HO7.out).2.2 HCM.out HML.out).mono ?_
              rintro e_ w11 ⟨v11, rfl, hR_, hB_⟩
              obtain ⟨Ad, cd, ed⟩ := Kd.R_slice hR_
              subst ed
              refine ⟨_, rfl, ?_⟩
              have S8 := S7.call hB_
              have HO8 := Aside0.mk (Kd.R_below HO7.out hB_)
              have HD8 := Aside0.mk hR_
              clear hR_ hB_
              refine hK.out _ _ (S8.cell (b := ⟨g2, (cs44 f).toArray, 44⟩) (by simp) hc23) (fun hHeld => ?_)
              clear hK K
              simp only [Act.put, List.setIfInBounds_toArray, List.set_cons_zero, List.set_cons_succ]
              refine last_ (i := 5) (N := some 75) #[true, true, true, true, true, true, false, false, false, false, false, false, false, false, false, false, false, false] rfl rfl (by kernel_rfl) (by decide) (fun K hK => ?_)
              refine goes_ Try.func17 (by kernel_rfl) rfl #[.slice Ad (doneX (tks x.toNat M)).length cd, .int .u64 f.f0.f1] rfl rfl rfl (by (try simp only [List.map_toArray, List.map_cons, List.map_nil]); first | done | rfl) ?_
              refine (HHS.out Ad cd _ (Kd.R_reads' HD8.out).2.2 (Kd.R_reads' HD8.out).2.1).mono ?_
              rintro e_ w12 ⟨rfl, hB_⟩
              refine ⟨_, rfl, ?_⟩
              refine hK.out _ _ ?_
              clear hK K
              have S9 := S8.call hB_
              have HO9 := Aside0.mk (Kd.R_below HO8.out hB_)
              clear hB_
              simp only [Act.put, List.setIfInBounds_toArray, List.set_cons_zero, List.set_cons_succ]
              refine pure_ (i := 6) (N := some 76) (v := ?_) (a' := ?_) #[true, true, true, true, true, true, true, false, false, false, false, false, false, false, false, false, false, false] rfl rfl (by kernel_rfl) (fun _ _ _ h => h) (Or.inl ⟨by rfl, ?_⟩) ?_ ?_
              rotate_left
              · intro w'
                go_simp
                with_reducible rfl
              rotate_left
              · simp only [Act.put, List.setIfInBounds_toArray, List.set_cons_zero, List.set_cons_succ]
                rfl
              refine pure_ (i := 7) (N := some 77) (v := ?_) (a' := ?_) #[true, true, true, true, true, true, true, true, false, false, false, false, false, false, false, false, false, false] rfl rfl (by kernel_rfl) (fun _ _ _ h => h) (Or.inl ⟨by rfl, ?_⟩) ?_ ?_
              rotate_left
              · intro w'
                go_simp
                with_reducible rfl
              rotate_left
              · simp only [Act.put, List.setIfInBounds_toArray, List.set_cons_zero, List.set_cons_succ]
                rfl
              refine pure_ (i := 8) (N := some 78) (v := ?_) (a' := ?_) #[true, true, true, true, true, true, true, true, true, false, false, false, false, false, false, false, false, false] rfl rfl (by kernel_rfl) (fun _ _ _ h => h) (Or.inl ⟨by rfl, ?_⟩) ?_ ?_
              rotate_left
              · intro w'
                go_simp
                with_reducible rfl
              rotate_left
              · simp only [Act.put, List.setIfInBounds_toArray, List.set_cons_zero, List.set_cons_succ]
                rfl
              refine pure_ (i := 9) (N := some 79) (v := ?_) (a' := ?_) #[true, true, true, true, true, true, true, true, true, true, false, false, false, false, false, false, false, false] rfl rfl (by kernel_rfl) (fun _ _ _ h => h) (Or.inl ⟨by rfl, ?_⟩) ?_ ?_
              rotate_left
              · intro w'
                go_simp
                with_reducible rfl
              rotate_left
              · simp only [Act.put, List.setIfInBounds_toArray, List.set_cons_zero, List.set_cons_succ]
                rfl
              refine pure_ (i := 10) (N := some 80) (v := ?_) (a' := ?_) #[true, true, true, true, true, true, true, true, true, true, true, false, false, false, false, false, false, false] rfl rfl (by kernel_rfl) (fun _ _ _ h => h) (Or.inl ⟨by rfl, ?_⟩) ?_ ?_
              rotate_left
              · intro w'
                go_simp
                with_reducible rfl
              rotate_left
              · simp only [Act.put, List.setIfInBounds_toArray, List.set_cons_zero, List.set_cons_succ]
                rfl
              refine pure_ (i := 11) (N := some 81) (v := ?_) (a' := ?_) #[true, true, true, true, true, true, true, true, true, true, true, true, false, false, false, false, false, false] rfl rfl (by kernel_rfl) (fun _ _ _ h => h) (Or.inl ⟨by rfl, ?_⟩) ?_ ?_
              rotate_left
              · intro w'
                go_simp
                with_reducible rfl
              rotate_left
              · simp only [Act.put, List.setIfInBounds_toArray, List.set_cons_zero, List.set_cons_succ]
                rfl
              refine pure_ (i := 12) (N := some 82) (v := ?_) (a' := ?_) #[true, true, true, true, true, true, true, true, true, true, true, true, true, false, false, false, false, false] rfl rfl (by kernel_rfl) (fun _ _ _ h => h) (Or.inl ⟨by rfl, ?_⟩) ?_ ?_
              rotate_left
              · intro w'
                go_simp
                with_reducible rfl
              rotate_left
              · simp only [Act.put, List.setIfInBounds_toArray, List.set_cons_zero, List.set_cons_succ]
                rfl
              refine pure_ (i := 13) (N := some 83) (v := ?_) (a' := ?_) #[true, true, true, true, true, true, true, true, true, true, true, true, true, true, false, false, false, false] rfl rfl (by kernel_rfl) (fun _ _ _ h => h) (Or.inl ⟨by rfl, ?_⟩) ?_ ?_
              rotate_left
              · intro w'
                go_simp
                with_reducible rfl
              rotate_left
              · simp only [Act.put, List.setIfInBounds_toArray, List.set_cons_zero, List.set_cons_succ]
                rfl
              refine pure_ (i := 14) (N := some 84) (v := ?_) (a' := ?_) #[true, true, true, true, true, true, true, true, true, true, true, true, true, true, true, false, false, false] rfl rfl (by kernel_rfl) (fun _ _ _ h => h) (Or.inl ⟨by rfl, ?_⟩) ?_ ?_
              rotate_left
              · intro w'
                go_simp
                with_reducible rfl
              rotate_left
              · simp only [Act.put, List.setIfInBounds_toArray, List.set_cons_zero, List.set_cons_succ]
                rfl
              refine last_ (i := 15) (N := some 85) #[true, true, true, true, true, true, true, true, true, true, true, true, true, true, true, true, false, false] rfl rfl (by kernel_rfl) (by decide) (fun K hK => ?_)
              refine goes_ Try.func7 (by kernel_rfl) rfl #[] rfl rfl rfl (by (try simp only [List.map_toArray, List.map_cons, List.map_nil]); first | done | rfl) ?_
              refine (awake _).mono ?_
              rintro e_ w13 ⟨rfl, hB_⟩
              refine ⟨_, rfl, ?_⟩
              refine hK.out _ _ ?_
              clear hK K
              have S10 := S9.call hB_
              clear hB_
              simp only [Act.put, List.setIfInBounds_toArray, List.set_cons_zero, List.set_cons_succ]
              refine pure_ (i := 16) (N := some 86) (v := ?_) (a' := ?_) #[true, true, true, true, true, true, true, true, true, true, true, true, true, true, true, true, true, false] rfl rfl (by kernel_rfl) (fun _ _ _ h => h) (Or.inl ⟨by rfl, ?_⟩) ?_ ?_
              rotate_left
              · intro w'
                go_simp
                with_reducible rfl
              rotate_left
              · simp only [Act.put, List.setIfInBounds_toArray, List.set_cons_zero, List.set_cons_succ]
                rfl
              refine pure_ (i := 17) (N := some 6) (v := ?_) (a' := ?_) #[true, true, true, true, true, true, true, true, true, true, true, true, true, true, true, true, true, true] rfl rfl (by kernel_rfl) (fun _ _ _ h => h) (Or.inl ⟨by rfl, ?_⟩) ?_ ?_
              rotate_left
              · intro w'
                go_simp
                with_reducible rfl
              rotate_left
              · simp only [Act.put, List.setIfInBounds_toArray, List.set_cons_zero, List.set_cons_succ]
                rfl
              refine done_ (by kernel_rfl) ?_
              go_wp2
              go_ret
              exact ⟨rfl, S10.below⟩

end Go.Proofs.Ytbkjdikiepnhbaa.Fl
