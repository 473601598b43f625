/- The walk of the statement CsrKeeps. The one condition is that the cells are a core's. -/
import Derived.Test.YtgegpppoimeliaaCsr8
import Derived.Test.YtgegpppoimeliaaBoxes4
namespace Go.Proofs.Ytgegpppoimeliaa.Csr
open Go Go.Proofs Go.RowKit Go.Proofs.YtgegpppoimeliaaW.PrintWords Go.Proofs.YtgegpppoimeliaaW.PrintLast Go.Proofs.YtgegpppoimeliaaW.PrintMore Go.Proofs.Ytgegpppoimeliaa.Boxes Go.Proofs.Ytgegpppoimeliaa.Arch Go.Proofs.Ytgegpppoimeliaa.Plain
set_option linter.unusedVariables false
set_option linter.unusedSimpArgs false
def ActR (x : Int) (cs : List Value) : Prop := ∃ s : ByteArray, cs = [.string s, .int .u32 x]
theorem bits_is {A : Array Value} (hA : IsArch A) {b : Bool} (hb : bitsB A = b) (w : World) : Calls Try.prog 15 #[.agg A] w fun e w' => e = .returned (.bool b) ∧ Below w.heap.size w w' := hb ▸ rbits A hA w

set_option maxHeartbeats 4000000 in
theorem keeps_long (A : Array Value) (hA : IsArch A) (Ad : Option Addr) (l : List Int) (c : Nat) (w : World) (hc : l.length ≤ c) (hr : ReadsRow ActR 2 w Ad l.length l) (hl : ∀ x ∈ l, 0 ≤ x ∧ x < 4294967296) (h : (40 : Int) < l.length) :
    Calls Try.prog 5 #[.agg A, .slice Ad l.length c] w fun e w' => e = .returned (.bool true) ∧ Below w.heap.size w w' := by
  have hs := hA.size
  have S0 := St.start w
  have hd : decide ((l.length : Int) > 40) = true := decide_eq_true h
  go_enter Try.func5, Try.ntmps5
  go_wp2_with (first | ((with_reducible refine gate_dst (N := 2) rfl ?_); refine box_event ?hg (N := 2) ?hd (cs := A) (t := 26) ?hr ?_; (case hd => rfl); (case hg => rfl); (case hr => first | (go_simp; done) | (go_simp; rfl)); intro g1 hg w1 hbox hb; have S1 := S0.box hg hbox hb; clear hg hbox hb; clear S0) | (go_at_call 10; (with_reducible refine (awake _).mono ?_); rintro e w2 ⟨rfl, hb⟩; have S2 := S1.call hb; clear hb; clear S1))
  go_ret
  exact ⟨rfl, S2.below⟩

set_option maxHeartbeats 4000000 in
theorem keeps_not (A : Array Value) (hA : IsArch A) (Ad : Option Addr) (l : List Int) (c : Nat) (w : World) (hc : l.length ≤ c) (hr : ReadsRow ActR 2 w Ad l.length l) (hl : ∀ x ∈ l, 0 ≤ x ∧ x < 4294967296) (h : ¬ (40 : Int) < l.length) (hb : bitsB A = false) :
    Calls Try.prog 5 #[.agg A, .slice Ad l.length c] w fun e w' => e = .returned (.bool true) ∧ Below w.heap.size w w' := by
  have hs := hA.size
  have S0 := St.start w
  have hd : decide ((l.length : Int) > 40) = false := decide_eq_false h
  go_enter Try.func5, Try.ntmps5
  go_upto_region 1 with (first | ((with_reducible refine gate_dst (N := 2) rfl ?_); refine box_event ?hg (N := 2) ?hd (cs := A) (t := 26) ?hr ?_; (case hd => rfl); (case hg => rfl); (case hr => first | (go_simp; done) | (go_simp; rfl)); intro g1 hg w1 hbox hb; have S1 := S0.box hg hbox hb; clear hg hbox hb; clear S0))
  refine wp_region_st0 S1 ?_
  haveI : Nonempty (Cls _ _) := ⟨⟨_, S1⟩⟩
  repeat (first | (go_big_quiet_want; (with_reducible refine quiet_load 26 _ rfl g1 rfl 26 A _ (fun x => x.st.heap ⟨g1, A, 26⟩ (by simp)) Try.underlying26 rfl (size_of hs) ?_); go_big_quiet_on; (try simp only [Act.put, List.setIfInBounds_toArray, List.set_cons_zero, List.set_cons_succ])) | go_big_quiet_step ((first | (go_at_call 15; exact quiet_st (bits_is hA hb _)))))
  refine wpQuiet_nil ?_
  rintro ⟨w3, S3⟩
  go_wp2_with (first | (go_at_call 10; (with_reducible refine (awake _).mono ?_); rintro e w2 ⟨rfl, hb⟩; have S2 := S3.call hb; clear hb; clear S3))
  go_ret
  exact ⟨rfl, S2.below⟩

set_option maxHeartbeats 16000000 in
theorem keeps_in (A : Array Value) (hA : IsArch A) (Ad : Option Addr) (l : List Int) (c : Nat) (w : World) (hc : l.length ≤ c) (hr : ReadsRow ActR 2 w Ad l.length l) (hl : ∀ x ∈ l, 0 ≤ x ∧ x < 4294967296) (h : ¬ (40 : Int) < l.length) (hb : bitsB A = true) :
    Calls Try.prog 5 #[.agg A, .slice Ad l.length c] w fun e w' => e = .returned (.bool true) ∧ Below w.heap.size w w' := by
  have hs := hA.size
  have S0 := St.start w
  have hd : decide ((l.length : Int) > 40) = false := decide_eq_false h
  go_enter Try.func5, Try.ntmps5
  go_upto_region 1 with (first | ((with_reducible refine gate_dst (N := 2) rfl ?_); refine box_event ?hg (N := 2) ?hd (cs := A) (t := 26) ?hr ?_; (case hd => rfl); (case hg => rfl); (case hr => first | (go_simp; done) | (go_simp; rfl)); intro g1 hg w1 hbox hb; have S1 := S0.box hg hbox hb; clear hg hbox hb; clear S0))
  refine wp_region_st0 S1 ?_
  haveI : Nonempty (Cls _ _) := ⟨⟨_, S1⟩⟩
  repeat (first | (go_big_quiet_want; (with_reducible refine quiet_load 26 _ rfl g1 rfl 26 A _ (fun x => x.st.heap ⟨g1, A, 26⟩ (by simp)) Try.underlying26 rfl (size_of hs) ?_); go_big_quiet_on; (try simp only [Act.put, List.setIfInBounds_toArray, List.set_cons_zero, List.set_cons_succ])) | go_big_quiet_step ((first | (go_at_call 15; exact quiet_st (bits_is hA hb _)))))
  refine wpQuiet_nil ?_
  rintro ⟨w3, S3⟩
  go_wp2
  have SA := Aside0.mk S3
  clear S3
  go_loopw [5] (fun i wr => ∃ k : Nat, k ≤ l.length ∧ i = .int .i64 k ∧ ∃ B : Array Value, IsArch B ∧ bitsB B = true ∧ St w wr [⟨g1, B, 26⟩]) (fun i _ => l.length - (intOf i).toNat)
  case atStart => exact ⟨0, by omega, rfl, A, hA, hb, SA.out⟩
  case round =>
    obtain ⟨k, hk, rfl, B, hB, hbb, S2⟩ := hrel
    by_cases hlt : k < l.length
    · have hlt1 : (k : Int) < (l.length : Int) := by omega
      have hlt2 : decide ((k : Int) < (l.length : Int)) = true := decide_eq_true hlt1
      obtain ⟨ad, cs, rfl, hcl, ⟨s, rfl⟩, hcell⟩ := hr.get_ 0 (k : Int) (by omega) hlt1
      have hv := hl (l.getD (k : Int).toNat 0) (by rw [List.getD_eq_getElem?_getD, List.getElem?_eq_getElem (by simpa using hlt)]; exact List.getElem_mem _)
      have hval0 := hcell 1 _ rfl
      obtain ⟨v, ev⟩ : ∃ v, l.getD (k : Int).toNat 0 = v := ⟨_, rfl⟩
      rw [ev] at hv hval0
      rw [add_field ad _ 1 (by decide)] at hval0
      simp only [Int.toNat_natCast] at hval0
      have hval := pw_cell_below S2.below hval0
      clear ev hcell hcl
      have hbs := hB.size
      have c27 := S2.cell (b := ⟨g1, B, 26⟩) (by simp) (hB.at 27 (by decide))
      obtain ⟨p, ep⟩ : ∃ p, wd B 27 = p := ⟨_, rfl⟩
      rw [ep] at c27
      obtain ⟨n, en⟩ : ∃ n, Int.tmod v 16 = n := ⟨_, rfl⟩
      have hn : 0 ≤ n ∧ n < 16 := by rw [← en, Int.tmod_eq_emod_of_nonneg hv.1]; omega
      by_cases h14 : n ≥ 14
      · have hA' : IsArch (rsA B v) := rs_is hB hv
        have hAb : bitsB (rsA B v) = true := rs_bits hB hbb hv
        have hAs := hA'.size
        have hAo := hA'.one
        have HNEW := Aside0.mk (And.intro hA' hAb)
        have HBITS := Aside0.mk (bits_is hA' hAb)
        have hq := hA'.at 27 (by decide)
        have hkeep := rs_keeps hB hv
        obtain ⟨q, eq⟩ : ∃ q, wd (rsA B v) 27 = q := ⟨_, rfl⟩
        rw [eq] at hq
        try rw [ep, eq] at hkeep
        clear hA' hAb eq
        have h14b : decide (n ≥ 14) = true := decide_eq_true h14
        have hne : (n != 10) = true := by simp; omega
        go_upto_region 9 with fail
        refine wp_region_st_tail 7 S2 (by kernel_rfl) (by kernel_rfl) ?_
        simp only [List.take_succ_cons, List.take_zero, List.drop_succ_cons, List.drop_zero]
        haveI : Nonempty (Cls _ _) := ⟨⟨_, S2⟩⟩
        repeat (first | (go_big_quiet_want; (with_reducible refine quiet_load 26 _ rfl g1 rfl 26 B _ (fun x => x.st.heap ⟨g1, B, 26⟩ (by simp)) Try.underlying26 rfl (size_of hbs) ?_); go_big_quiet_on; (try simp only [Act.put, List.setIfInBounds_toArray, List.set_cons_zero, List.set_cons_succ])) | (go_big_quiet_want; (with_reducible refine quiet_cell 22 _ rfl _ _ rfl (.int .u32 v) _ (fun x => pw_cell_below x.st.below hval0) Try.underlying22 rfl ?_); go_big_quiet_on; (try simp only [Act.put, List.setIfInBounds_toArray, List.set_cons_zero, List.set_cons_succ])) | go_big_quiet_step ((first | (go_at_call 13; exact quiet_st (raise B hB v hv.1 hv.2 _)))))
        refine wpQuiet_nil ?_
        intro x9
        have S5 := x9.st
        generalize x9.W = w5 at S5 ⊢
        clear x9
        ((with_reducible refine gate_store (t := 26) (p := 2) rfl ?_); refine wpList_store_row rfl 26 _ _ rfl g1 (rsA B v) rfl rfl 26 B (S5.heap ⟨g1, B, 26⟩ (by simp)) (size_of hAs) (by first | rfl | (rw [hAs]; rfl) | (rw [hAs, hbs]) | (rw [hbs, hAs])) (hAo) ?_; have S6 : St w _ [⟨g1, (rsA B v), 26⟩] := St.row (L1 := []) (b := ⟨g1, B, 26⟩) S5 (rsA B v); clear S5; generalize World.setRow _ _ _ = w6 at S6 ⊢)
        (try simp only [Act.put, List.setIfInBounds_toArray, List.set_cons_zero, List.set_cons_succ])
        go_upto_region 15 with fail
        (try simp only [Act.put, List.setIfInBounds_toArray, List.set_cons_zero, List.set_cons_succ])
        refine wp_region_st0 S6 ?_
        haveI : Nonempty (Cls _ _) := ⟨⟨_, S6⟩⟩
        repeat (first | (go_big_quiet_want; (with_reducible refine quiet_load 26 _ rfl g1 rfl 26 (rsA B v) _ (fun x => x.st.heap ⟨g1, (rsA B v), 26⟩ (by simp)) Try.underlying26 rfl (size_of hAs) ?_); go_big_quiet_on; (try simp only [Act.put, List.setIfInBounds_toArray, List.set_cons_zero, List.set_cons_succ])) | (go_big_quiet_want; (with_reducible refine quiet_cell 22 _ rfl _ _ rfl (.int .u32 q) _ (fun x => x.st.cell (b := ⟨g1, (rsA B v), 26⟩) (by simp) hq) Try.underlying22 rfl ?_); go_big_quiet_on; (try simp only [Act.put, List.setIfInBounds_toArray, List.set_cons_zero, List.set_cons_succ])) | go_big_quiet_step ((first | (go_at_call 15; exact quiet_st (HBITS.out _)))))
        refine wpQuiet_nil ?_
        rintro ⟨w9, S9⟩
        go_wp2
        go_roundw
        case rel => exact ⟨k + 1, by omega, by go_num, (rsA B v), HNEW.out.1, HNEW.out.2, S9⟩
        case measure => simp [intOf]; omega
      · by_cases h12 : n ≥ 12
        · have hA' : IsArch (cntA B) := cnt_is hB
          have hAb : bitsB (cntA B) = true := cnt_bits hB hbb
          have hAs := hA'.size
          have hAo := hA'.one
          have HNEW := Aside0.mk (And.intro hA' hAb)
          have HBITS := Aside0.mk (bits_is hA' hAb)
          have hq := hA'.at 27 (by decide)
          have hkeep := cnt_keeps hB
          obtain ⟨q, eq⟩ : ∃ q, wd (cntA B) 27 = q := ⟨_, rfl⟩
          rw [eq] at hq
          try rw [ep, eq] at hkeep
          clear hA' hAb eq
          have h14b : decide (n ≥ 14) = false := decide_eq_false h14
          have h12b : decide (n ≥ 12) = true := decide_eq_true h12
          have hne : (n != 10) = true := by simp; omega
          go_upto_region 15 with (first | ((with_reducible refine gate_dst (N := 46) rfl ?_); refine wpList_load_row rfl 26 _ rfl g1 rfl 26 B (0, 0) _ (S2.heap ⟨g1, B, 26⟩ (by simp)) Try.underlying26 rfl (size_of hbs) ?_) | (go_at_call 11; (with_reducible refine (count B hB _).mono ?_); rintro e w5 ⟨rfl, hb⟩; have S5 := S2.call hb; clear hb; clear S2) | ((with_reducible refine gate_store (t := 26) (p := 2) rfl ?_); refine wpList_store_row rfl 26 _ _ rfl g1 (cntA B) rfl rfl 26 B (S5.heap ⟨g1, B, 26⟩ (by simp)) (size_of hAs) (by first | rfl | (rw [hAs]; rfl) | (rw [hAs, hbs]) | (rw [hbs, hAs])) (hAo) ?_; have S6 : St w _ [⟨g1, (cntA B), 26⟩] := St.row (L1 := []) (b := ⟨g1, B, 26⟩) S5 (cntA B); clear S5; generalize World.setRow _ _ _ = w6 at S6 ⊢))
          (try simp only [Act.put, List.setIfInBounds_toArray, List.set_cons_zero, List.set_cons_succ])
          refine wp_region_st0 S6 ?_
          haveI : Nonempty (Cls _ _) := ⟨⟨_, S6⟩⟩
          repeat (first | (go_big_quiet_want; (with_reducible refine quiet_load 26 _ rfl g1 rfl 26 (cntA B) _ (fun x => x.st.heap ⟨g1, (cntA B), 26⟩ (by simp)) Try.underlying26 rfl (size_of hAs) ?_); go_big_quiet_on; (try simp only [Act.put, List.setIfInBounds_toArray, List.set_cons_zero, List.set_cons_succ])) | (go_big_quiet_want; (with_reducible refine quiet_cell 22 _ rfl _ _ rfl (.int .u32 q) _ (fun x => x.st.cell (b := ⟨g1, (cntA B), 26⟩) (by simp) hq) Try.underlying22 rfl ?_); go_big_quiet_on; (try simp only [Act.put, List.setIfInBounds_toArray, List.set_cons_zero, List.set_cons_succ])) | go_big_quiet_step ((first | (go_at_call 15; exact quiet_st (HBITS.out _)))))
          refine wpQuiet_nil ?_
          rintro ⟨w9, S9⟩
          go_wp2
          go_roundw
          case rel => exact ⟨k + 1, by omega, by go_num, (cntA B), HNEW.out.1, HNEW.out.2, S9⟩
          case measure => simp [intOf]; omega
        · by_cases hc0 : my (kb B) n false = 0
          · by_cases h10 : n = 10
            · have h14b : decide (n ≥ 14) = false := decide_eq_false h14
              have h12b : decide (n ≥ 12) = false := decide_eq_false h12
              obtain ⟨y, ey⟩ : ∃ y, IntKind.u32.wrap (v * 2654435769) = y := ⟨_, rfl⟩
              have hy : 0 ≤ y ∧ y < 4294967296 := by rw [← ey, wrap_u32]; omega
              obtain ⟨m, em⟩ : ∃ m, my (kb B) n false = m := ⟨_, rfl⟩
              obtain ⟨D, eD⟩ : ∃ D, wrA B (kb B) n y = D := ⟨_, rfl⟩
              have hD : IsArch D := eD ▸ wr_is hB (kb B) n hy
              have hds := hD.size
              have hdo := hD.one
              have HW : Aside0 (∀ W, Calls Try.prog 8 #[.agg B, .int .i64 n, .int .u32 y] W fun e w' => e = .returned (.tuple #[.agg D, .int .i64 m]) ∧ Below W.heap.size W w') := ⟨fun W => by rw [← em, ← eD]; exact write B hB n y hy.1 hy.2 W⟩
              have hD27 : n ≠ 10 → wd D 27 = wd B 27 := fun h => eD ▸ wr_keeps hB (kb B) n hc0 h
              have hDb : bitsB D = true := eD ▸ wr_bits hB hbb (kb B) n hy hc0
              have hm0 : (m == 0) = true := by rw [← em, hc0]; rfl
              have hA' : IsArch D := hD
              have hAb : bitsB D = true := hDb
              have hAs := hA'.size
              have hAo := hA'.one
              have HNEW := Aside0.mk (And.intro hA' hAb)
              have HBITS := Aside0.mk (bits_is hA' hAb)
              have hq := hA'.at 27 (by decide)
              have hkeep := trivial
              obtain ⟨q, eq⟩ : ∃ q, wd D 27 = q := ⟨_, rfl⟩
              rw [eq] at hq
              try rw [ep, eq] at hkeep
              clear hA' hAb eq
              clear em eD hD27
              have hne : (n != 10) = false := by simpa using h10
              clear h10
              go_upto_region 12 with fail
              refine wp_region_held_drew (S := fun W' => St w W' [⟨g1, B, 26⟩]) (by kernel_rfl) S2.drew ?_
              intro T0
              generalize World.drew wr = w3 at T0 ⊢
              refine h_take 0 rfl (by kernel_rfl) (by kernel_rfl) (by kernel_rfl) (fun _ _ _ h => h) (by rfl) (fun W' hS => exec_load_row 26 _ rfl g1 rfl 26 B _ (hS.heap ⟨g1, B, 26⟩ (by simp)) Try.underlying26 rfl (size_of hbs)) T0 ?_
              (try simp only [Act.put, List.setIfInBounds_toArray, List.set_cons_zero, List.set_cons_succ])
              refine h_take 1 rfl (by kernel_rfl) (by kernel_rfl) (by kernel_rfl) (fun _ _ _ h => h) (by rfl) (fun W' hS => by first | (go_simp; done) | (go_simp; rfl)) T0 ?_
              (try simp only [Act.put, List.setIfInBounds_toArray, List.set_cons_zero, List.set_cons_succ])
              refine h_take 2 rfl (by kernel_rfl) (by kernel_rfl) (by kernel_rfl) (fun _ _ _ h => h) (by rfl) (fun W' hS => by first | (go_simp; done) | (go_simp; rfl)) T0 ?_
              (try simp only [Act.put, List.setIfInBounds_toArray, List.set_cons_zero, List.set_cons_succ])
              refine h_take 3 rfl (by kernel_rfl) (by kernel_rfl) (by kernel_rfl) (fun _ _ _ h => h) (by rfl) (fun W' hS => by first | (go_simp; done) | (go_simp; rfl)) T0 ?_
              (try simp only [Act.put, List.setIfInBounds_toArray, List.set_cons_zero, List.set_cons_succ])
              refine h_take 4 rfl (by kernel_rfl) (by kernel_rfl) (by kernel_rfl) (fun _ _ _ h => h) (by rfl) (fun W' hS => by first | (go_simp; done) | (go_simp; rfl)) T0 ?_
              (try simp only [Act.put, List.setIfInBounds_toArray, List.set_cons_zero, List.set_cons_succ])
              refine h_take 5 rfl (by kernel_rfl) (by kernel_rfl) (by kernel_rfl) (fun _ _ _ h => h) (by rfl) (fun W' hS => by first | (go_simp; done) | (go_simp; rfl)) T0 ?_
              (try simp only [Act.put, List.setIfInBounds_toArray, List.set_cons_zero, List.set_cons_succ])
              refine h_take 6 rfl (by kernel_rfl) (by kernel_rfl) (by kernel_rfl) (fun _ _ _ h => h) (by rfl) (fun W' hS => exec_load_cell 22 _ rfl _ _ rfl (.int .u32 v) _ (pw_cell_below hS.below hval0) Try.underlying22 rfl) T0 ?_
              (try simp only [Act.put, List.setIfInBounds_toArray, List.set_cons_zero, List.set_cons_succ])
              refine h_take 7 rfl (by kernel_rfl) (by kernel_rfl) (by kernel_rfl) (fun _ _ _ h => h) (by rfl) (fun W' hS => by first | (go_simp; done) | (go_simp; rfl)) T0 ?_
              (try simp only [Act.put, List.setIfInBounds_toArray, List.set_cons_zero, List.set_cons_succ])
              refine h_two 8 12 rfl rfl (by kernel_rfl) (fun K hK => ?_) (fun K hK => ?_)
              go_simp
              go_at_call 8
              (with_reducible refine (HW.out _).mono ?_)
              rintro e w5 ⟨rfl, hb⟩
              have T5 := T0.call hb
              clear hb
              refine hK.out _ _ T5 (fun _ => ?_)
              clear hK K
              (try simp only [Act.put, List.setIfInBounds_toArray, List.set_cons_zero, List.set_cons_succ])
              refine h_take 9 rfl (by kernel_rfl) (by kernel_rfl) (by kernel_rfl) (fun _ _ _ h => h) (by rfl) (fun W' hS => by first | (go_simp; done) | (go_simp; rfl)) T5 ?_
              (try simp only [Act.put, List.setIfInBounds_toArray, List.set_cons_zero, List.set_cons_succ])
              refine h_take 10 rfl (by kernel_rfl) (by kernel_rfl) (by kernel_rfl) (fun _ _ _ h => h) (by rfl) (fun W' hS => by first | (go_simp; done) | (go_simp; rfl)) T5 ?_
              (try simp only [Act.put, List.setIfInBounds_toArray, List.set_cons_zero, List.set_cons_succ])
              refine h_take 11 rfl (by kernel_rfl) (by kernel_rfl) (by kernel_rfl) (fun _ _ _ h => h) (by rfl) (fun W' hS => by first | (go_simp; done) | (go_simp; rfl)) T5 ?_
              (try simp only [Act.put, List.setIfInBounds_toArray, List.set_cons_zero, List.set_cons_succ])
              refine h_one 12 rfl (by kernel_rfl) (fun K hK => ?_)
              refine step_alloc (cs := zeroA) (t := 26) (by rfl) ?hr T5 ?_
              (case hr => first | (go_simp; done) | (go_simp; rfl))
              intro g2 w6 T6
              refine hK.out _ _ T6.tail (fun _ => ?_)
              clear hK K
              (try simp only [Act.put, List.setIfInBounds_toArray, List.set_cons_zero, List.set_cons_succ])
              refine h_one 13 rfl (by kernel_rfl) (fun K hK => ?_)
              refine step_store_row (by rfl) 26 _ _ rfl g2 D rfl rfl 26 zeroA (T6.heap ⟨g2, zeroA, 26⟩ (by simp)) (size_of hds) (by rw [hds]; rfl) hdo ?_
              have S7 : St w _ [⟨g2, D, 26⟩, ⟨g1, B, 26⟩] := St.row (L1 := []) (b := ⟨g2, zeroA, 26⟩) T6 D
              generalize World.setRow _ _ _ = w7 at S7 ⊢
              refine hK.out _ _ S7.tail (fun _ => ?_)
              clear hK K
              (try simp only [Act.put, List.setIfInBounds_toArray, List.set_cons_zero, List.set_cons_succ])
              refine h_take 14 rfl (by kernel_rfl) (by kernel_rfl) (by kernel_rfl) (fun _ _ _ h => h) (by rfl) (fun W' hS => by first | (go_simp; done) | (go_simp; rfl)) S7.tail ?_
              (try simp only [Act.put, List.setIfInBounds_toArray, List.set_cons_zero, List.set_cons_succ])
              refine wpAnyH_done (by kernel_rfl) ?_ _
              clear T0 T5 T6
              rotate_left
              refine step_alloc (cs := zeroA) (t := 26) (by rfl) ?hr T0 ?_
              (case hr => first | (go_simp; done) | (go_simp; rfl))
              intro g2 w6 T6
              refine hK.out _ _ T6.tail (fun _ => ?_)
              clear hK K
              (try simp only [Act.put, List.setIfInBounds_toArray, List.set_cons_zero, List.set_cons_succ])
              refine h_one 8 rfl (by kernel_rfl) (fun K hK => ?_)
              go_simp
              go_at_call 8
              (with_reducible refine (HW.out _).mono ?_)
              rintro e w5 ⟨rfl, hb⟩
              have T5 := T6.call hb
              clear hb
              refine hK.out _ _ T5.tail (fun _ => ?_)
              clear hK K
              (try simp only [Act.put, List.setIfInBounds_toArray, List.set_cons_zero, List.set_cons_succ])
              refine h_take 9 rfl (by kernel_rfl) (by kernel_rfl) (by kernel_rfl) (fun _ _ _ h => h) (by rfl) (fun W' hS => by first | (go_simp; done) | (go_simp; rfl)) T5.tail ?_
              (try simp only [Act.put, List.setIfInBounds_toArray, List.set_cons_zero, List.set_cons_succ])
              refine h_take 10 rfl (by kernel_rfl) (by kernel_rfl) (by kernel_rfl) (fun _ _ _ h => h) (by rfl) (fun W' hS => by first | (go_simp; done) | (go_simp; rfl)) T5.tail ?_
              (try simp only [Act.put, List.setIfInBounds_toArray, List.set_cons_zero, List.set_cons_succ])
              refine h_take 11 rfl (by kernel_rfl) (by kernel_rfl) (by kernel_rfl) (fun _ _ _ h => h) (by rfl) (fun W' hS => by first | (go_simp; done) | (go_simp; rfl)) T5.tail ?_
              (try simp only [Act.put, List.setIfInBounds_toArray, List.set_cons_zero, List.set_cons_succ])
              refine h_one 13 rfl (by kernel_rfl) (fun K hK => ?_)
              refine step_store_row (by rfl) 26 _ _ rfl g2 D rfl rfl 26 zeroA (T5.heap ⟨g2, zeroA, 26⟩ (by simp)) (size_of hds) (by rw [hds]; rfl) hdo ?_
              have S7 : St w _ [⟨g2, D, 26⟩, ⟨g1, B, 26⟩] := St.row (L1 := []) (b := ⟨g2, zeroA, 26⟩) T5 D
              generalize World.setRow _ _ _ = w7 at S7 ⊢
              refine hK.out _ _ S7.tail (fun _ => ?_)
              clear hK K
              (try simp only [Act.put, List.setIfInBounds_toArray, List.set_cons_zero, List.set_cons_succ])
              refine h_take 14 rfl (by kernel_rfl) (by kernel_rfl) (by kernel_rfl) (fun _ _ _ h => h) (by rfl) (fun W' hS => by first | (go_simp; done) | (go_simp; rfl)) S7.tail ?_
              (try simp only [Act.put, List.setIfInBounds_toArray, List.set_cons_zero, List.set_cons_succ])
              refine wpAnyH_done (by kernel_rfl) ?_ _
              clear T0 T5 T6
              rotate_left
              all_goals
                go_upto_region 15 with (first | ((with_reducible refine gate_dst (N := 62) rfl ?_); refine wpList_load_row rfl 26 _ rfl g2 rfl 26 D (0, 0) _ (S7.heap ⟨g2, D, 26⟩ (by simp)) Try.underlying26 rfl (size_of hds) ?_) | ((with_reducible refine gate_store (t := 26) (p := 2) rfl ?_); refine wpList_store_row rfl 26 _ _ rfl g1 D rfl rfl 26 B (S7.heap ⟨g1, B, 26⟩ (by simp)) (size_of hds) (by rw [hds, hbs]) (hdo) ?_; have S8 : St w _ [⟨g2, D, 26⟩, ⟨g1, D, 26⟩] := St.row (L1 := [⟨g2, D, 26⟩]) (b := ⟨g1, B, 26⟩) S7 D; clear S7; generalize World.setRow _ _ _ = w8 at S8 ⊢; have S10 : St w w8 [⟨g1, D, 26⟩] := ⟨S8.below, fun b hm => S8.ge b (by simp at hm ⊢; exact .inr hm), fun b hm => S8.heap b (by simp at hm ⊢; exact .inr hm), by simp⟩; clear S8))
                (try simp only [Act.put, List.setIfInBounds_toArray, List.set_cons_zero, List.set_cons_succ])
                refine wp_region_st0 S10 ?_
                haveI : Nonempty (Cls _ _) := ⟨⟨_, S10⟩⟩
                repeat (first | (go_big_quiet_want; (with_reducible refine quiet_load 26 _ rfl g1 rfl 26 D _ (fun x => x.st.heap ⟨g1, D, 26⟩ (by simp)) Try.underlying26 rfl (size_of hAs) ?_); go_big_quiet_on; (try simp only [Act.put, List.setIfInBounds_toArray, List.set_cons_zero, List.set_cons_succ])) | go_big_quiet_step ((first | (go_at_call 15; exact quiet_st (HBITS.out _)))))
                refine wpQuiet_nil ?_
                rintro ⟨w9, S9⟩
                go_wp2
                go_roundw
                case rel => exact ⟨k + 1, by omega, by go_num, D, HNEW.out.1, HNEW.out.2, S9⟩
                case measure => simp [intOf]; omega
            · have h14b : decide (n ≥ 14) = false := decide_eq_false h14
              have h12b : decide (n ≥ 12) = false := decide_eq_false h12
              obtain ⟨y, ey⟩ : ∃ y, IntKind.u32.wrap (v * 2654435769) = y := ⟨_, rfl⟩
              have hy : 0 ≤ y ∧ y < 4294967296 := by rw [← ey, wrap_u32]; omega
              obtain ⟨m, em⟩ : ∃ m, my (kb B) n false = m := ⟨_, rfl⟩
              obtain ⟨D, eD⟩ : ∃ D, wrA B (kb B) n y = D := ⟨_, rfl⟩
              have hD : IsArch D := eD ▸ wr_is hB (kb B) n hy
              have hds := hD.size
              have hdo := hD.one
              have HW : Aside0 (∀ W, Calls Try.prog 8 #[.agg B, .int .i64 n, .int .u32 y] W fun e w' => e = .returned (.tuple #[.agg D, .int .i64 m]) ∧ Below W.heap.size W w') := ⟨fun W => by rw [← em, ← eD]; exact write B hB n y hy.1 hy.2 W⟩
              have hD27 : n ≠ 10 → wd D 27 = wd B 27 := fun h => eD ▸ wr_keeps hB (kb B) n hc0 h
              have hDb : bitsB D = true := eD ▸ wr_bits hB hbb (kb B) n hy hc0
              have hm0 : (m == 0) = true := by rw [← em, hc0]; rfl
              have hA' : IsArch D := hD
              have hAb : bitsB D = true := hDb
              have hAs := hA'.size
              have hAo := hA'.one
              have HNEW := Aside0.mk (And.intro hA' hAb)
              have HBITS := Aside0.mk (bits_is hA' hAb)
              have hq := hA'.at 27 (by decide)
              have hkeep := (show Go.bits .and .u32 (wd D 27) (wd B 27) = wd B 27 by rw [hD27 h10]; exact and_self32 (hB.lo 27 (by decide)))
              obtain ⟨q, eq⟩ : ∃ q, wd D 27 = q := ⟨_, rfl⟩
              rw [eq] at hq
              try rw [ep, eq] at hkeep
              clear hA' hAb eq
              clear em eD hD27
              have hne : (n != 10) = true := by simpa using h10
              clear h10
              go_upto_region 12 with fail
              refine wp_region_held_drew (S := fun W' => St w W' [⟨g1, B, 26⟩]) (by kernel_rfl) S2.drew ?_
              intro T0
              generalize World.drew wr = w3 at T0 ⊢
              refine h_take 0 rfl (by kernel_rfl) (by kernel_rfl) (by kernel_rfl) (fun _ _ _ h => h) (by rfl) (fun W' hS => exec_load_row 26 _ rfl g1 rfl 26 B _ (hS.heap ⟨g1, B, 26⟩ (by simp)) Try.underlying26 rfl (size_of hbs)) T0 ?_
              (try simp only [Act.put, List.setIfInBounds_toArray, List.set_cons_zero, List.set_cons_succ])
              refine h_take 1 rfl (by kernel_rfl) (by kernel_rfl) (by kernel_rfl) (fun _ _ _ h => h) (by rfl) (fun W' hS => by first | (go_simp; done) | (go_simp; rfl)) T0 ?_
              (try simp only [Act.put, List.setIfInBounds_toArray, List.set_cons_zero, List.set_cons_succ])
              refine h_take 2 rfl (by kernel_rfl) (by kernel_rfl) (by kernel_rfl) (fun _ _ _ h => h) (by rfl) (fun W' hS => by first | (go_simp; done) | (go_simp; rfl)) T0 ?_
              (try simp only [Act.put, List.setIfInBounds_toArray, List.set_cons_zero, List.set_cons_succ])
              refine h_take 3 rfl (by kernel_rfl) (by kernel_rfl) (by kernel_rfl) (fun _ _ _ h => h) (by rfl) (fun W' hS => by first | (go_simp; done) | (go_simp; rfl)) T0 ?_
              (try simp only [Act.put, List.setIfInBounds_toArray, List.set_cons_zero, List.set_cons_succ])
              refine h_take 4 rfl (by kernel_rfl) (by kernel_rfl) (by kernel_rfl) (fun _ _ _ h => h) (by rfl) (fun W' hS => by first | (go_simp; done) | (go_simp; rfl)) T0 ?_
              (try simp only [Act.put, List.setIfInBounds_toArray, List.set_cons_zero, List.set_cons_succ])
              refine h_take 5 rfl (by kernel_rfl) (by kernel_rfl) (by kernel_rfl) (fun _ _ _ h => h) (by rfl) (fun W' hS => by first | (go_simp; done) | (go_simp; rfl)) T0 ?_
              (try simp only [Act.put, List.setIfInBounds_toArray, List.set_cons_zero, List.set_cons_succ])
              refine h_take 6 rfl (by kernel_rfl) (by kernel_rfl) (by kernel_rfl) (fun _ _ _ h => h) (by rfl) (fun W' hS => exec_load_cell 22 _ rfl _ _ rfl (.int .u32 v) _ (pw_cell_below hS.below hval0) Try.underlying22 rfl) T0 ?_
              (try simp only [Act.put, List.setIfInBounds_toArray, List.set_cons_zero, List.set_cons_succ])
              refine h_take 7 rfl (by kernel_rfl) (by kernel_rfl) (by kernel_rfl) (fun _ _ _ h => h) (by rfl) (fun W' hS => by first | (go_simp; done) | (go_simp; rfl)) T0 ?_
              (try simp only [Act.put, List.setIfInBounds_toArray, List.set_cons_zero, List.set_cons_succ])
              refine h_two 8 12 rfl rfl (by kernel_rfl) (fun K hK => ?_) (fun K hK => ?_)
              go_simp
              go_at_call 8
              (with_reducible refine (HW.out _).mono ?_)
              rintro e w5 ⟨rfl, hb⟩
              have T5 := T0.call hb
              clear hb
              refine hK.out _ _ T5 (fun _ => ?_)
              clear hK K
              (try simp only [Act.put, List.setIfInBounds_toArray, List.set_cons_zero, List.set_cons_succ])
              refine h_take 9 rfl (by kernel_rfl) (by kernel_rfl) (by kernel_rfl) (fun _ _ _ h => h) (by rfl) (fun W' hS => by first | (go_simp; done) | (go_simp; rfl)) T5 ?_
              (try simp only [Act.put, List.setIfInBounds_toArray, List.set_cons_zero, List.set_cons_succ])
              refine h_take 10 rfl (by kernel_rfl) (by kernel_rfl) (by kernel_rfl) (fun _ _ _ h => h) (by rfl) (fun W' hS => by first | (go_simp; done) | (go_simp; rfl)) T5 ?_
              (try simp only [Act.put, List.setIfInBounds_toArray, List.set_cons_zero, List.set_cons_succ])
              refine h_take 11 rfl (by kernel_rfl) (by kernel_rfl) (by kernel_rfl) (fun _ _ _ h => h) (by rfl) (fun W' hS => by first | (go_simp; done) | (go_simp; rfl)) T5 ?_
              (try simp only [Act.put, List.setIfInBounds_toArray, List.set_cons_zero, List.set_cons_succ])
              refine h_one 12 rfl (by kernel_rfl) (fun K hK => ?_)
              refine step_alloc (cs := zeroA) (t := 26) (by rfl) ?hr T5 ?_
              (case hr => first | (go_simp; done) | (go_simp; rfl))
              intro g2 w6 T6
              refine hK.out _ _ T6.tail (fun _ => ?_)
              clear hK K
              (try simp only [Act.put, List.setIfInBounds_toArray, List.set_cons_zero, List.set_cons_succ])
              refine h_one 13 rfl (by kernel_rfl) (fun K hK => ?_)
              refine step_store_row (by rfl) 26 _ _ rfl g2 D rfl rfl 26 zeroA (T6.heap ⟨g2, zeroA, 26⟩ (by simp)) (size_of hds) (by rw [hds]; rfl) hdo ?_
              have S7 : St w _ [⟨g2, D, 26⟩, ⟨g1, B, 26⟩] := St.row (L1 := []) (b := ⟨g2, zeroA, 26⟩) T6 D
              generalize World.setRow _ _ _ = w7 at S7 ⊢
              refine hK.out _ _ S7.tail (fun _ => ?_)
              clear hK K
              (try simp only [Act.put, List.setIfInBounds_toArray, List.set_cons_zero, List.set_cons_succ])
              refine h_take 14 rfl (by kernel_rfl) (by kernel_rfl) (by kernel_rfl) (fun _ _ _ h => h) (by rfl) (fun W' hS => by first | (go_simp; done) | (go_simp; rfl)) S7.tail ?_
              (try simp only [Act.put, List.setIfInBounds_toArray, List.set_cons_zero, List.set_cons_succ])
              refine wpAnyH_done (by kernel_rfl) ?_ _
              clear T0 T5 T6
              rotate_left
              refine step_alloc (cs := zeroA) (t := 26) (by rfl) ?hr T0 ?_
              (case hr => first | (go_simp; done) | (go_simp; rfl))
              intro g2 w6 T6
              refine hK.out _ _ T6.tail (fun _ => ?_)
              clear hK K
              (try simp only [Act.put, List.setIfInBounds_toArray, List.set_cons_zero, List.set_cons_succ])
              refine h_one 8 rfl (by kernel_rfl) (fun K hK => ?_)
              go_simp
              go_at_call 8
              (with_reducible refine (HW.out _).mono ?_)
              rintro e w5 ⟨rfl, hb⟩
              have T5 := T6.call hb
              clear hb
              refine hK.out _ _ T5.tail (fun _ => ?_)
              clear hK K
              (try simp only [Act.put, List.setIfInBounds_toArray, List.set_cons_zero, List.set_cons_succ])
              refine h_take 9 rfl (by kernel_rfl) (by kernel_rfl) (by kernel_rfl) (fun _ _ _ h => h) (by rfl) (fun W' hS => by first | (go_simp; done) | (go_simp; rfl)) T5.tail ?_
              (try simp only [Act.put, List.setIfInBounds_toArray, List.set_cons_zero, List.set_cons_succ])
              refine h_take 10 rfl (by kernel_rfl) (by kernel_rfl) (by kernel_rfl) (fun _ _ _ h => h) (by rfl) (fun W' hS => by first | (go_simp; done) | (go_simp; rfl)) T5.tail ?_
              (try simp only [Act.put, List.setIfInBounds_toArray, List.set_cons_zero, List.set_cons_succ])
              refine h_take 11 rfl (by kernel_rfl) (by kernel_rfl) (by kernel_rfl) (fun _ _ _ h => h) (by rfl) (fun W' hS => by first | (go_simp; done) | (go_simp; rfl)) T5.tail ?_
              (try simp only [Act.put, List.setIfInBounds_toArray, List.set_cons_zero, List.set_cons_succ])
              refine h_one 13 rfl (by kernel_rfl) (fun K hK => ?_)
              refine step_store_row (by rfl) 26 _ _ rfl g2 D rfl rfl 26 zeroA (T5.heap ⟨g2, zeroA, 26⟩ (by simp)) (size_of hds) (by rw [hds]; rfl) hdo ?_
              have S7 : St w _ [⟨g2, D, 26⟩, ⟨g1, B, 26⟩] := St.row (L1 := []) (b := ⟨g2, zeroA, 26⟩) T5 D
              generalize World.setRow _ _ _ = w7 at S7 ⊢
              refine hK.out _ _ S7.tail (fun _ => ?_)
              clear hK K
              (try simp only [Act.put, List.setIfInBounds_toArray, List.set_cons_zero, List.set_cons_succ])
              refine h_take 14 rfl (by kernel_rfl) (by kernel_rfl) (by kernel_rfl) (fun _ _ _ h => h) (by rfl) (fun W' hS => by first | (go_simp; done) | (go_simp; rfl)) S7.tail ?_
              (try simp only [Act.put, List.setIfInBounds_toArray, List.set_cons_zero, List.set_cons_succ])
              refine wpAnyH_done (by kernel_rfl) ?_ _
              clear T0 T5 T6
              rotate_left
              all_goals
                go_upto_region 15 with (first | ((with_reducible refine gate_dst (N := 62) rfl ?_); refine wpList_load_row rfl 26 _ rfl g2 rfl 26 D (0, 0) _ (S7.heap ⟨g2, D, 26⟩ (by simp)) Try.underlying26 rfl (size_of hds) ?_) | ((with_reducible refine gate_store (t := 26) (p := 2) rfl ?_); refine wpList_store_row rfl 26 _ _ rfl g1 D rfl rfl 26 B (S7.heap ⟨g1, B, 26⟩ (by simp)) (size_of hds) (by rw [hds, hbs]) (hdo) ?_; have S8 : St w _ [⟨g2, D, 26⟩, ⟨g1, D, 26⟩] := St.row (L1 := [⟨g2, D, 26⟩]) (b := ⟨g1, B, 26⟩) S7 D; clear S7; generalize World.setRow _ _ _ = w8 at S8 ⊢; have S10 : St w w8 [⟨g1, D, 26⟩] := ⟨S8.below, fun b hm => S8.ge b (by simp at hm ⊢; exact .inr hm), fun b hm => S8.heap b (by simp at hm ⊢; exact .inr hm), by simp⟩; clear S8))
                (try simp only [Act.put, List.setIfInBounds_toArray, List.set_cons_zero, List.set_cons_succ])
                refine wp_region_st0 S10 ?_
                haveI : Nonempty (Cls _ _) := ⟨⟨_, S10⟩⟩
                repeat (first | (go_big_quiet_want; (with_reducible refine quiet_load 26 _ rfl g1 rfl 26 D _ (fun x => x.st.heap ⟨g1, D, 26⟩ (by simp)) Try.underlying26 rfl (size_of hAs) ?_); go_big_quiet_on; (try simp only [Act.put, List.setIfInBounds_toArray, List.set_cons_zero, List.set_cons_succ])) | (go_big_quiet_want; (with_reducible refine quiet_cell 22 _ rfl _ _ rfl (.int .u32 q) _ (fun x => x.st.cell (b := ⟨g1, D, 26⟩) (by simp) hq) Try.underlying22 rfl ?_); go_big_quiet_on; (try simp only [Act.put, List.setIfInBounds_toArray, List.set_cons_zero, List.set_cons_succ])) | go_big_quiet_step ((first | (go_at_call 15; exact quiet_st (HBITS.out _)))))
                refine wpQuiet_nil ?_
                rintro ⟨w9, S9⟩
                go_wp2
                go_roundw
                case rel => exact ⟨k + 1, by omega, by go_num, D, HNEW.out.1, HNEW.out.2, S9⟩
                case measure => simp [intOf]; omega
          · by_cases h10 : n = 10
            · have h14b : decide (n ≥ 14) = false := decide_eq_false h14
              have h12b : decide (n ≥ 12) = false := decide_eq_false h12
              obtain ⟨y, ey⟩ : ∃ y, IntKind.u32.wrap (v * 2654435769) = y := ⟨_, rfl⟩
              have hy : 0 ≤ y ∧ y < 4294967296 := by rw [← ey, wrap_u32]; omega
              obtain ⟨m, em⟩ : ∃ m, my (kb B) n false = m := ⟨_, rfl⟩
              obtain ⟨D, eD⟩ : ∃ D, wrA B (kb B) n y = D := ⟨_, rfl⟩
              have hD : IsArch D := eD ▸ wr_is hB (kb B) n hy
              have hds := hD.size
              have hdo := hD.one
              have HW : Aside0 (∀ W, Calls Try.prog 8 #[.agg B, .int .i64 n, .int .u32 y] W fun e w' => e = .returned (.tuple #[.agg D, .int .i64 m]) ∧ Below W.heap.size W w') := ⟨fun W => by rw [← em, ← eD]; exact write B hB n y hy.1 hy.2 W⟩
              have hm0 : (m == 0) = false := by simpa [em] using hc0
              have hA' : IsArch B := hB
              have hAb : bitsB B = true := hbb
              have hAs := hA'.size
              have hAo := hA'.one
              have HNEW := Aside0.mk (And.intro hA' hAb)
              have HBITS := Aside0.mk (bits_is hA' hAb)
              have hq := hA'.at 27 (by decide)
              have hkeep := trivial
              obtain ⟨q, eq⟩ : ∃ q, wd B 27 = q := ⟨_, rfl⟩
              rw [eq] at hq
              obtain rfl : q = p := eq.symm.trans ep
              try rw [ep] at hkeep
              clear hA' hAb eq
              clear em eD
              have hne : (n != 10) = false := by simpa using h10
              clear h10
              go_upto_region 12 with fail
              refine wp_region_held_drew (S := fun W' => St w W' [⟨g1, B, 26⟩]) (by kernel_rfl) S2.drew ?_
              intro T0
              generalize World.drew wr = w3 at T0 ⊢
              refine h_take 0 rfl (by kernel_rfl) (by kernel_rfl) (by kernel_rfl) (fun _ _ _ h => h) (by rfl) (fun W' hS => exec_load_row 26 _ rfl g1 rfl 26 B _ (hS.heap ⟨g1, B, 26⟩ (by simp)) Try.underlying26 rfl (size_of hbs)) T0 ?_
              (try simp only [Act.put, List.setIfInBounds_toArray, List.set_cons_zero, List.set_cons_succ])
              refine h_take 1 rfl (by kernel_rfl) (by kernel_rfl) (by kernel_rfl) (fun _ _ _ h => h) (by rfl) (fun W' hS => by first | (go_simp; done) | (go_simp; rfl)) T0 ?_
              (try simp only [Act.put, List.setIfInBounds_toArray, List.set_cons_zero, List.set_cons_succ])
              refine h_take 2 rfl (by kernel_rfl) (by kernel_rfl) (by kernel_rfl) (fun _ _ _ h => h) (by rfl) (fun W' hS => by first | (go_simp; done) | (go_simp; rfl)) T0 ?_
              (try simp only [Act.put, List.setIfInBounds_toArray, List.set_cons_zero, List.set_cons_succ])
              refine h_take 3 rfl (by kernel_rfl) (by kernel_rfl) (by kernel_rfl) (fun _ _ _ h => h) (by rfl) (fun W' hS => by first | (go_simp; done) | (go_simp; rfl)) T0 ?_
              (try simp only [Act.put, List.setIfInBounds_toArray, List.set_cons_zero, List.set_cons_succ])
              refine h_take 4 rfl (by kernel_rfl) (by kernel_rfl) (by kernel_rfl) (fun _ _ _ h => h) (by rfl) (fun W' hS => by first | (go_simp; done) | (go_simp; rfl)) T0 ?_
              (try simp only [Act.put, List.setIfInBounds_toArray, List.set_cons_zero, List.set_cons_succ])
              refine h_take 5 rfl (by kernel_rfl) (by kernel_rfl) (by kernel_rfl) (fun _ _ _ h => h) (by rfl) (fun W' hS => by first | (go_simp; done) | (go_simp; rfl)) T0 ?_
              (try simp only [Act.put, List.setIfInBounds_toArray, List.set_cons_zero, List.set_cons_succ])
              refine h_take 6 rfl (by kernel_rfl) (by kernel_rfl) (by kernel_rfl) (fun _ _ _ h => h) (by rfl) (fun W' hS => exec_load_cell 22 _ rfl _ _ rfl (.int .u32 v) _ (pw_cell_below hS.below hval0) Try.underlying22 rfl) T0 ?_
              (try simp only [Act.put, List.setIfInBounds_toArray, List.set_cons_zero, List.set_cons_succ])
              refine h_take 7 rfl (by kernel_rfl) (by kernel_rfl) (by kernel_rfl) (fun _ _ _ h => h) (by rfl) (fun W' hS => by first | (go_simp; done) | (go_simp; rfl)) T0 ?_
              (try simp only [Act.put, List.setIfInBounds_toArray, List.set_cons_zero, List.set_cons_succ])
              refine h_two 8 12 rfl rfl (by kernel_rfl) (fun K hK => ?_) (fun K hK => ?_)
              go_simp
              go_at_call 8
              (with_reducible refine (HW.out _).mono ?_)
              rintro e w5 ⟨rfl, hb⟩
              have T5 := T0.call hb
              clear hb
              refine hK.out _ _ T5 (fun _ => ?_)
              clear hK K
              (try simp only [Act.put, List.setIfInBounds_toArray, List.set_cons_zero, List.set_cons_succ])
              refine h_take 9 rfl (by kernel_rfl) (by kernel_rfl) (by kernel_rfl) (fun _ _ _ h => h) (by rfl) (fun W' hS => by first | (go_simp; done) | (go_simp; rfl)) T5 ?_
              (try simp only [Act.put, List.setIfInBounds_toArray, List.set_cons_zero, List.set_cons_succ])
              refine h_take 10 rfl (by kernel_rfl) (by kernel_rfl) (by kernel_rfl) (fun _ _ _ h => h) (by rfl) (fun W' hS => by first | (go_simp; done) | (go_simp; rfl)) T5 ?_
              (try simp only [Act.put, List.setIfInBounds_toArray, List.set_cons_zero, List.set_cons_succ])
              refine h_take 11 rfl (by kernel_rfl) (by kernel_rfl) (by kernel_rfl) (fun _ _ _ h => h) (by rfl) (fun W' hS => by first | (go_simp; done) | (go_simp; rfl)) T5 ?_
              (try simp only [Act.put, List.setIfInBounds_toArray, List.set_cons_zero, List.set_cons_succ])
              refine h_one 12 rfl (by kernel_rfl) (fun K hK => ?_)
              refine step_alloc (cs := zeroA) (t := 26) (by rfl) ?hr T5 ?_
              (case hr => first | (go_simp; done) | (go_simp; rfl))
              intro g2 w6 T6
              refine hK.out _ _ T6.tail (fun _ => ?_)
              clear hK K
              (try simp only [Act.put, List.setIfInBounds_toArray, List.set_cons_zero, List.set_cons_succ])
              refine h_one 13 rfl (by kernel_rfl) (fun K hK => ?_)
              refine step_store_row (by rfl) 26 _ _ rfl g2 D rfl rfl 26 zeroA (T6.heap ⟨g2, zeroA, 26⟩ (by simp)) (size_of hds) (by rw [hds]; rfl) hdo ?_
              have S7 : St w _ [⟨g2, D, 26⟩, ⟨g1, B, 26⟩] := St.row (L1 := []) (b := ⟨g2, zeroA, 26⟩) T6 D
              generalize World.setRow _ _ _ = w7 at S7 ⊢
              refine hK.out _ _ S7.tail (fun _ => ?_)
              clear hK K
              (try simp only [Act.put, List.setIfInBounds_toArray, List.set_cons_zero, List.set_cons_succ])
              refine h_take 14 rfl (by kernel_rfl) (by kernel_rfl) (by kernel_rfl) (fun _ _ _ h => h) (by rfl) (fun W' hS => by first | (go_simp; done) | (go_simp; rfl)) S7.tail ?_
              (try simp only [Act.put, List.setIfInBounds_toArray, List.set_cons_zero, List.set_cons_succ])
              refine wpAnyH_done (by kernel_rfl) ?_ _
              clear T0 T5 T6
              rotate_left
              refine step_alloc (cs := zeroA) (t := 26) (by rfl) ?hr T0 ?_
              (case hr => first | (go_simp; done) | (go_simp; rfl))
              intro g2 w6 T6
              refine hK.out _ _ T6.tail (fun _ => ?_)
              clear hK K
              (try simp only [Act.put, List.setIfInBounds_toArray, List.set_cons_zero, List.set_cons_succ])
              refine h_one 8 rfl (by kernel_rfl) (fun K hK => ?_)
              go_simp
              go_at_call 8
              (with_reducible refine (HW.out _).mono ?_)
              rintro e w5 ⟨rfl, hb⟩
              have T5 := T6.call hb
              clear hb
              refine hK.out _ _ T5.tail (fun _ => ?_)
              clear hK K
              (try simp only [Act.put, List.setIfInBounds_toArray, List.set_cons_zero, List.set_cons_succ])
              refine h_take 9 rfl (by kernel_rfl) (by kernel_rfl) (by kernel_rfl) (fun _ _ _ h => h) (by rfl) (fun W' hS => by first | (go_simp; done) | (go_simp; rfl)) T5.tail ?_
              (try simp only [Act.put, List.setIfInBounds_toArray, List.set_cons_zero, List.set_cons_succ])
              refine h_take 10 rfl (by kernel_rfl) (by kernel_rfl) (by kernel_rfl) (fun _ _ _ h => h) (by rfl) (fun W' hS => by first | (go_simp; done) | (go_simp; rfl)) T5.tail ?_
              (try simp only [Act.put, List.setIfInBounds_toArray, List.set_cons_zero, List.set_cons_succ])
              refine h_take 11 rfl (by kernel_rfl) (by kernel_rfl) (by kernel_rfl) (fun _ _ _ h => h) (by rfl) (fun W' hS => by first | (go_simp; done) | (go_simp; rfl)) T5.tail ?_
              (try simp only [Act.put, List.setIfInBounds_toArray, List.set_cons_zero, List.set_cons_succ])
              refine h_one 13 rfl (by kernel_rfl) (fun K hK => ?_)
              refine step_store_row (by rfl) 26 _ _ rfl g2 D rfl rfl 26 zeroA (T5.heap ⟨g2, zeroA, 26⟩ (by simp)) (size_of hds) (by rw [hds]; rfl) hdo ?_
              have S7 : St w _ [⟨g2, D, 26⟩, ⟨g1, B, 26⟩] := St.row (L1 := []) (b := ⟨g2, zeroA, 26⟩) T5 D
              generalize World.setRow _ _ _ = w7 at S7 ⊢
              refine hK.out _ _ S7.tail (fun _ => ?_)
              clear hK K
              (try simp only [Act.put, List.setIfInBounds_toArray, List.set_cons_zero, List.set_cons_succ])
              refine h_take 14 rfl (by kernel_rfl) (by kernel_rfl) (by kernel_rfl) (fun _ _ _ h => h) (by rfl) (fun W' hS => by first | (go_simp; done) | (go_simp; rfl)) S7.tail ?_
              (try simp only [Act.put, List.setIfInBounds_toArray, List.set_cons_zero, List.set_cons_succ])
              refine wpAnyH_done (by kernel_rfl) ?_ _
              clear T0 T5 T6
              rotate_left
              all_goals
                have S10 := S7.tail
                clear S7
                go_upto_region 15 with fail
                (try simp only [Act.put, List.setIfInBounds_toArray, List.set_cons_zero, List.set_cons_succ])
                refine wp_region_st0 S10 ?_
                haveI : Nonempty (Cls _ _) := ⟨⟨_, S10⟩⟩
                repeat (first | (go_big_quiet_want; (with_reducible refine quiet_load 26 _ rfl g1 rfl 26 B _ (fun x => x.st.heap ⟨g1, B, 26⟩ (by simp)) Try.underlying26 rfl (size_of hAs) ?_); go_big_quiet_on; (try simp only [Act.put, List.setIfInBounds_toArray, List.set_cons_zero, List.set_cons_succ])) | go_big_quiet_step ((first | (go_at_call 15; exact quiet_st (HBITS.out _)))))
                refine wpQuiet_nil ?_
                rintro ⟨w9, S9⟩
                go_wp2
                go_roundw
                case rel => exact ⟨k + 1, by omega, by go_num, B, HNEW.out.1, HNEW.out.2, S9⟩
                case measure => simp [intOf]; omega
            · have h14b : decide (n ≥ 14) = false := decide_eq_false h14
              have h12b : decide (n ≥ 12) = false := decide_eq_false h12
              obtain ⟨y, ey⟩ : ∃ y, IntKind.u32.wrap (v * 2654435769) = y := ⟨_, rfl⟩
              have hy : 0 ≤ y ∧ y < 4294967296 := by rw [← ey, wrap_u32]; omega
              obtain ⟨m, em⟩ : ∃ m, my (kb B) n false = m := ⟨_, rfl⟩
              obtain ⟨D, eD⟩ : ∃ D, wrA B (kb B) n y = D := ⟨_, rfl⟩
              have hD : IsArch D := eD ▸ wr_is hB (kb B) n hy
              have hds := hD.size
              have hdo := hD.one
              have HW : Aside0 (∀ W, Calls Try.prog 8 #[.agg B, .int .i64 n, .int .u32 y] W fun e w' => e = .returned (.tuple #[.agg D, .int .i64 m]) ∧ Below W.heap.size W w') := ⟨fun W => by rw [← em, ← eD]; exact write B hB n y hy.1 hy.2 W⟩
              have hm0 : (m == 0) = false := by simpa [em] using hc0
              have hA' : IsArch B := hB
              have hAb : bitsB B = true := hbb
              have hAs := hA'.size
              have hAo := hA'.one
              have HNEW := Aside0.mk (And.intro hA' hAb)
              have HBITS := Aside0.mk (bits_is hA' hAb)
              have hq := hA'.at 27 (by decide)
              have hkeep := (show Go.bits .and .u32 (wd B 27) (wd B 27) = wd B 27 from and_self32 (hB.lo 27 (by decide)))
              obtain ⟨q, eq⟩ : ∃ q, wd B 27 = q := ⟨_, rfl⟩
              rw [eq] at hq
              obtain rfl : q = p := eq.symm.trans ep
              try rw [ep] at hkeep
              clear hA' hAb eq
              clear em eD
              have hne : (n != 10) = true := by simpa using h10
              clear h10
              go_upto_region 12 with fail
              refine wp_region_held_drew (S := fun W' => St w W' [⟨g1, B, 26⟩]) (by kernel_rfl) S2.drew ?_
              intro T0
              generalize World.drew wr = w3 at T0 ⊢
              refine h_take 0 rfl (by kernel_rfl) (by kernel_rfl) (by kernel_rfl) (fun _ _ _ h => h) (by rfl) (fun W' hS => exec_load_row 26 _ rfl g1 rfl 26 B _ (hS.heap ⟨g1, B, 26⟩ (by simp)) Try.underlying26 rfl (size_of hbs)) T0 ?_
              (try simp only [Act.put, List.setIfInBounds_toArray, List.set_cons_zero, List.set_cons_succ])
              refine h_take 1 rfl (by kernel_rfl) (by kernel_rfl) (by kernel_rfl) (fun _ _ _ h => h) (by rfl) (fun W' hS => by first | (go_simp; done) | (go_simp; rfl)) T0 ?_
              (try simp only [Act.put, List.setIfInBounds_toArray, List.set_cons_zero, List.set_cons_succ])
              refine h_take 2 rfl (by kernel_rfl) (by kernel_rfl) (by kernel_rfl) (fun _ _ _ h => h) (by rfl) (fun W' hS => by first | (go_simp; done) | (go_simp; rfl)) T0 ?_
              (try simp only [Act.put, List.setIfInBounds_toArray, List.set_cons_zero, List.set_cons_succ])
              refine h_take 3 rfl (by kernel_rfl) (by kernel_rfl) (by kernel_rfl) (fun _ _ _ h => h) (by rfl) (fun W' hS => by first | (go_simp; done) | (go_simp; rfl)) T0 ?_
              (try simp only [Act.put, List.setIfInBounds_toArray, List.set_cons_zero, List.set_cons_succ])
              refine h_take 4 rfl (by kernel_rfl) (by kernel_rfl) (by kernel_rfl) (fun _ _ _ h => h) (by rfl) (fun W' hS => by first | (go_simp; done) | (go_simp; rfl)) T0 ?_
              (try simp only [Act.put, List.setIfInBounds_toArray, List.set_cons_zero, List.set_cons_succ])
              refine h_take 5 rfl (by kernel_rfl) (by kernel_rfl) (by kernel_rfl) (fun _ _ _ h => h) (by rfl) (fun W' hS => by first | (go_simp; done) | (go_simp; rfl)) T0 ?_
              (try simp only [Act.put, List.setIfInBounds_toArray, List.set_cons_zero, List.set_cons_succ])
              refine h_take 6 rfl (by kernel_rfl) (by kernel_rfl) (by kernel_rfl) (fun _ _ _ h => h) (by rfl) (fun W' hS => exec_load_cell 22 _ rfl _ _ rfl (.int .u32 v) _ (pw_cell_below hS.below hval0) Try.underlying22 rfl) T0 ?_
              (try simp only [Act.put, List.setIfInBounds_toArray, List.set_cons_zero, List.set_cons_succ])
              refine h_take 7 rfl (by kernel_rfl) (by kernel_rfl) (by kernel_rfl) (fun _ _ _ h => h) (by rfl) (fun W' hS => by first | (go_simp; done) | (go_simp; rfl)) T0 ?_
              (try simp only [Act.put, List.setIfInBounds_toArray, List.set_cons_zero, List.set_cons_succ])
              refine h_two 8 12 rfl rfl (by kernel_rfl) (fun K hK => ?_) (fun K hK => ?_)
              go_simp
              go_at_call 8
              (with_reducible refine (HW.out _).mono ?_)
              rintro e w5 ⟨rfl, hb⟩
              have T5 := T0.call hb
              clear hb
              refine hK.out _ _ T5 (fun _ => ?_)
              clear hK K
              (try simp only [Act.put, List.setIfInBounds_toArray, List.set_cons_zero, List.set_cons_succ])
              refine h_take 9 rfl (by kernel_rfl) (by kernel_rfl) (by kernel_rfl) (fun _ _ _ h => h) (by rfl) (fun W' hS => by first | (go_simp; done) | (go_simp; rfl)) T5 ?_
              (try simp only [Act.put, List.setIfInBounds_toArray, List.set_cons_zero, List.set_cons_succ])
              refine h_take 10 rfl (by kernel_rfl) (by kernel_rfl) (by kernel_rfl) (fun _ _ _ h => h) (by rfl) (fun W' hS => by first | (go_simp; done) | (go_simp; rfl)) T5 ?_
              (try simp only [Act.put, List.setIfInBounds_toArray, List.set_cons_zero, List.set_cons_succ])
              refine h_take 11 rfl (by kernel_rfl) (by kernel_rfl) (by kernel_rfl) (fun _ _ _ h => h) (by rfl) (fun W' hS => by first | (go_simp; done) | (go_simp; rfl)) T5 ?_
              (try simp only [Act.put, List.setIfInBounds_toArray, List.set_cons_zero, List.set_cons_succ])
              refine h_one 12 rfl (by kernel_rfl) (fun K hK => ?_)
              refine step_alloc (cs := zeroA) (t := 26) (by rfl) ?hr T5 ?_
              (case hr => first | (go_simp; done) | (go_simp; rfl))
              intro g2 w6 T6
              refine hK.out _ _ T6.tail (fun _ => ?_)
              clear hK K
              (try simp only [Act.put, List.setIfInBounds_toArray, List.set_cons_zero, List.set_cons_succ])
              refine h_one 13 rfl (by kernel_rfl) (fun K hK => ?_)
              refine step_store_row (by rfl) 26 _ _ rfl g2 D rfl rfl 26 zeroA (T6.heap ⟨g2, zeroA, 26⟩ (by simp)) (size_of hds) (by rw [hds]; rfl) hdo ?_
              have S7 : St w _ [⟨g2, D, 26⟩, ⟨g1, B, 26⟩] := St.row (L1 := []) (b := ⟨g2, zeroA, 26⟩) T6 D
              generalize World.setRow _ _ _ = w7 at S7 ⊢
              refine hK.out _ _ S7.tail (fun _ => ?_)
              clear hK K
              (try simp only [Act.put, List.setIfInBounds_toArray, List.set_cons_zero, List.set_cons_succ])
              refine h_take 14 rfl (by kernel_rfl) (by kernel_rfl) (by kernel_rfl) (fun _ _ _ h => h) (by rfl) (fun W' hS => by first | (go_simp; done) | (go_simp; rfl)) S7.tail ?_
              (try simp only [Act.put, List.setIfInBounds_toArray, List.set_cons_zero, List.set_cons_succ])
              refine wpAnyH_done (by kernel_rfl) ?_ _
              clear T0 T5 T6
              rotate_left
              refine step_alloc (cs := zeroA) (t := 26) (by rfl) ?hr T0 ?_
              (case hr => first | (go_simp; done) | (go_simp; rfl))
              intro g2 w6 T6
              refine hK.out _ _ T6.tail (fun _ => ?_)
              clear hK K
              (try simp only [Act.put, List.setIfInBounds_toArray, List.set_cons_zero, List.set_cons_succ])
              refine h_one 8 rfl (by kernel_rfl) (fun K hK => ?_)
              go_simp
              go_at_call 8
              (with_reducible refine (HW.out _).mono ?_)
              rintro e w5 ⟨rfl, hb⟩
              have T5 := T6.call hb
              clear hb
              refine hK.out _ _ T5.tail (fun _ => ?_)
              clear hK K
              (try simp only [Act.put, List.setIfInBounds_toArray, List.set_cons_zero, List.set_cons_succ])
              refine h_take 9 rfl (by kernel_rfl) (by kernel_rfl) (by kernel_rfl) (fun _ _ _ h => h) (by rfl) (fun W' hS => by first | (go_simp; done) | (go_simp; rfl)) T5.tail ?_
              (try simp only [Act.put, List.setIfInBounds_toArray, List.set_cons_zero, List.set_cons_succ])
              refine h_take 10 rfl (by kernel_rfl) (by kernel_rfl) (by kernel_rfl) (fun _ _ _ h => h) (by rfl) (fun W' hS => by first | (go_simp; done) | (go_simp; rfl)) T5.tail ?_
              (try simp only [Act.put, List.setIfInBounds_toArray, List.set_cons_zero, List.set_cons_succ])
              refine h_take 11 rfl (by kernel_rfl) (by kernel_rfl) (by kernel_rfl) (fun _ _ _ h => h) (by rfl) (fun W' hS => by first | (go_simp; done) | (go_simp; rfl)) T5.tail ?_
              (try simp only [Act.put, List.setIfInBounds_toArray, List.set_cons_zero, List.set_cons_succ])
              refine h_one 13 rfl (by kernel_rfl) (fun K hK => ?_)
              refine step_store_row (by rfl) 26 _ _ rfl g2 D rfl rfl 26 zeroA (T5.heap ⟨g2, zeroA, 26⟩ (by simp)) (size_of hds) (by rw [hds]; rfl) hdo ?_
              have S7 : St w _ [⟨g2, D, 26⟩, ⟨g1, B, 26⟩] := St.row (L1 := []) (b := ⟨g2, zeroA, 26⟩) T5 D
              generalize World.setRow _ _ _ = w7 at S7 ⊢
              refine hK.out _ _ S7.tail (fun _ => ?_)
              clear hK K
              (try simp only [Act.put, List.setIfInBounds_toArray, List.set_cons_zero, List.set_cons_succ])
              refine h_take 14 rfl (by kernel_rfl) (by kernel_rfl) (by kernel_rfl) (fun _ _ _ h => h) (by rfl) (fun W' hS => by first | (go_simp; done) | (go_simp; rfl)) S7.tail ?_
              (try simp only [Act.put, List.setIfInBounds_toArray, List.set_cons_zero, List.set_cons_succ])
              refine wpAnyH_done (by kernel_rfl) ?_ _
              clear T0 T5 T6
              rotate_left
              all_goals
                have S10 := S7.tail
                clear S7
                go_upto_region 15 with fail
                (try simp only [Act.put, List.setIfInBounds_toArray, List.set_cons_zero, List.set_cons_succ])
                refine wp_region_st0 S10 ?_
                haveI : Nonempty (Cls _ _) := ⟨⟨_, S10⟩⟩
                repeat (first | (go_big_quiet_want; (with_reducible refine quiet_load 26 _ rfl g1 rfl 26 B _ (fun x => x.st.heap ⟨g1, B, 26⟩ (by simp)) Try.underlying26 rfl (size_of hAs) ?_); go_big_quiet_on; (try simp only [Act.put, List.setIfInBounds_toArray, List.set_cons_zero, List.set_cons_succ])) | (go_big_quiet_want; (with_reducible refine quiet_cell 22 _ rfl _ _ rfl (.int .u32 q) _ (fun x => x.st.cell (b := ⟨g1, B, 26⟩) (by simp) hq) Try.underlying22 rfl ?_); go_big_quiet_on; (try simp only [Act.put, List.setIfInBounds_toArray, List.set_cons_zero, List.set_cons_succ])) | go_big_quiet_step ((first | (go_at_call 15; exact quiet_st (HBITS.out _)))))
                refine wpQuiet_nil ?_
                rintro ⟨w9, S9⟩
                go_wp2
                go_roundw
                case rel => exact ⟨k + 1, by omega, by go_num, B, HNEW.out.1, HNEW.out.2, S9⟩
                case measure => simp [intOf]; omega
    · have hlt2 : decide ((k : Int) < (l.length : Int)) = false := decide_eq_false (by omega)
      go_wp2_with (first | (go_at_call 10; (with_reducible refine (awake _).mono ?_); rintro e w4 ⟨rfl, hb⟩; have S4 := S2.call hb; clear hb; clear S2))
      go_ret
      exact ⟨rfl, S4.below⟩

theorem keeps (A : Array Value) (hA : IsArch A) (Ad : Option Addr) (l : List Int) (c : Nat) (w : World) (hc : l.length ≤ c) (hr : ReadsRow ActR 2 w Ad l.length l) (hl : ∀ x ∈ l, 0 ≤ x ∧ x < 4294967296) :
    Calls Try.prog 5 #[.agg A, .slice Ad l.length c] w fun e w' => e = .returned (.bool true) ∧ Below w.heap.size w w' := by
  by_cases h : (40 : Int) < l.length
  · exact keeps_long A hA Ad l c w hc hr hl h
  · cases hb : bitsB A with
    | false => exact keeps_not A hA Ad l c w hc hr hl h hb
    | true => exact keeps_in A hA Ad l c w hc hr hl h hb

end Go.Proofs.Ytgegpppoimeliaa.Csr
