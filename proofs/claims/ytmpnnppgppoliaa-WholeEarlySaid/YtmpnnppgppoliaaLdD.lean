/- What the store queue's small functions come to: walks of the code. The conditions are those that each theorem names. -/
import Derived.Test.YtmpnnppgppoliaaLdC
namespace Go.Proofs.Ytmpnnppgppoliaa.Ld
open Go Go.Proofs Go.RowKit Go.Proofs.YtmpnnppgppoliaaW.PrintWords Go.Proofs.YtmpnnppgppoliaaW.PrintLast Go.Proofs.YtmpnnppgppoliaaW.PrintMore Go.Proofs.Ytmpnnppgppoliaa.Boxes Go.Proofs.Ytmpnnppgppoliaa.PFwd
attribute [local go_sem] max2_int min2_int max_two min_two max_three min_three max_four min_four   -- for this text's walks alone
set_option linter.unusedVariables false
set_option linter.unusedSimpArgs false

attribute [local go_sem high] eqnil23 eqnil28
def cs37 (x : S37) : List Value := [.int .u64 x.f0, .int .u32 x.f1, .int .u32 x.f2, .int .i64 x.f3, .bool x.f4]
theorem KM_56 : ∀ (w w1 : World) (base : Nat) (ok : Nat → Prop) (x : S37) (cs : List Value), k37.K w x cs → k37.M w1 base ok x cs := fun _ _ _ _ _ _ h => by rw [k37_open h]; exact k37_mkM _ _ _ _
set_option maxHeartbeats 8000000 in
set_option maxRecDepth 100000 in
theorem clone37 (A0 : Option Addr) (c0 : Nat) (l : List S37) (w : World) (hr0 : Kd.C k37 w A0 l.length l) (hl : l.length ≤ 200) :
    Calls Try.prog 26 #[.slice A0 l.length c0] w fun e w' => ∃ r, e = .returned r ∧ Kd.R k37 56 w' w.heap.size (fun _ => True) r l ∧ Below w.heap.size w w' := by
  have HR0 := Aside0.mk hr0
  have HL := Aside0.mk hl
  have HB := Aside0.mk (Below.refl w.heap.size w)
  cases A0 with
  | none =>
    have h0 : l = [] := by
      rcases Nat.eq_zero_or_pos l.length with h | h
      · exact List.eq_nil_of_length_eq_zero h
      · obtain ⟨ad, e, _⟩ := hr0.2.2 h; cases e
    subst h0
    clear hr0 hl
    go_enter Try.func26, Try.ntmps26
    go_wp2
    go_ret
    exact ⟨_, rfl, Kd.R_nil _ _ _ _ _, HB.out⟩
  | some ad =>
    clear hr0 hl
    go_enter Try.func26, Try.ntmps26
    go_wp2_with (first | ((with_reducible refine gate_dst (N := 5) rfl ?_); refine Kd.R_lit k37 _ 56 ?hg (N := 5) ?hd (xs := []) (inner := []) (ok := fun _ => True) (okp := fun _ => True) ?hr ?hp (fun _ hk => hk) trivial (Below.refl _ _) (Nat.le_refl _) (by simp) ?_; (case hd => rfl); (case hg => rfl); (case hr => first | (go_simp; done) | (go_simp; rfl)); (case hp => exact (Reps.none _ _)); intro v3 w3 ho4 hb hg_ hnew_; have HO := Aside0.mk (Kd.R_lower ho4 (below_size HB.out)); have HB1 := Aside0.mk (below_step HB.out hb); clear HB hg_ hnew_ hb ho4; have HB := HB1; clear HB1) | ((with_reducible refine gate_dst (N := 7) rfl ?_); refine app_row k37 rfl rfl _ _ 28 56 rfl 32 _ Try.underlying28 info37 rfl (by decide) KM_56 (xs := ([] : List S37)) (l := l) rfl rfl HO.out (Kd.C_below HR0.out HB.out) HB.out (by have := HL.out; simp only [maxLen, List.length_nil]; omega) (by have := HL.out; simp only [maxLen, List.length_nil]; omega) ?_; intro v6 w6 hR_ hB_; have HO2 := Aside0.mk (show Kd.R k37 56 w6 w.heap.size (fun _ => True) v6 l from hR_); have HB2 := Aside0.mk hB_; clear hR_ hB_))
    go_ret
    exact ⟨_, rfl, HO2.out, HB2.out⟩

theorem at1 (x : S37) (s : Int) (g : Nat) (w : World) (hg : w.heap[g]? = some (.cells #[.int .u64 s] 41 (0, 0))) : Calls Try.prog 39 #[.agg #[.int .u64 x.f0, .int .u32 x.f1, .int .u32 x.f2, .int .i64 x.f3, .bool x.f4], .pointer (some ⟨g, 0, none⟩)] w fun e w' => e = .returned (.bool (x.f0 == s)) ∧ Below w.heap.size w w' := by
  have HG := Aside0.mk hg
  have S0 := St.start w
  clear hg
  go_enter Try.func39, Try.ntmps39
  go_wp2_with (first | ((with_reducible refine gate_dst (N := 2) rfl ?_); refine box_event ?hg (N := 2) ?hd (cs := #[.int .u64 x.f0, .int .u32 x.f1, .int .u32 x.f2, .int .i64 x.f3, .bool x.f4]) (t := 56) ?hr ?_; (case hd => rfl); (case hg => rfl); (case hr => first | (go_simp; done) | (go_simp; rfl)); intro g1 hg w1 hbox hb; have S1 := S0.box hg hbox hb; clear hg hbox hb; clear S0; have c0 := S1.cell (b := ⟨g1, #[.int .u64 x.f0, .int .u32 x.f1, .int .u32 x.f2, .int .i64 x.f3, .bool x.f4], 56⟩) (by simp) (j := 0) (v := .int .u64 x.f0) rfl; have cg := blk_cell (blk_below HG.out S1.below) 0))
  go_ret
  exact ⟨rfl, S1.below⟩
/-- The first place of a Seq, from place i on; -1: nowhere. -/
def idxF (s : Int) : List S37 → Int → Int
  | [], _ => -1
  | y :: r, i => if y.f0 = s then i else idxF s r (i + 1)
theorem drop37 (l : List S37) {i : Int} (h0 : 0 ≤ i) (h1 : i < (l.length : Int)) : l.drop i.toNat = rd_T37 l i :: l.drop (i + 1).toNat := by
  have hk : i.toNat < l.length := by omega
  rw [show (i + 1).toNat = i.toNat + 1 by omega]
  unfold rd_T37
  rw [List.getD_eq_getElem?_getD, List.getElem?_eq_getElem hk]
  exact List.drop_eq_getElem_cons hk
set_option maxHeartbeats 8000000 in
set_option maxRecDepth 100000 in
theorem indexF (A0 : Option Addr) (c0 : Nat) (l : List S37) (s : Int) (g : Nat) (w : World) (hg : w.heap[g]? = some (.cells #[.int .u64 s] 41 (0, 0))) (hr0 : Kd.C k37 w A0 l.length l) (hl : l.length ≤ 200) :
    Calls Try.prog 38 #[.slice A0 l.length c0, .func (.func 39) #[] #[.pointer (some ⟨g, 0, none⟩)]] w fun e w' => e = .returned (.int .i64 (idxF s l 0)) ∧ Below w.heap.size w w' := by
  have HR0 := Aside0.mk hr0
  have HG := Aside0.mk hg
  have HL := Aside0.mk hl
  have HB := Aside0.mk (Below.refl w.heap.size w)
  clear hr0 hg hl
  go_enter Try.func38, Try.ntmps38
  go_wp2
  go_loopg [8] l.length (fun kq v8 w' => ∃ (x : Int), v8 = .int .i64 x ∧ Aside0 (0 ≤ x ∧ x + kq = (l.length : Int)) ∧ Aside0 (idxF s (l.drop x.toNat) x = idxF s l 0) ∧ Aside0 (Below w.heap.size w w'))
  case atStart => exact ⟨0, (by first | rfl | (simp; done)), ⟨by simp⟩, ⟨by simp⟩, HB⟩
  case round =>
    clear HB
    obtain ⟨x, rfl, HX, HI, HB⟩ := hrel
    by_cases c : x < (l.length : Int)
    · have cb : decide (x < (l.length : Int)) = true := decide_eq_true c
      have CC := Aside0.mk c
      have p1 : 0 ≤ x := HX.out.1
      obtain ⟨ad, e1, h0, h1, h2, h3, h4⟩ := at_T37 HR0.out x p1 c
      cases e1
      replace h0 := (HB.out.cell (World.block_lt_of_cell? w _ h0)).trans h0
      replace h1 := (HB.out.cell (World.block_lt_of_cell? w _ h1)).trans h1
      replace h2 := (HB.out.cell (World.block_lt_of_cell? w _ h2)).trans h2
      replace h3 := (HB.out.cell (World.block_lt_of_cell? w _ h3)).trans h3
      replace h4 := (HB.out.cell (World.block_lt_of_cell? w _ h4)).trans h4
      have HD := Aside0.mk (drop37 l p1 c)
      obtain ⟨y, hy⟩ : ∃ y_, rd_T37 l x = y_ := ⟨_, rfl⟩
      rw [hy] at HD h0 h1 h2 h3 h4
      have HN := Aside0.mk (wrap_i (x := x + 1) (by omega) (by have := HL.out; omega))
      have p1' := decide_eq_true p1
      clear hy
      replace p1 := eq_true p1
      replace c := eq_true c
      cases d : (y.f0 == s) with
      | true =>
        have LS := Aside0.mk (fun w_ (h_ : w_.heap[g]? = some (.cells #[.int .u64 s] 41 (0, 0))) => at1 y s g w_ h_)
        rw [d] at LS
        have DD := Aside0.mk d
        clear d
        go_wp2_with (first | (go_at_call 39; (with_reducible refine (LS.out _ (blk_below HG.out HB.out)).mono ?_); rintro e_ w3 ⟨rfl, hB_⟩; have HB1 := Aside0.mk (below_step HB.out hB_); clear hB_))
        go_ret
        have e_ : idxF s l 0 = x := by rw [← HI.out, HD.out]; unfold idxF; rw [if_pos (by simpa using DD.out)]
        exact ⟨by rw [e_]; first | done | rfl, HB1.out⟩
      | false =>
        have LS := Aside0.mk (fun w_ (h_ : w_.heap[g]? = some (.cells #[.int .u64 s] 41 (0, 0))) => at1 y s g w_ h_)
        rw [d] at LS
        have DD := Aside0.mk d
        clear d
        go_wp2_with (first | (go_at_call 39; (with_reducible refine (LS.out _ (blk_below HG.out HB.out)).mono ?_); rintro e_ w3 ⟨rfl, hB_⟩; have HB1 := Aside0.mk (below_step HB.out hB_); clear hB_))
        go_roundg (gk - 1)
        case measure => have := HX.out; have := CC.out; omega
        case rel => exact ⟨x + 1, (by first | rfl | (simp; done) | (simp [HN.out]; done)), ⟨by have := HX.out; have := CC.out; omega⟩, ⟨by rw [← HI.out, HD.out]; conv => rhs; unfold idxF; rw [if_neg (by simpa using DD.out)]⟩, HB1⟩
    · have cb : decide (x < (l.length : Int)) = false := decide_eq_false c
      have e : l.drop x.toNat = [] := List.drop_eq_nil_of_le (by have := HX.out; omega)
      have hi := HI.out
      rw [e] at hi
      have HI1 := Aside0.mk (show (-1 : Int) = idxF s l 0 from hi)
      clear c e hi
      go_wp2
      go_ret
      exact ⟨by rw [← HI1.out]; first | done | rfl, HB.out⟩

theorem atX (A0 : Option Addr) (c0 : Nat) (l : List S37) (s : Int) (w : World) (hr0 : Kd.C k37 w A0 l.length l) (hl : l.length ≤ 200) :
    Calls Try.prog 29 #[.slice A0 l.length c0, .int .u64 s] w fun e w' => e = .returned (.int .i64 (idxF s l 0)) ∧ Below w.heap.size w w' := by
  have HR0 := Aside0.mk hr0
  have HL := Aside0.mk hl
  have S0 := St.start w
  clear hr0 hl
  go_enter Try.func29, Try.ntmps29
  go_wp2_with (first | ((with_reducible refine gate_dst (N := 3) rfl ?_); refine box_event ?hg (N := 3) ?hd (cs := #[.int .u64 s]) (t := 41) ?hr ?_; (case hd => rfl); (case hg => rfl); (case hr => first | (go_simp; done) | (go_simp; rfl)); intro g1 hg w1 hbox hb; have S1 := S0.box hg hbox hb; clear hg hbox hb; clear S0) | (go_at_call 38; (with_reducible refine (indexF A0 c0 l s g1 _ (S1.heap ⟨g1, #[.int .u64 s], 41⟩ (by simp)) (Kd.C_below HR0.out S1.below) HL.out).mono ?_); rintro e_ w3 ⟨rfl, hB_⟩; have S2 := S1.call hB_; clear hB_; clear S1))
  go_ret
  exact ⟨rfl, S2.below⟩

set_option maxHeartbeats 8000000 in
set_option maxRecDepth 100000 in
theorem sqPut (A0 : Option Addr) (c0 : Nat) (l : List S37) (s most : Int) (w : World) (hr0 : Kd.C k37 w A0 l.length l) (hl : l.length ≤ 200) (hm : (l.length : Int) < most) :
    Calls Try.prog 8 #[.slice A0 l.length c0, .int .u64 s, .int .i64 most] w fun e w' => (∃ r, e = .returned (.tuple #[r, .bool true]) ∧ Kd.R k37 56 w' w.heap.size (fun _ => True) r (l ++ [⟨s, 0, 0, 0, false⟩])) ∧ Below w.heap.size w w' := by
  have HR0 := Aside0.mk hr0
  have HL := Aside0.mk hl
  have HB := Aside0.mk (Below.refl w.heap.size w)
  have cb : decide (most ≤ (l.length : Int)) = false := decide_eq_false (by omega)
  clear hr0 hl hm
  go_enter Try.func8, Try.ntmps8
  go_wp2_with (first | (go_at_call 26; (with_reducible refine (clone37 A0 c0 l _ HR0.out HL.out).mono ?_); rintro e_ w3 ⟨v3, rfl, hR_, hB_⟩; have HO1 := Aside0.mk hR_; have HB1 := Aside0.mk hB_; clear hR_ hB_) | ((with_reducible refine gate_builtin (b := .append) (xs := #[.tmp 13, .tmp 16]) rfl ?_); at_builtin; refine Kd.R_append k37 (w0 := w) w.heap.size rfl (.tmp 13) (.tmp 16) 28 56 (.agg #[.int .u64 0, .int .u32 0, .int .u32 0, .int .i64 0, .bool false]) 32 rfl Try.underlying28 info37 rfl (by decide) (by omega) _ l ((⟨s, 0, 0, 0, false⟩ : S37)) [.int .u64 s, .int .u32 0, .int .u32 0, .int .i64 0, .bool false] (fun _ => True) (fun _ => False) rfl (by first | (go_simp; done) | (go_simp; rfl)) (k37_mkM _ _ _ _) (fun _ hk => hk.elim) (fun _ _ => trivial) HO1.out HB1.out (below_size HB1.out) (by have := HL.out; omega) ?_; intro v9 w9 hR_ hB_ hg_ hat_; have HO2 := Aside0.mk hR_; have HB2 := Aside0.mk hB_; clear hR_ hB_ hg_ hat_))
  go_ret2
  exact ⟨⟨_, by first | rfl | (simp; done), HO2.out⟩, HB2.out⟩
theorem sqFull (A0 : Option Addr) (c0 : Nat) (l : List S37) (s most : Int) (w : World) (hm : most ≤ (l.length : Int)) :
    Calls Try.prog 8 #[.slice A0 l.length c0, .int .u64 s, .int .i64 most] w fun e w' => e = .returned (.tuple #[.slice none 0 0, .bool false]) ∧ Below w.heap.size w w' := by
  have HB := Aside0.mk (Below.refl w.heap.size w)
  have cb : decide (most ≤ (l.length : Int)) = true := decide_eq_true hm
  clear hm
  go_enter Try.func8, Try.ntmps8
  go_wp2
  go_ret2
  exact ⟨by first | rfl | (simp; done), HB.out⟩

end Go.Proofs.Ytmpnnppgppoliaa.Ld
