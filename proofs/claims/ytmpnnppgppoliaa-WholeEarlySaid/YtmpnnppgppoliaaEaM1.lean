/- Walks of lq.Set, lq.Early and gone. The conditions are those that each theorem names. -/
import Derived.Test.YtmpnnppgppoliaaLdL
import Derived.Test.YtmpnnppgppoliaaLdE
namespace Go.Proofs.Ytmpnnppgppoliaa.Ea
open Go.Proofs.Ytmpnnppgppoliaa.Ld Go Go.Proofs Go.RowKit Go.Proofs.YtmpnnppgppoliaaW.PrintWords Go.Proofs.YtmpnnppgppoliaaW.PrintLast Go.Proofs.YtmpnnppgppoliaaW.PrintMore Go.Proofs.Ytmpnnppgppoliaa.Boxes Go.Proofs.Ytmpnnppgppoliaa.PFwd
attribute [local go_sem] max2_int min2_int max_two min_two max_three min_three max_four min_four   -- for this text's walks alone
set_option linter.unusedVariables false
set_option linter.unusedSimpArgs false

structure S79 where
  f0 : Int
  f1 : Int
  f2 : Int
  f3 : Int
  f4 : Bool
  f5 : Bool
  f6 : Int
  f7 : Bool
def z79 : S79 := ⟨0, 0, 0, 0, false, false, 0, false⟩
def k79 : Kd S79 := Kd.iso (Kd.pair (Kd.int .u64) (Kd.pair (Kd.int .u32) (Kd.pair (Kd.int .u32) (Kd.pair (Kd.int .i64) (Kd.pair (Kd.bool) (Kd.pair (Kd.bool) (Kd.pair (Kd.int .u64) (Kd.bool)))))))) (fun x : S79 => (x.f0, x.f1, x.f2, x.f3, x.f4, x.f5, x.f6, x.f7))
theorem k79_open {w : World} {x : S79} {cs : List Value} (h : k79.K w x cs) : cs = [.int .u64 x.f0, .int .u32 x.f1, .int .u32 x.f2, .int .i64 x.f3, .bool x.f4, .bool x.f5, .int .u64 x.f6, .bool x.f7] := by
  obtain ⟨_, _, rfl, rfl, ⟨_, _, rfl, rfl, ⟨_, _, rfl, rfl, ⟨_, _, rfl, rfl, ⟨_, _, rfl, rfl, ⟨_, _, rfl, rfl, ⟨_, _, rfl, rfl, rfl⟩⟩⟩⟩⟩⟩⟩ := h
  exact rfl
theorem k79_mk (w : World) (x : S79) : k79.K w x [.int .u64 x.f0, .int .u32 x.f1, .int .u32 x.f2, .int .i64 x.f3, .bool x.f4, .bool x.f5, .int .u64 x.f6, .bool x.f7] := ⟨[.int .u64 x.f0], [.int .u32 x.f1, .int .u32 x.f2, .int .i64 x.f3, .bool x.f4, .bool x.f5, .int .u64 x.f6, .bool x.f7], rfl, rfl, ⟨[.int .u32 x.f1], [.int .u32 x.f2, .int .i64 x.f3, .bool x.f4, .bool x.f5, .int .u64 x.f6, .bool x.f7], rfl, rfl, ⟨[.int .u32 x.f2], [.int .i64 x.f3, .bool x.f4, .bool x.f5, .int .u64 x.f6, .bool x.f7], rfl, rfl, ⟨[.int .i64 x.f3], [.bool x.f4, .bool x.f5, .int .u64 x.f6, .bool x.f7], rfl, rfl, ⟨[.bool x.f4], [.bool x.f5, .int .u64 x.f6, .bool x.f7], rfl, rfl, ⟨[.bool x.f5], [.int .u64 x.f6, .bool x.f7], rfl, rfl, ⟨[.int .u64 x.f6], [.bool x.f7], rfl, rfl, rfl⟩⟩⟩⟩⟩⟩⟩
theorem k79_mkM (w : World) (base : Nat) (ok : Nat → Prop) (x : S79) : k79.M w base ok x [.int .u64 x.f0, .int .u32 x.f1, .int .u32 x.f2, .int .i64 x.f3, .bool x.f4, .bool x.f5, .int .u64 x.f6, .bool x.f7] := ⟨[.int .u64 x.f0], [.int .u32 x.f1, .int .u32 x.f2, .int .i64 x.f3, .bool x.f4, .bool x.f5, .int .u64 x.f6, .bool x.f7], rfl, rfl, ⟨[.int .u32 x.f1], [.int .u32 x.f2, .int .i64 x.f3, .bool x.f4, .bool x.f5, .int .u64 x.f6, .bool x.f7], rfl, rfl, ⟨[.int .u32 x.f2], [.int .i64 x.f3, .bool x.f4, .bool x.f5, .int .u64 x.f6, .bool x.f7], rfl, rfl, ⟨[.int .i64 x.f3], [.bool x.f4, .bool x.f5, .int .u64 x.f6, .bool x.f7], rfl, rfl, ⟨[.bool x.f4], [.bool x.f5, .int .u64 x.f6, .bool x.f7], rfl, rfl, ⟨[.bool x.f5], [.int .u64 x.f6, .bool x.f7], rfl, rfl, ⟨[.int .u64 x.f6], [.bool x.f7], rfl, rfl, rfl⟩⟩⟩⟩⟩⟩⟩
def rd_T79 (xs : List S79) (i : Int) : S79 := xs.getD i.toNat z79
theorem at_T79 {w : World} {A : Option Addr} {n : Nat} {xs : List S79} (h : Kd.C k79 w A n xs) (i : Int) (h0 : 0 ≤ i) (h1 : i < n) : ∃ ad, A = some ad ∧ w.cell? (ad.add (i.toNat * 8)) = some (.int .u64 (rd_T79 xs i).f0) ∧ w.cell? ⟨(ad.add (i.toNat * 8)).block, (ad.add (i.toNat * 8)).off + 1, none⟩ = some (.int .u32 (rd_T79 xs i).f1) ∧ w.cell? ⟨(ad.add (i.toNat * 8)).block, (ad.add (i.toNat * 8)).off + 2, none⟩ = some (.int .u32 (rd_T79 xs i).f2) ∧ w.cell? ⟨(ad.add (i.toNat * 8)).block, (ad.add (i.toNat * 8)).off + 3, none⟩ = some (.int .i64 (rd_T79 xs i).f3) ∧ w.cell? ⟨(ad.add (i.toNat * 8)).block, (ad.add (i.toNat * 8)).off + 4, none⟩ = some (.bool (rd_T79 xs i).f4) ∧ w.cell? ⟨(ad.add (i.toNat * 8)).block, (ad.add (i.toNat * 8)).off + 5, none⟩ = some (.bool (rd_T79 xs i).f5) ∧ w.cell? ⟨(ad.add (i.toNat * 8)).block, (ad.add (i.toNat * 8)).off + 6, none⟩ = some (.int .u64 (rd_T79 xs i).f6) ∧ w.cell? ⟨(ad.add (i.toNat * 8)).block, (ad.add (i.toNat * 8)).off + 7, none⟩ = some (.bool (rd_T79 xs i).f7) := by
  obtain ⟨ad, c, e, _, hK, hc0⟩ := Kd.C_get h z79 i h0 h1
  have hc : ∀ j u, c[j]? = some u → w.cell? (ad.add (i.toNat * 8 + j)) = some u := hc0
  obtain rfl := k79_open hK
  exact ⟨ad, e, hc 0 _ rfl, by rw [← add_field _ _ 1 (by omega)]; exact hc 1 _ rfl, by rw [← add_field _ _ 2 (by omega)]; exact hc 2 _ rfl, by rw [← add_field _ _ 3 (by omega)]; exact hc 3 _ rfl, by rw [← add_field _ _ 4 (by omega)]; exact hc 4 _ rfl, by rw [← add_field _ _ 5 (by omega)]; exact hc 5 _ rfl, by rw [← add_field _ _ 6 (by omega)]; exact hc 6 _ rfl, by rw [← add_field _ _ 7 (by omega)]; exact hc 7 _ rfl⟩
theorem info79 : (Try.prog.info? 79).map (fun i => (i.zero, i.size, i.bytes)) = some (some (.agg #[(.int .u64 0), (.int .u32 0), (.int .u32 0), (.int .i64 0), (.bool false), (.bool false), (.int .u64 0), (.bool false)]), 8, 48) := by kernel_rfl
theorem eqnil29 (w : World) (A : Option Addr) (n c : Nat) : (binOp .eql 29 (Value.slice A n c) (Value.slice none 0 0)).run Try.prog w = .ok (.bool A.isNone) w := bonil Try.underlying29 w A n c
attribute [local go_sem high] eqnil29
def cs79 (x : S79) : List Value := [.int .u64 x.f0, .int .u32 x.f1, .int .u32 x.f2, .int .i64 x.f3, .bool x.f4, .bool x.f5, .int .u64 x.f6, .bool x.f7]
theorem KM_79 : ∀ (w w1 : World) (base : Nat) (ok : Nat → Prop) (x : S79) (cs : List Value), k79.K w x cs → k79.M w1 base ok x cs := fun _ _ _ _ _ _ h => by rw [k79_open h]; exact k79_mkM _ _ _ _
set_option maxHeartbeats 8000000 in
set_option maxRecDepth 100000 in
theorem clone79 (A0 : Option Addr) (c0 : Nat) (l : List S79) (w : World) (hr0 : Kd.C k79 w A0 l.length l) (hl : l.length ≤ 200) :
    Calls Try.prog 27 #[.slice A0 l.length c0] w fun e w' => ∃ r, e = .returned r ∧ Kd.R k79 79 w' w.heap.size (fun _ => True) r l ∧ Below w.heap.size w w' := by
  have HR0 := Aside0.mk hr0
  have HL := Aside0.mk hl
  have HB := Aside0.mk (Below.refl w.heap.size w)
  cases A0 with
  | none =>
    have h0 : l = [] := by
      rcases Nat.eq_zero_or_pos l.length with h | h
      · exact List.eq_nil_of_length_eq_zero h
      · obtain ⟨ad, e, _⟩ := hr0.2.2 h; cases e
    subst h0
    clear hr0 hl
    go_enter Try.func27, Try.ntmps27
    go_wp2
    go_ret
    exact ⟨_, rfl, Kd.R_nil _ _ _ _ _, HB.out⟩
  | some ad =>
    clear hr0 hl
    go_enter Try.func27, Try.ntmps27
    go_wp2_with (first | ((with_reducible refine gate_dst (N := 5) rfl ?_); refine Kd.R_lit k79 _ 79 ?hg (N := 5) ?hd (xs := []) (inner := []) (ok := fun _ => True) (okp := fun _ => True) ?hr ?hp (fun _ hk => hk) trivial (Below.refl _ _) (Nat.le_refl _) (by simp) ?_; (case hd => rfl); (case hg => rfl); (case hr => first | (go_simp; done) | (go_simp; rfl)); (case hp => exact (Reps.none _ _)); intro v3 w3 ho4 hb hg_ hnew_; have HO := Aside0.mk (Kd.R_lower ho4 (below_size HB.out)); have HB1 := Aside0.mk (below_step HB.out hb); clear HB hg_ hnew_ hb ho4; have HB := HB1; clear HB1) | ((with_reducible refine gate_dst (N := 7) rfl ?_); refine app_row k79 rfl rfl _ _ 29 79 rfl 48 _ Try.underlying29 info79 rfl (by decide) KM_79 (xs := ([] : List S79)) (l := l) rfl rfl HO.out (Kd.C_below HR0.out HB.out) HB.out (by have := HL.out; simp only [maxLen, List.length_nil]; omega) (by have := HL.out; simp only [maxLen, List.length_nil]; omega) ?_; intro v6 w6 hR_ hB_; have HO2 := Aside0.mk (show Kd.R k79 79 w6 w.heap.size (fun _ => True) v6 l from hR_); have HB2 := Aside0.mk hB_; clear hR_ hB_))
    go_ret
    exact ⟨_, rfl, HO2.out, HB2.out⟩


theorem at1 (x : S79) (e : S79) (g : Nat) (w : World) (hg : w.heap[g]? = some (.cells #[.int .u64 e.f0, .int .u32 e.f1, .int .u32 e.f2, .int .i64 e.f3, .bool e.f4, .bool e.f5, .int .u64 e.f6, .bool e.f7] 79 (0, 0))) : Calls Try.prog 37 #[.agg #[.int .u64 x.f0, .int .u32 x.f1, .int .u32 x.f2, .int .i64 x.f3, .bool x.f4, .bool x.f5, .int .u64 x.f6, .bool x.f7], .pointer (some ⟨g, 0, none⟩)] w fun e_ w' => e_ = .returned (.bool (x.f0 == e.f0)) ∧ Below w.heap.size w w' := by
  have HG := Aside0.mk hg
  have S0 := St.start w
  clear hg
  go_enter Try.func37, Try.ntmps37
  go_wp2_with (first | ((with_reducible refine gate_dst (N := 2) rfl ?_); refine box_event ?hg (N := 2) ?hd (cs := #[.int .u64 x.f0, .int .u32 x.f1, .int .u32 x.f2, .int .i64 x.f3, .bool x.f4, .bool x.f5, .int .u64 x.f6, .bool x.f7]) (t := 79) ?hr ?_; (case hd => rfl); (case hg => rfl); (case hr => first | (go_simp; done) | (go_simp; rfl)); intro g1 hg w1 hbox hb; have S1 := S0.box hg hbox hb; clear hg hbox hb; clear S0; have c0 := S1.cell (b := ⟨g1, #[.int .u64 x.f0, .int .u32 x.f1, .int .u32 x.f2, .int .i64 x.f3, .bool x.f4, .bool x.f5, .int .u64 x.f6, .bool x.f7], 79⟩) (by simp) (j := 0) (v := .int .u64 x.f0) rfl; have cg := blk_cell (blk_below HG.out S1.below) 0))
  go_ret
  exact ⟨rfl, S1.below⟩
/-- The first place of a Seq, from place i on; -1: nowhere. -/
def idxL (s : Int) : List S79 → Int → Int
  | [], _ => -1
  | y :: r, i => if y.f0 = s then i else idxL s r (i + 1)
theorem drop79 (l : List S79) {i : Int} (h0 : 0 ≤ i) (h1 : i < (l.length : Int)) : l.drop i.toNat = rd_T79 l i :: l.drop (i + 1).toNat := by
  have hk : i.toNat < l.length := by omega
  rw [show (i + 1).toNat = i.toNat + 1 by omega]
  unfold rd_T79
  rw [List.getD_eq_getElem?_getD, List.getElem?_eq_getElem hk]
  exact List.drop_eq_getElem_cons hk
set_option maxHeartbeats 8000000 in
set_option maxRecDepth 100000 in
theorem indexL (A0 : Option Addr) (c0 : Nat) (l : List S79) (e : S79) (g : Nat) (w : World) (hg : w.heap[g]? = some (.cells #[.int .u64 e.f0, .int .u32 e.f1, .int .u32 e.f2, .int .i64 e.f3, .bool e.f4, .bool e.f5, .int .u64 e.f6, .bool e.f7] 79 (0, 0))) (hr0 : Kd.C k79 w A0 l.length l) (hl : l.length ≤ 200) :
    Calls Try.prog 36 #[.slice A0 l.length c0, .func (.func 37) #[] #[.pointer (some ⟨g, 0, none⟩)]] w fun e_ w' => e_ = .returned (.int .i64 (idxL e.f0 l 0)) ∧ Below w.heap.size w w' := by
  have HR0 := Aside0.mk hr0
  have HG := Aside0.mk hg
  have HL := Aside0.mk hl
  have HB := Aside0.mk (Below.refl w.heap.size w)
  clear hr0 hg hl
  go_enter Try.func36, Try.ntmps36
  go_wp2
  go_loopg [8] l.length (fun kq v8 w' => ∃ (x : Int), v8 = .int .i64 x ∧ Aside0 (0 ≤ x ∧ x + kq = (l.length : Int)) ∧ Aside0 (idxL e.f0 (l.drop x.toNat) x = idxL e.f0 l 0) ∧ Aside0 (Below w.heap.size w w'))
  case atStart => exact ⟨0, (by first | rfl | (simp; done)), ⟨by simp⟩, ⟨by simp⟩, HB⟩
  case round =>
    clear HB
    obtain ⟨x, rfl, HX, HI, HB⟩ := hrel
    by_cases c : x < (l.length : Int)
    · have cb : decide (x < (l.length : Int)) = true := decide_eq_true c
      have CC := Aside0.mk c
      have p1 : 0 ≤ x := HX.out.1
      obtain ⟨ad, e1, h0, h1, h2, h3, h4, h5, h6, h7⟩ := at_T79 HR0.out x p1 c
      cases e1
      replace h0 := (HB.out.cell (World.block_lt_of_cell? w _ h0)).trans h0
      replace h1 := (HB.out.cell (World.block_lt_of_cell? w _ h1)).trans h1
      replace h2 := (HB.out.cell (World.block_lt_of_cell? w _ h2)).trans h2
      replace h3 := (HB.out.cell (World.block_lt_of_cell? w _ h3)).trans h3
      replace h4 := (HB.out.cell (World.block_lt_of_cell? w _ h4)).trans h4
      replace h5 := (HB.out.cell (World.block_lt_of_cell? w _ h5)).trans h5
      replace h6 := (HB.out.cell (World.block_lt_of_cell? w _ h6)).trans h6
      replace h7 := (HB.out.cell (World.block_lt_of_cell? w _ h7)).trans h7
      have HD := Aside0.mk (drop79 l p1 c)
      obtain ⟨y, hy⟩ : ∃ y_, rd_T79 l x = y_ := ⟨_, rfl⟩
      rw [hy] at HD h0 h1 h2 h3 h4 h5 h6 h7
      have HN := Aside0.mk (wrap_i (x := x + 1) (by omega) (by have := HL.out; omega))
      have p1' := decide_eq_true p1
      clear hy
      replace p1 := eq_true p1
      replace c := eq_true c
      cases d : (y.f0 == e.f0) with
      | true =>
        have LS := Aside0.mk (fun w_ (h_ : w_.heap[g]? = some (.cells #[.int .u64 e.f0, .int .u32 e.f1, .int .u32 e.f2, .int .i64 e.f3, .bool e.f4, .bool e.f5, .int .u64 e.f6, .bool e.f7] 79 (0, 0))) => at1 y e g w_ h_)
        rw [d] at LS
        have DD := Aside0.mk d
        clear d
        go_wp2_with (first | (go_at_call 37; (with_reducible refine (LS.out _ (blk_below HG.out HB.out)).mono ?_); rintro e_ w3 ⟨rfl, hB_⟩; have HB1 := Aside0.mk (below_step HB.out hB_); clear hB_))
        go_ret
        have e_ : idxL e.f0 l 0 = x := by rw [← HI.out, HD.out]; unfold idxL; rw [if_pos (by simpa using DD.out)]
        exact ⟨by rw [e_]; first | done | rfl, HB1.out⟩
      | false =>
        have LS := Aside0.mk (fun w_ (h_ : w_.heap[g]? = some (.cells #[.int .u64 e.f0, .int .u32 e.f1, .int .u32 e.f2, .int .i64 e.f3, .bool e.f4, .bool e.f5, .int .u64 e.f6, .bool e.f7] 79 (0, 0))) => at1 y e g w_ h_)
        rw [d] at LS
        have DD := Aside0.mk d
        clear d
        go_wp2_with (first | (go_at_call 37; (with_reducible refine (LS.out _ (blk_below HG.out HB.out)).mono ?_); rintro e_ w3 ⟨rfl, hB_⟩; have HB1 := Aside0.mk (below_step HB.out hB_); clear hB_))
        go_roundg (gk - 1)
        case measure => have := HX.out; have := CC.out; omega
        case rel => exact ⟨x + 1, (by first | rfl | (simp; done) | (simp [HN.out]; done)), ⟨by have := HX.out; have := CC.out; omega⟩, ⟨by rw [← HI.out, HD.out]; conv => rhs; unfold idxL; rw [if_neg (by simpa using DD.out)]⟩, HB1⟩
    · have cb : decide (x < (l.length : Int)) = false := decide_eq_false c
      have e_ : l.drop x.toNat = [] := List.drop_eq_nil_of_le (by have := HX.out; omega)
      have hi := HI.out
      rw [e_] at hi
      have HI1 := Aside0.mk (show (-1 : Int) = idxL e.f0 l 0 from hi)
      clear c e_ hi
      go_wp2
      go_ret
      exact ⟨by rw [← HI1.out]; first | done | rfl, HB.out⟩


set_option maxHeartbeats 8000000 in
set_option maxRecDepth 100000 in
theorem lqPut (A0 : Option Addr) (c0 : Nat) (l : List S79) (s most : Int) (w : World) (hr0 : Kd.C k79 w A0 l.length l) (hl : l.length ≤ 200) (hm : (l.length : Int) < most) :
    Calls Try.prog 9 #[.slice A0 l.length c0, .int .u64 s, .int .u32 0, .int .i64 most] w fun e w' => (∃ r, e = .returned (.tuple #[r, .bool true]) ∧ Kd.R k79 79 w' w.heap.size (fun _ => True) r (l ++ [⟨s, 0, 0, 0, false, false, 0, false⟩])) ∧ Below w.heap.size w w' := by
  have HR0 := Aside0.mk hr0
  have HL := Aside0.mk hl
  have HB := Aside0.mk (Below.refl w.heap.size w)
  have cb : decide (most ≤ (l.length : Int)) = false := decide_eq_false (by omega)
  clear hr0 hl hm
  go_enter Try.func9, Try.ntmps9
  go_wp2_with (first | (go_at_call 27; (with_reducible refine (clone79 A0 c0 l _ HR0.out HL.out).mono ?_); rintro e_ w3 ⟨v3, rfl, hR_, hB_⟩; have HO1 := Aside0.mk hR_; have HB1 := Aside0.mk hB_; clear hR_ hB_) | ((with_reducible refine gate_builtin (b := .append) (xs := #[.tmp 15, .tmp 19]) rfl ?_); at_builtin; refine Kd.R_append k79 (w0 := w) w.heap.size rfl (.tmp 15) (.tmp 19) 29 79 (.agg #[(.int .u64 0), (.int .u32 0), (.int .u32 0), (.int .i64 0), (.bool false), (.bool false), (.int .u64 0), (.bool false)]) 48 rfl Try.underlying29 info79 rfl (by decide) (by omega) _ l ((⟨s, 0, 0, 0, false, false, 0, false⟩ : S79)) [.int .u64 s, .int .u32 0, .int .u32 0, .int .i64 0, .bool false, .bool false, .int .u64 0, .bool false] (fun _ => True) (fun _ => False) rfl (by first | (go_simp; done) | (go_simp; rfl)) (k79_mkM _ _ _ _) (fun _ hk => hk.elim) (fun _ _ => trivial) HO1.out HB1.out (below_size HB1.out) (by have := HL.out; omega) ?_; intro v9 w9 hR_ hB_ hg_ hat_; have HO2 := Aside0.mk hR_; have HB2 := Aside0.mk hB_; clear hR_ hB_ hg_ hat_))
  go_ret2
  exact ⟨⟨_, by first | rfl | (simp; done), HO2.out⟩, HB2.out⟩
theorem lqFull (A0 : Option Addr) (c0 : Nat) (l : List S79) (s most : Int) (w : World) (hm : most ≤ (l.length : Int)) :
    Calls Try.prog 9 #[.slice A0 l.length c0, .int .u64 s, .int .u32 0, .int .i64 most] w fun e w' => e = .returned (.tuple #[.slice none 0 0, .bool false]) ∧ Below w.heap.size w w' := by
  have HB := Aside0.mk (Below.refl w.heap.size w)
  have cb : decide (most ≤ (l.length : Int)) = true := decide_eq_true hm
  clear hm
  go_enter Try.func9, Try.ntmps9
  go_wp2
  go_ret2
  exact ⟨by first | rfl | (simp; done), HB.out⟩


end Go.Proofs.Ytmpnnppgppoliaa.Ea

namespace Go.Proofs.Ytmpnnppgppoliaa.Ea
open Go.Proofs.Ytmpnnppgppoliaa.Ld Go Go.Proofs Go.RowKit Go.Proofs.YtmpnnppgppoliaaW.PrintWords Go.Proofs.YtmpnnppgppoliaaW.PrintLast Go.Proofs.YtmpnnppgppoliaaW.PrintMore Go.Proofs.Ytmpnnppgppoliaa.Boxes Go.Proofs.Ytmpnnppgppoliaa.PFwd
attribute [local go_sem] max2_int min2_int max_two min_two max_three min_three max_four min_four   -- for this text's walks alone
set_option linter.unusedVariables false
set_option linter.unusedSimpArgs false

theorem idxL_rng (s : Int) : ∀ (l : List S79) (k : Int), 0 ≤ k → idxL s l k = -1 ∨ (k ≤ idxL s l k ∧ idxL s l k < k + l.length)
  | [], k, h => Or.inl rfl
  | y :: r, k, h => by
    unfold idxL
    by_cases c : y.f0 = s
    · rw [if_pos c]; right; simp; omega
    · rw [if_neg c]
      rcases idxL_rng s r (k + 1) (by omega) with h1 | h1
      · exact Or.inl h1
      · right; simp; omega
/-- A queue in which a load is known. -/
def setL (l : List S79) (e : S79) : List S79 := if 0 ≤ idxL e.f0 l 0 then l.set (idxL e.f0 l 0).toNat {e with f4 := true} else l
set_option maxHeartbeats 8000000 in
set_option maxRecDepth 100000 in
theorem lqSet (A0 : Option Addr) (c0 : Nat) (l : List S79) (e : S79) (w : World) (hr0 : Kd.C k79 w A0 l.length l) (hl : l.length ≤ 200) :
    Calls Try.prog 28 #[.slice A0 l.length c0, .agg #[.int .u64 e.f0, .int .u32 e.f1, .int .u32 e.f2, .int .i64 e.f3, .bool e.f4, .bool e.f5, .int .u64 e.f6, .bool e.f7]] w fun e_ w' => ∃ r, e_ = .returned r ∧ Kd.R k79 79 w' w.heap.size (fun _ => True) r (setL l e) ∧ Below w.heap.size w w' := by
  have HR0 := Aside0.mk hr0
  have HL := Aside0.mk hl
  have S0 := St.start w
  have AX0 : ∀ (Ao : Option Addr) (co : Nat) (w_ : World) (g : Nat) (hg_ : w_.heap[g]? = some (.cells #[.int .u64 e.f0, .int .u32 e.f1, .int .u32 e.f2, .int .i64 e.f3, .bool e.f4, .bool e.f5, .int .u64 e.f6, .bool e.f7] 79 (0, 0))) (hC_ : Kd.C k79 w_ Ao l.length l), Calls Try.prog 36 #[.slice Ao l.length co, .func (.func 37) #[] #[.pointer (some ⟨g, 0, none⟩)]] w_ fun e_ w' => e_ = .returned (.int .i64 (idxL e.f0 l 0)) ∧ Below w_.heap.size w_ w' := fun Ao co w_ g hg_ hC_ => indexL Ao co l e g w_ hg_ hC_ hl
  have hrng := idxL_rng e.f0 l 0 (by decide)
  unfold setL
  obtain ⟨i, hi⟩ : ∃ i_, idxL e.f0 l 0 = i_ := ⟨_, rfl⟩
  rw [hi] at hrng ⊢
  have AX := Aside0.mk (fun (Ao : Option Addr) (co : Nat) {g : Nat} (w_ : World) (hg_ : w_.heap[g]? = some (.cells #[.int .u64 e.f0, .int .u32 e.f1, .int .u32 e.f2, .int .i64 e.f3, .bool e.f4, .bool e.f5, .int .u64 e.f6, .bool e.f7] 79 (0, 0))) (hC_ : Kd.C k79 w_ Ao l.length l) => (hi ▸ AX0 Ao co w_ g hg_ hC_ : Calls Try.prog 36 #[.slice Ao l.length co, .func (.func 37) #[] #[.pointer (some ⟨g, 0, none⟩)]] w_ fun e_ w' => e_ = .returned (.int .i64 i) ∧ Below w_.heap.size w_ w'))
  clear hr0 hl hi AX0
  by_cases c : 0 ≤ i
  · rw [if_pos c]
    have cb : decide (0 ≤ i) = true := decide_eq_true c
    have q1 : i < (l.length : Int) := by omega
    have HI := Aside0.mk (And.intro c q1)
    have q1' := decide_eq_true q1
    replace c := eq_true c
    replace q1 := eq_true q1
    clear hrng
    go_enter Try.func28, Try.ntmps28
    go_upto_region 5 with (first | ((with_reducible refine gate_dst (N := 3) rfl ?_); refine box_event ?hg (N := 3) ?hd (cs := #[.int .u64 e.f0, .int .u32 e.f1, .int .u32 e.f2, .int .i64 e.f3, .bool e.f4, .bool e.f5, .int .u64 e.f6, .bool e.f7]) (t := 79) ?hr ?_; (case hd => rfl); (case hg => rfl); (case hr => first | (go_simp; done) | (go_simp; rfl)); intro g1 hg w1 hbox hb; have S1 := S0.box hg hbox hb; clear hg hbox hb; clear S0) | (go_at_call 27; (with_reducible refine (clone79 A0 c0 l _ (Kd.C_below HR0.out S1.below) HL.out).mono ?_); rintro e_ w2 ⟨v2, rfl, hR_, hB_⟩; have S2 := S1.call hB_; have HG1 := Aside0.mk (blk_lt (S1.heap ⟨g1, #[.int .u64 e.f0, .int .u32 e.f1, .int .u32 e.f2, .int .i64 e.f3, .bool e.f4, .bool e.f5, .int .u64 e.f6, .bool e.f7], 79⟩ (by simp))); have HSZ := Aside0.mk (below_size S1.below); have HO2 := Aside0.mk hR_; obtain ⟨Ao, co, eo⟩ := Kd.R_slice HO2.out; subst eo; clear hR_ hB_; clear S1; have c0_ := S2.cell (b := ⟨g1, #[.int .u64 e.f0, .int .u32 e.f1, .int .u32 e.f2, .int .i64 e.f3, .bool e.f4, .bool e.f5, .int .u64 e.f6, .bool e.f7], 79⟩) (by simp) (j := 0) (v := .int .u64 e.f0) rfl) | (go_at_call 36; (with_reducible refine (AX.out Ao co _ (S2.heap ⟨g1, #[.int .u64 e.f0, .int .u32 e.f1, .int .u32 e.f2, .int .i64 e.f3, .bool e.f4, .bool e.f5, .int .u64 e.f6, .bool e.f7], 79⟩ (by simp)) (Kd.R_reads' HO2.out).2.2).mono ?_); rintro e_ w3 ⟨rfl, hB_⟩; have S3 := S2.call hB_; have HO3 := Aside0.mk (Kd.R_below HO2.out hB_); clear hB_; clear S2; have c4_ := S3.cell (b := ⟨g1, #[.int .u64 e.f0, .int .u32 e.f1, .int .u32 e.f2, .int .i64 e.f3, .bool e.f4, .bool e.f5, .int .u64 e.f6, .bool e.f7], 79⟩) (by simp) (j := 4) (v := .bool e.f4) rfl; have z4_ := S3.frozen (b := ⟨g1, #[.int .u64 e.f0, .int .u32 e.f1, .int .u32 e.f2, .int .i64 e.f3, .bool e.f4, .bool e.f5, .int .u64 e.f6, .bool e.f7], 79⟩) (by simp) 4))
    have S4 : St w (w3.setCell ⟨g1, 4, none⟩ (.bool true)) [⟨g1, #[.int .u64 e.f0, .int .u32 e.f1, .int .u32 e.f2, .int .i64 e.f3, .bool true, .bool e.f5, .int .u64 e.f6, .bool e.f7], 79⟩] := St.set (L1 := []) (b := ⟨g1, #[.int .u64 e.f0, .int .u32 e.f1, .int .u32 e.f2, .int .i64 e.f3, .bool e.f4, .bool e.f5, .int .u64 e.f6, .bool e.f7], 79⟩) S3 4 _
    have HO4 := Aside0.mk (R_setfar HO3.out HG1.out 4 (.bool true))
    clear S3 c0_ c4_ z4_
    generalize World.setCell _ _ _ = w4 at S4 HO4 ⊢
    obtain ⟨go, cap, eo, gb, gl, cells, hG⟩ := Kd.R_form HO4.out (by have := HI.out; omega)
    injection eo with ea en ec
    subst ea
    clear en ec hG gl cap
    have GB := Aside0.mk gb
    have HS4 := Aside0.mk S4
    obtain ⟨w4b, hw4⟩ : ∃ x_, w4 = x_ := ⟨_, rfl⟩
    have HW4 := Aside0.mk hw4
    have HB4 := Aside0.mk (hw4 ▸ Below.refl w1.heap.size w4 : Below w1.heap.size w4b w4)
    clear hw4
    clear gb
    go_wp2_with (first | ((with_reducible refine gate_dst (N := 16) rfl ?_); refine wpList_load_row rfl 79 _ rfl g1 rfl 79 #[.int .u64 e.f0, .int .u32 e.f1, .int .u32 e.f2, .int .i64 e.f3, .bool true, .bool e.f5, .int .u64 e.f6, .bool e.f7] (0, 0) _ (S4.heap ⟨g1, #[.int .u64 e.f0, .int .u32 e.f1, .int .u32 e.f2, .int .i64 e.f3, .bool true, .bool e.f5, .int .u64 e.f6, .bool e.f7], 79⟩ (by simp)) Try.underlying79 rfl (by kernel_rfl) ?_) | ((with_reducible refine gate_store (t := 79) (p := 17) rfl ?_); refine st_elt (d := k79) (w0 := w4b) rfl 79 _ _ rfl (by kernel_rfl) HO4.out i HI.out.1 HI.out.2 z79 {e with f4 := true} (cs79 {e with f4 := true}) (fun _ => k79_mkM _ _ _ _) rfl (by simp [cs79, Value.oneCell']) rfl rfl HB4.out GB.out ?_; intro w5 hR_ hB_; have HO5 := Aside0.mk hR_; have HB5 := Aside0.mk hB_; clear hR_ hB_))
    go_ret
    refine ⟨_, rfl, Kd.R_lower HO5.out HSZ.out, ?_⟩
    have h_ := HB5.out
    rw [← HW4.out] at h_
    exact (HS4.out.below).trans ⟨h_.os, h_.tape, h_.output, h_.size, fun k hk => h_.block k (Nat.lt_of_lt_of_le hk HSZ.out)⟩
  · rw [if_neg c]
    have cb : decide (0 ≤ i) = false := decide_eq_false c
    clear c hrng
    go_enter Try.func28, Try.ntmps28
    go_wp2_with (first | ((with_reducible refine gate_dst (N := 3) rfl ?_); refine box_event ?hg (N := 3) ?hd (cs := #[.int .u64 e.f0, .int .u32 e.f1, .int .u32 e.f2, .int .i64 e.f3, .bool e.f4, .bool e.f5, .int .u64 e.f6, .bool e.f7]) (t := 79) ?hr ?_; (case hd => rfl); (case hg => rfl); (case hr => first | (go_simp; done) | (go_simp; rfl)); intro g1 hg w1 hbox hb; have S1 := S0.box hg hbox hb; clear hg hbox hb; clear S0) | (go_at_call 27; (with_reducible refine (clone79 A0 c0 l _ (Kd.C_below HR0.out S1.below) HL.out).mono ?_); rintro e_ w2 ⟨v2, rfl, hR_, hB_⟩; have S2 := S1.call hB_; have HG1 := Aside0.mk (blk_lt (S1.heap ⟨g1, #[.int .u64 e.f0, .int .u32 e.f1, .int .u32 e.f2, .int .i64 e.f3, .bool e.f4, .bool e.f5, .int .u64 e.f6, .bool e.f7], 79⟩ (by simp))); have HSZ := Aside0.mk (below_size S1.below); have HO2 := Aside0.mk hR_; obtain ⟨Ao, co, eo⟩ := Kd.R_slice HO2.out; subst eo; clear hR_ hB_; clear S1; have c0_ := S2.cell (b := ⟨g1, #[.int .u64 e.f0, .int .u32 e.f1, .int .u32 e.f2, .int .i64 e.f3, .bool e.f4, .bool e.f5, .int .u64 e.f6, .bool e.f7], 79⟩) (by simp) (j := 0) (v := .int .u64 e.f0) rfl) | (go_at_call 36; (with_reducible refine (AX.out Ao co _ (S2.heap ⟨g1, #[.int .u64 e.f0, .int .u32 e.f1, .int .u32 e.f2, .int .i64 e.f3, .bool e.f4, .bool e.f5, .int .u64 e.f6, .bool e.f7], 79⟩ (by simp)) (Kd.R_reads' HO2.out).2.2).mono ?_); rintro e_ w3 ⟨rfl, hB_⟩; have S3 := S2.call hB_; have HO3 := Aside0.mk (Kd.R_below HO2.out hB_); clear hB_; clear S2; have c4_ := S3.cell (b := ⟨g1, #[.int .u64 e.f0, .int .u32 e.f1, .int .u32 e.f2, .int .i64 e.f3, .bool e.f4, .bool e.f5, .int .u64 e.f6, .bool e.f7], 79⟩) (by simp) (j := 4) (v := .bool e.f4) rfl; have z4_ := S3.frozen (b := ⟨g1, #[.int .u64 e.f0, .int .u32 e.f1, .int .u32 e.f2, .int .i64 e.f3, .bool e.f4, .bool e.f5, .int .u64 e.f6, .bool e.f7], 79⟩) (by simp) 4))
    go_ret
    exact ⟨_, rfl, Kd.R_lower HO3.out HSZ.out, S3.below⟩

end Go.Proofs.Ytmpnnppgppoliaa.Ea

namespace Go.Proofs.Ytmpnnppgppoliaa.Ea
open Go.Proofs.Ytmpnnppgppoliaa.Ld Go Go.Proofs Go.RowKit Go.Proofs.YtmpnnppgppoliaaW.PrintWords Go.Proofs.YtmpnnppgppoliaaW.PrintLast Go.Proofs.YtmpnnppgppoliaaW.PrintMore Go.Proofs.Ytmpnnppgppoliaa.Boxes Go.Proofs.Ytmpnnppgppoliaa.PFwd
attribute [local go_sem] max2_int min2_int max_two min_two max_three min_three max_four min_four   -- for this text's walks alone
set_option linter.unusedVariables false
set_option linter.unusedSimpArgs false

/-- Did a load go too early, by a store? -/
def earlyB (e : S79) (s : S37) : Bool := e.f4 && (decide (s.f0 < e.f0) && (decide (e.f6 < s.f0) && ovB e.f2 e.f3 s.f1 s.f3))
set_option maxHeartbeats 8000000 in
set_option maxRecDepth 100000 in
theorem earlyOne (e : S79) (s : S37) (w : World) : Calls Try.prog 34 #[.agg #[.int .u64 e.f0, .int .u32 e.f1, .int .u32 e.f2, .int .i64 e.f3, .bool e.f4, .bool e.f5, .int .u64 e.f6, .bool e.f7], .agg #[.int .u64 s.f0, .int .u32 s.f1, .int .u32 s.f2, .int .i64 s.f3, .bool s.f4]] w fun e_ w' => e_ = .returned (.bool (earlyB e s)) ∧ Below w.heap.size w w' := by
  obtain ⟨a0, a1, a2, a3, a4, a5, a6, a7⟩ := e
  have S0 := St.start w
  unfold earlyB
  cases a4 with
  | false =>
      go_enter Try.func34, Try.ntmps34
      go_wp2_with (first | ((with_reducible refine gate_dst (N := 2) rfl ?_); refine box_event ?hg (N := 2) ?hd (cs := #[.int .u64 a0, .int .u32 a1, .int .u32 a2, .int .i64 a3, .bool false, .bool a5, .int .u64 a6, .bool a7]) (t := 79) ?hr ?_; (case hd => rfl); (case hg => rfl); (case hr => first | (go_simp; done) | (go_simp; rfl)); intro g1 hg w1 hbox hb; have S1 := S0.box hg hbox hb; clear hg hbox hb; clear S0) | ((with_reducible refine gate_dst (N := 3) rfl ?_); refine box_event ?hg (N := 3) ?hd (cs := #[.int .u64 s.f0, .int .u32 s.f1, .int .u32 s.f2, .int .i64 s.f3, .bool s.f4]) (t := 56) ?hr ?_; (case hd => rfl); (case hg => rfl); (case hr => first | (go_simp; done) | (go_simp; rfl)); intro g2 hg w2 hbox hb; have S2 := S1.box hg hbox hb; clear hg hbox hb; clear S1; have c0_ := S2.cell (b := ⟨g1, #[.int .u64 a0, .int .u32 a1, .int .u32 a2, .int .i64 a3, .bool false, .bool a5, .int .u64 a6, .bool a7], 79⟩) (by simp) (j := 0) (v := .int .u64 a0) rfl; have c2_ := S2.cell (b := ⟨g1, #[.int .u64 a0, .int .u32 a1, .int .u32 a2, .int .i64 a3, .bool false, .bool a5, .int .u64 a6, .bool a7], 79⟩) (by simp) (j := 2) (v := .int .u32 a2) rfl; have c3_ := S2.cell (b := ⟨g1, #[.int .u64 a0, .int .u32 a1, .int .u32 a2, .int .i64 a3, .bool false, .bool a5, .int .u64 a6, .bool a7], 79⟩) (by simp) (j := 3) (v := .int .i64 a3) rfl; have c4_ := S2.cell (b := ⟨g1, #[.int .u64 a0, .int .u32 a1, .int .u32 a2, .int .i64 a3, .bool false, .bool a5, .int .u64 a6, .bool a7], 79⟩) (by simp) (j := 4) (v := .bool false) rfl; have c6_ := S2.cell (b := ⟨g1, #[.int .u64 a0, .int .u32 a1, .int .u32 a2, .int .i64 a3, .bool false, .bool a5, .int .u64 a6, .bool a7], 79⟩) (by simp) (j := 6) (v := .int .u64 a6) rfl; have d0_ := S2.cell (b := ⟨g2, #[.int .u64 s.f0, .int .u32 s.f1, .int .u32 s.f2, .int .i64 s.f3, .bool s.f4], 56⟩) (by simp) (j := 0) (v := .int .u64 s.f0) rfl; have d1_ := S2.cell (b := ⟨g2, #[.int .u64 s.f0, .int .u32 s.f1, .int .u32 s.f2, .int .i64 s.f3, .bool s.f4], 56⟩) (by simp) (j := 1) (v := .int .u32 s.f1) rfl; have d3_ := S2.cell (b := ⟨g2, #[.int .u64 s.f0, .int .u32 s.f1, .int .u32 s.f2, .int .i64 s.f3, .bool s.f4], 56⟩) (by simp) (j := 3) (v := .int .i64 s.f3) rfl) | (go_at_call 31; (with_reducible refine (overlap a2 a3 s.f1 s.f3 _).mono ?_); rintro e_ w3 ⟨rfl, hB_⟩; have S3 := S2.call hB_; clear hB_))
      go_ret
      exact ⟨by simp, S2.below⟩
  | true =>
    by_cases d1 : s.f0 < a0
    · have e1 := decide_eq_true d1
      by_cases d2 : a6 < s.f0
      · have e2 := decide_eq_true d2
        simp only [e1, e2, Bool.true_and]
        clear d1 d2
        go_enter Try.func34, Try.ntmps34
        go_wp2_with (first | ((with_reducible refine gate_dst (N := 2) rfl ?_); refine box_event ?hg (N := 2) ?hd (cs := #[.int .u64 a0, .int .u32 a1, .int .u32 a2, .int .i64 a3, .bool true, .bool a5, .int .u64 a6, .bool a7]) (t := 79) ?hr ?_; (case hd => rfl); (case hg => rfl); (case hr => first | (go_simp; done) | (go_simp; rfl)); intro g1 hg w1 hbox hb; have S1 := S0.box hg hbox hb; clear hg hbox hb; clear S0) | ((with_reducible refine gate_dst (N := 3) rfl ?_); refine box_event ?hg (N := 3) ?hd (cs := #[.int .u64 s.f0, .int .u32 s.f1, .int .u32 s.f2, .int .i64 s.f3, .bool s.f4]) (t := 56) ?hr ?_; (case hd => rfl); (case hg => rfl); (case hr => first | (go_simp; done) | (go_simp; rfl)); intro g2 hg w2 hbox hb; have S2 := S1.box hg hbox hb; clear hg hbox hb; clear S1; have c0_ := S2.cell (b := ⟨g1, #[.int .u64 a0, .int .u32 a1, .int .u32 a2, .int .i64 a3, .bool true, .bool a5, .int .u64 a6, .bool a7], 79⟩) (by simp) (j := 0) (v := .int .u64 a0) rfl; have c2_ := S2.cell (b := ⟨g1, #[.int .u64 a0, .int .u32 a1, .int .u32 a2, .int .i64 a3, .bool true, .bool a5, .int .u64 a6, .bool a7], 79⟩) (by simp) (j := 2) (v := .int .u32 a2) rfl; have c3_ := S2.cell (b := ⟨g1, #[.int .u64 a0, .int .u32 a1, .int .u32 a2, .int .i64 a3, .bool true, .bool a5, .int .u64 a6, .bool a7], 79⟩) (by simp) (j := 3) (v := .int .i64 a3) rfl; have c4_ := S2.cell (b := ⟨g1, #[.int .u64 a0, .int .u32 a1, .int .u32 a2, .int .i64 a3, .bool true, .bool a5, .int .u64 a6, .bool a7], 79⟩) (by simp) (j := 4) (v := .bool true) rfl; have c6_ := S2.cell (b := ⟨g1, #[.int .u64 a0, .int .u32 a1, .int .u32 a2, .int .i64 a3, .bool true, .bool a5, .int .u64 a6, .bool a7], 79⟩) (by simp) (j := 6) (v := .int .u64 a6) rfl; have d0_ := S2.cell (b := ⟨g2, #[.int .u64 s.f0, .int .u32 s.f1, .int .u32 s.f2, .int .i64 s.f3, .bool s.f4], 56⟩) (by simp) (j := 0) (v := .int .u64 s.f0) rfl; have d1_ := S2.cell (b := ⟨g2, #[.int .u64 s.f0, .int .u32 s.f1, .int .u32 s.f2, .int .i64 s.f3, .bool s.f4], 56⟩) (by simp) (j := 1) (v := .int .u32 s.f1) rfl; have d3_ := S2.cell (b := ⟨g2, #[.int .u64 s.f0, .int .u32 s.f1, .int .u32 s.f2, .int .i64 s.f3, .bool s.f4], 56⟩) (by simp) (j := 3) (v := .int .i64 s.f3) rfl) | (go_at_call 31; (with_reducible refine (overlap a2 a3 s.f1 s.f3 _).mono ?_); rintro e_ w3 ⟨rfl, hB_⟩; have S3 := S2.call hB_; clear hB_))
        go_ret
        exact ⟨by simp, S3.below⟩
      · have e2 := decide_eq_false d2
        simp only [e1, e2, Bool.true_and, Bool.false_and]
        clear d1 d2
        go_enter Try.func34, Try.ntmps34
        go_wp2_with (first | ((with_reducible refine gate_dst (N := 2) rfl ?_); refine box_event ?hg (N := 2) ?hd (cs := #[.int .u64 a0, .int .u32 a1, .int .u32 a2, .int .i64 a3, .bool true, .bool a5, .int .u64 a6, .bool a7]) (t := 79) ?hr ?_; (case hd => rfl); (case hg => rfl); (case hr => first | (go_simp; done) | (go_simp; rfl)); intro g1 hg w1 hbox hb; have S1 := S0.box hg hbox hb; clear hg hbox hb; clear S0) | ((with_reducible refine gate_dst (N := 3) rfl ?_); refine box_event ?hg (N := 3) ?hd (cs := #[.int .u64 s.f0, .int .u32 s.f1, .int .u32 s.f2, .int .i64 s.f3, .bool s.f4]) (t := 56) ?hr ?_; (case hd => rfl); (case hg => rfl); (case hr => first | (go_simp; done) | (go_simp; rfl)); intro g2 hg w2 hbox hb; have S2 := S1.box hg hbox hb; clear hg hbox hb; clear S1; have c0_ := S2.cell (b := ⟨g1, #[.int .u64 a0, .int .u32 a1, .int .u32 a2, .int .i64 a3, .bool true, .bool a5, .int .u64 a6, .bool a7], 79⟩) (by simp) (j := 0) (v := .int .u64 a0) rfl; have c2_ := S2.cell (b := ⟨g1, #[.int .u64 a0, .int .u32 a1, .int .u32 a2, .int .i64 a3, .bool true, .bool a5, .int .u64 a6, .bool a7], 79⟩) (by simp) (j := 2) (v := .int .u32 a2) rfl; have c3_ := S2.cell (b := ⟨g1, #[.int .u64 a0, .int .u32 a1, .int .u32 a2, .int .i64 a3, .bool true, .bool a5, .int .u64 a6, .bool a7], 79⟩) (by simp) (j := 3) (v := .int .i64 a3) rfl; have c4_ := S2.cell (b := ⟨g1, #[.int .u64 a0, .int .u32 a1, .int .u32 a2, .int .i64 a3, .bool true, .bool a5, .int .u64 a6, .bool a7], 79⟩) (by simp) (j := 4) (v := .bool true) rfl; have c6_ := S2.cell (b := ⟨g1, #[.int .u64 a0, .int .u32 a1, .int .u32 a2, .int .i64 a3, .bool true, .bool a5, .int .u64 a6, .bool a7], 79⟩) (by simp) (j := 6) (v := .int .u64 a6) rfl; have d0_ := S2.cell (b := ⟨g2, #[.int .u64 s.f0, .int .u32 s.f1, .int .u32 s.f2, .int .i64 s.f3, .bool s.f4], 56⟩) (by simp) (j := 0) (v := .int .u64 s.f0) rfl; have d1_ := S2.cell (b := ⟨g2, #[.int .u64 s.f0, .int .u32 s.f1, .int .u32 s.f2, .int .i64 s.f3, .bool s.f4], 56⟩) (by simp) (j := 1) (v := .int .u32 s.f1) rfl; have d3_ := S2.cell (b := ⟨g2, #[.int .u64 s.f0, .int .u32 s.f1, .int .u32 s.f2, .int .i64 s.f3, .bool s.f4], 56⟩) (by simp) (j := 3) (v := .int .i64 s.f3) rfl) | (go_at_call 31; (with_reducible refine (overlap a2 a3 s.f1 s.f3 _).mono ?_); rintro e_ w3 ⟨rfl, hB_⟩; have S3 := S2.call hB_; clear hB_))
        go_ret
        exact ⟨by simp, S2.below⟩
    · have e1 := decide_eq_false d1
      simp only [e1, Bool.true_and, Bool.false_and]
      clear d1
      go_enter Try.func34, Try.ntmps34
      go_wp2_with (first | ((with_reducible refine gate_dst (N := 2) rfl ?_); refine box_event ?hg (N := 2) ?hd (cs := #[.int .u64 a0, .int .u32 a1, .int .u32 a2, .int .i64 a3, .bool true, .bool a5, .int .u64 a6, .bool a7]) (t := 79) ?hr ?_; (case hd => rfl); (case hg => rfl); (case hr => first | (go_simp; done) | (go_simp; rfl)); intro g1 hg w1 hbox hb; have S1 := S0.box hg hbox hb; clear hg hbox hb; clear S0) | ((with_reducible refine gate_dst (N := 3) rfl ?_); refine box_event ?hg (N := 3) ?hd (cs := #[.int .u64 s.f0, .int .u32 s.f1, .int .u32 s.f2, .int .i64 s.f3, .bool s.f4]) (t := 56) ?hr ?_; (case hd => rfl); (case hg => rfl); (case hr => first | (go_simp; done) | (go_simp; rfl)); intro g2 hg w2 hbox hb; have S2 := S1.box hg hbox hb; clear hg hbox hb; clear S1; have c0_ := S2.cell (b := ⟨g1, #[.int .u64 a0, .int .u32 a1, .int .u32 a2, .int .i64 a3, .bool true, .bool a5, .int .u64 a6, .bool a7], 79⟩) (by simp) (j := 0) (v := .int .u64 a0) rfl; have c2_ := S2.cell (b := ⟨g1, #[.int .u64 a0, .int .u32 a1, .int .u32 a2, .int .i64 a3, .bool true, .bool a5, .int .u64 a6, .bool a7], 79⟩) (by simp) (j := 2) (v := .int .u32 a2) rfl; have c3_ := S2.cell (b := ⟨g1, #[.int .u64 a0, .int .u32 a1, .int .u32 a2, .int .i64 a3, .bool true, .bool a5, .int .u64 a6, .bool a7], 79⟩) (by simp) (j := 3) (v := .int .i64 a3) rfl; have c4_ := S2.cell (b := ⟨g1, #[.int .u64 a0, .int .u32 a1, .int .u32 a2, .int .i64 a3, .bool true, .bool a5, .int .u64 a6, .bool a7], 79⟩) (by simp) (j := 4) (v := .bool true) rfl; have c6_ := S2.cell (b := ⟨g1, #[.int .u64 a0, .int .u32 a1, .int .u32 a2, .int .i64 a3, .bool true, .bool a5, .int .u64 a6, .bool a7], 79⟩) (by simp) (j := 6) (v := .int .u64 a6) rfl; have d0_ := S2.cell (b := ⟨g2, #[.int .u64 s.f0, .int .u32 s.f1, .int .u32 s.f2, .int .i64 s.f3, .bool s.f4], 56⟩) (by simp) (j := 0) (v := .int .u64 s.f0) rfl; have d1_ := S2.cell (b := ⟨g2, #[.int .u64 s.f0, .int .u32 s.f1, .int .u32 s.f2, .int .i64 s.f3, .bool s.f4], 56⟩) (by simp) (j := 1) (v := .int .u32 s.f1) rfl; have d3_ := S2.cell (b := ⟨g2, #[.int .u64 s.f0, .int .u32 s.f1, .int .u32 s.f2, .int .i64 s.f3, .bool s.f4], 56⟩) (by simp) (j := 3) (v := .int .i64 s.f3) rfl) | (go_at_call 31; (with_reducible refine (overlap a2 a3 s.f1 s.f3 _).mono ?_); rintro e_ w3 ⟨rfl, hB_⟩; have S3 := S2.call hB_; clear hB_))
      go_ret
      exact ⟨by simp, S2.below⟩

/-- The least one too early. -/
def earlyF (s : S37) : List S79 → Int → Bool → Int
  | [], least, _ => least
  | e :: r, least, sm => if (earlyB e s && (!sm || decide (e.f0 < least))) = true then earlyF s r e.f0 true else earlyF s r least sm
def earlyX (l : List S79) (s : S37) : Int := earlyF s l 0 false
theorem St.tail {w W : World} {b : Bx} {L : List Bx} (h : St w W (b :: L)) : St w W L := ⟨h.below, fun c hc => h.ge c (by simp [hc]), fun c hc => h.heap c (by simp [hc]), (List.pairwise_cons.1 h.dist).2⟩
set_option maxHeartbeats 8000000 in
set_option maxRecDepth 100000 in
theorem lqEarly (A0 : Option Addr) (c0 : Nat) (l : List S79) (s : S37) (w : World) (hr0 : Kd.C k79 w A0 l.length l) (hl : l.length ≤ 200) :
    Calls Try.prog 21 #[.slice A0 l.length c0, .agg #[.int .u64 s.f0, .int .u32 s.f1, .int .u32 s.f2, .int .i64 s.f3, .bool s.f4]] w fun e_ w' => e_ = .returned (.int .u64 (earlyX l s)) ∧ Below w.heap.size w w' := by
  have HR0 := Aside0.mk hr0
  have HL := Aside0.mk hl
  have S0 := St.start w
  obtain ⟨r, hr⟩ : ∃ r_, earlyX l s = r_ := ⟨_, rfl⟩
  rw [hr]
  have HRR := Aside0.mk hr
  clear hr0 hl hr
  go_enter Try.func21, Try.ntmps21
  go_wp2_with (first | ((with_reducible refine gate_dst (N := 3) rfl ?_); refine box_event ?hg (N := 3) ?hd (cs := #[.int .u64 s.f0, .int .u32 s.f1, .int .u32 s.f2, .int .i64 s.f3, .bool s.f4]) (t := 56) ?hr ?_; (case hd => rfl); (case hg => rfl); (case hr => first | (go_simp; done) | (go_simp; rfl)); intro g3 hg w1 hbox hb; have S1 := S0.box hg hbox hb; clear hg hbox hb; clear S0))
  go_loopg [5, 6, 11] l.length (fun kq v5 v6 v11 w' => ∃ (x ls : Int) (sm : Bool), v5 = .int .u64 ls ∧ v6 = .bool sm ∧ v11 = .int .i64 x ∧ Aside0 (0 ≤ x ∧ x + kq = (l.length : Int)) ∧ Aside0 (earlyF s (l.drop x.toNat) ls sm = r) ∧ Aside0 (St w w' [⟨g3, #[.int .u64 s.f0, .int .u32 s.f1, .int .u32 s.f2, .int .i64 s.f3, .bool s.f4], 56⟩]))
  case atStart => exact ⟨0, 0, false, (by first | rfl | (simp; done)), (by first | rfl | (simp; done)), (by first | rfl | (simp; done)), ⟨by simp⟩, ⟨by rw [← HRR.out]; rfl⟩, ⟨S1⟩⟩
  case round =>
    clear S1
    obtain ⟨x, ls, sm, rfl, rfl, rfl, HX, HI, HS⟩ := hrel
    by_cases c : x < (l.length : Int)
    · have cb : decide (x < (l.length : Int)) = true := decide_eq_true c
      have CC := Aside0.mk c
      have p1 : 0 ≤ x := HX.out.1
      obtain ⟨ad, e1, h0, h1, h2, h3, h4, h5, h6, h7⟩ := at_T79 HR0.out x p1 c
      cases e1
      have HB := Aside0.mk HS.out.below
      replace h0 := (HB.out.cell (World.block_lt_of_cell? w _ h0)).trans h0
      replace h1 := (HB.out.cell (World.block_lt_of_cell? w _ h1)).trans h1
      replace h2 := (HB.out.cell (World.block_lt_of_cell? w _ h2)).trans h2
      replace h3 := (HB.out.cell (World.block_lt_of_cell? w _ h3)).trans h3
      replace h4 := (HB.out.cell (World.block_lt_of_cell? w _ h4)).trans h4
      replace h5 := (HB.out.cell (World.block_lt_of_cell? w _ h5)).trans h5
      replace h6 := (HB.out.cell (World.block_lt_of_cell? w _ h6)).trans h6
      replace h7 := (HB.out.cell (World.block_lt_of_cell? w _ h7)).trans h7
      have HD := Aside0.mk (drop79 l p1 c)
      obtain ⟨y, hy⟩ : ∃ y_, rd_T79 l x = y_ := ⟨_, rfl⟩
      rw [hy] at HD h0 h1 h2 h3 h4 h5 h6 h7
      have HN := Aside0.mk (wrap_i (x := x + 1) (by omega) (by have := HL.out; omega))
      have p1' := decide_eq_true p1
      clear hy
      replace p1 := eq_true p1
      replace c := eq_true c
      have S0 := HS.out
      have LS := Aside0.mk (fun w_ => earlyOne y s w_)
      cases d : earlyB y s with
      | true =>
        rw [d] at LS
        have DD := Aside0.mk d
        clear d
        cases sm with
        | false =>
          go_wp2_with (first | ((with_reducible refine gate_dst (N := 8) rfl ?_); refine box_event ?hg (N := 8) ?hd (cs := #[(.int .u64 0), (.int .u32 0), (.int .u32 0), (.int .i64 0), (.bool false), (.bool false), (.int .u64 0), (.bool false)]) (t := 79) ?hr ?_; (case hd => rfl); (case hg => rfl); (case hr => first | (go_simp; done) | (go_simp; rfl)); intro gb hg w1 hbox hb; have S1 := S0.box hg hbox hb; clear hg hbox hb; clear S0) | ((with_reducible refine gate_store (t := 79) (p := 8) rfl ?_); refine wpList_store_row rfl 79 _ _ rfl gb _ rfl rfl 79 _ (S1.heap ⟨gb, #[(.int .u64 0), (.int .u32 0), (.int .u32 0), (.int .i64 0), (.bool false), (.bool false), (.int .u64 0), (.bool false)], 79⟩ (by simp)) (by kernel_rfl) (rfl) (by simp [Value.oneCell']) ?_; have n_ : St w _ [⟨gb, #[.int .u64 y.f0, .int .u32 y.f1, .int .u32 y.f2, .int .i64 y.f3, .bool y.f4, .bool y.f5, .int .u64 y.f6, .bool y.f7], 79⟩, ⟨g3, #[.int .u64 s.f0, .int .u32 s.f1, .int .u32 s.f2, .int .i64 s.f3, .bool s.f4], 56⟩] := St.row (L1 := []) (b := ⟨gb, #[(.int .u64 0), (.int .u32 0), (.int .u32 0), (.int .i64 0), (.bool false), (.bool false), (.int .u64 0), (.bool false)], 79⟩) S1 #[.int .u64 y.f0, .int .u32 y.f1, .int .u32 y.f2, .int .i64 y.f3, .bool y.f4, .bool y.f5, .int .u64 y.f6, .bool y.f7]; clear S1; have S2 := n_; clear n_; generalize World.setRow _ _ _ = w2 at S2 ⊢; have c0_ := S2.cell (b := ⟨gb, #[.int .u64 y.f0, .int .u32 y.f1, .int .u32 y.f2, .int .i64 y.f3, .bool y.f4, .bool y.f5, .int .u64 y.f6, .bool y.f7], 79⟩) (by simp) (j := 0) (v := .int .u64 y.f0) rfl) | ((with_reducible refine gate_dst (N := 15) rfl ?_); refine wpList_load_row rfl 79 _ rfl gb rfl 79 #[.int .u64 y.f0, .int .u32 y.f1, .int .u32 y.f2, .int .i64 y.f3, .bool y.f4, .bool y.f5, .int .u64 y.f6, .bool y.f7] (0, 0) _ (S2.heap ⟨gb, #[.int .u64 y.f0, .int .u32 y.f1, .int .u32 y.f2, .int .i64 y.f3, .bool y.f4, .bool y.f5, .int .u64 y.f6, .bool y.f7], 79⟩ (by simp)) Try.underlying79 rfl (by kernel_rfl) ?_) | ((with_reducible refine gate_dst (N := 16) rfl ?_); refine wpList_load_row rfl 56 _ rfl g3 rfl 56 #[.int .u64 s.f0, .int .u32 s.f1, .int .u32 s.f2, .int .i64 s.f3, .bool s.f4] (0, 0) _ (S2.heap ⟨g3, #[.int .u64 s.f0, .int .u32 s.f1, .int .u32 s.f2, .int .i64 s.f3, .bool s.f4], 56⟩ (by simp)) Try.underlying56 rfl (by kernel_rfl) ?_) | (go_at_call 34; (with_reducible refine (LS.out _).mono ?_); rintro e_ w3 ⟨rfl, hB_⟩; have S3 := S2.call hB_; clear hB_; clear S2; have k0_ := S3.cell (b := ⟨gb, #[.int .u64 y.f0, .int .u32 y.f1, .int .u32 y.f2, .int .i64 y.f3, .bool y.f4, .bool y.f5, .int .u64 y.f6, .bool y.f7], 79⟩) (by simp) (j := 0) (v := .int .u64 y.f0) rfl))
          go_roundg (gk - 1)
          case measure => have := HX.out; have := CC.out; omega
          case rel => exact ⟨x + 1, y.f0, true, (by first | rfl | (simp; done)), (by first | rfl | (simp; done)), (by first | rfl | (simp; done) | (simp [HN.out]; done)), ⟨by have := HX.out; have := CC.out; omega⟩, ⟨by rw [← HI.out, HD.out]; conv => rhs; unfold earlyF; rw [if_pos (by simp [DD.out])]⟩, ⟨S3.tail⟩⟩
        | true =>
          by_cases d2 : y.f0 < ls
          · have D2 := Aside0.mk d2
            have d2' := decide_eq_true d2
            clear d2
            go_wp2_with (first | ((with_reducible refine gate_dst (N := 8) rfl ?_); refine box_event ?hg (N := 8) ?hd (cs := #[(.int .u64 0), (.int .u32 0), (.int .u32 0), (.int .i64 0), (.bool false), (.bool false), (.int .u64 0), (.bool false)]) (t := 79) ?hr ?_; (case hd => rfl); (case hg => rfl); (case hr => first | (go_simp; done) | (go_simp; rfl)); intro gb hg w1 hbox hb; have S1 := S0.box hg hbox hb; clear hg hbox hb; clear S0) | ((with_reducible refine gate_store (t := 79) (p := 8) rfl ?_); refine wpList_store_row rfl 79 _ _ rfl gb _ rfl rfl 79 _ (S1.heap ⟨gb, #[(.int .u64 0), (.int .u32 0), (.int .u32 0), (.int .i64 0), (.bool false), (.bool false), (.int .u64 0), (.bool false)], 79⟩ (by simp)) (by kernel_rfl) (rfl) (by simp [Value.oneCell']) ?_; have n_ : St w _ [⟨gb, #[.int .u64 y.f0, .int .u32 y.f1, .int .u32 y.f2, .int .i64 y.f3, .bool y.f4, .bool y.f5, .int .u64 y.f6, .bool y.f7], 79⟩, ⟨g3, #[.int .u64 s.f0, .int .u32 s.f1, .int .u32 s.f2, .int .i64 s.f3, .bool s.f4], 56⟩] := St.row (L1 := []) (b := ⟨gb, #[(.int .u64 0), (.int .u32 0), (.int .u32 0), (.int .i64 0), (.bool false), (.bool false), (.int .u64 0), (.bool false)], 79⟩) S1 #[.int .u64 y.f0, .int .u32 y.f1, .int .u32 y.f2, .int .i64 y.f3, .bool y.f4, .bool y.f5, .int .u64 y.f6, .bool y.f7]; clear S1; have S2 := n_; clear n_; generalize World.setRow _ _ _ = w2 at S2 ⊢; have c0_ := S2.cell (b := ⟨gb, #[.int .u64 y.f0, .int .u32 y.f1, .int .u32 y.f2, .int .i64 y.f3, .bool y.f4, .bool y.f5, .int .u64 y.f6, .bool y.f7], 79⟩) (by simp) (j := 0) (v := .int .u64 y.f0) rfl) | ((with_reducible refine gate_dst (N := 15) rfl ?_); refine wpList_load_row rfl 79 _ rfl gb rfl 79 #[.int .u64 y.f0, .int .u32 y.f1, .int .u32 y.f2, .int .i64 y.f3, .bool y.f4, .bool y.f5, .int .u64 y.f6, .bool y.f7] (0, 0) _ (S2.heap ⟨gb, #[.int .u64 y.f0, .int .u32 y.f1, .int .u32 y.f2, .int .i64 y.f3, .bool y.f4, .bool y.f5, .int .u64 y.f6, .bool y.f7], 79⟩ (by simp)) Try.underlying79 rfl (by kernel_rfl) ?_) | ((with_reducible refine gate_dst (N := 16) rfl ?_); refine wpList_load_row rfl 56 _ rfl g3 rfl 56 #[.int .u64 s.f0, .int .u32 s.f1, .int .u32 s.f2, .int .i64 s.f3, .bool s.f4] (0, 0) _ (S2.heap ⟨g3, #[.int .u64 s.f0, .int .u32 s.f1, .int .u32 s.f2, .int .i64 s.f3, .bool s.f4], 56⟩ (by simp)) Try.underlying56 rfl (by kernel_rfl) ?_) | (go_at_call 34; (with_reducible refine (LS.out _).mono ?_); rintro e_ w3 ⟨rfl, hB_⟩; have S3 := S2.call hB_; clear hB_; clear S2; have k0_ := S3.cell (b := ⟨gb, #[.int .u64 y.f0, .int .u32 y.f1, .int .u32 y.f2, .int .i64 y.f3, .bool y.f4, .bool y.f5, .int .u64 y.f6, .bool y.f7], 79⟩) (by simp) (j := 0) (v := .int .u64 y.f0) rfl))
            go_roundg (gk - 1)
            case measure => have := HX.out; have := CC.out; omega
            case rel => exact ⟨x + 1, y.f0, true, (by first | rfl | (simp; done)), (by first | rfl | (simp; done)), (by first | rfl | (simp; done) | (simp [HN.out]; done)), ⟨by have := HX.out; have := CC.out; omega⟩, ⟨by rw [← HI.out, HD.out]; conv => rhs; unfold earlyF; rw [if_pos (by simp [DD.out, D2.out])]⟩, ⟨S3.tail⟩⟩
          · have D2 := Aside0.mk d2
            have d2' := decide_eq_false d2
            clear d2
            go_wp2_with (first | ((with_reducible refine gate_dst (N := 8) rfl ?_); refine box_event ?hg (N := 8) ?hd (cs := #[(.int .u64 0), (.int .u32 0), (.int .u32 0), (.int .i64 0), (.bool false), (.bool false), (.int .u64 0), (.bool false)]) (t := 79) ?hr ?_; (case hd => rfl); (case hg => rfl); (case hr => first | (go_simp; done) | (go_simp; rfl)); intro gb hg w1 hbox hb; have S1 := S0.box hg hbox hb; clear hg hbox hb; clear S0) | ((with_reducible refine gate_store (t := 79) (p := 8) rfl ?_); refine wpList_store_row rfl 79 _ _ rfl gb _ rfl rfl 79 _ (S1.heap ⟨gb, #[(.int .u64 0), (.int .u32 0), (.int .u32 0), (.int .i64 0), (.bool false), (.bool false), (.int .u64 0), (.bool false)], 79⟩ (by simp)) (by kernel_rfl) (rfl) (by simp [Value.oneCell']) ?_; have n_ : St w _ [⟨gb, #[.int .u64 y.f0, .int .u32 y.f1, .int .u32 y.f2, .int .i64 y.f3, .bool y.f4, .bool y.f5, .int .u64 y.f6, .bool y.f7], 79⟩, ⟨g3, #[.int .u64 s.f0, .int .u32 s.f1, .int .u32 s.f2, .int .i64 s.f3, .bool s.f4], 56⟩] := St.row (L1 := []) (b := ⟨gb, #[(.int .u64 0), (.int .u32 0), (.int .u32 0), (.int .i64 0), (.bool false), (.bool false), (.int .u64 0), (.bool false)], 79⟩) S1 #[.int .u64 y.f0, .int .u32 y.f1, .int .u32 y.f2, .int .i64 y.f3, .bool y.f4, .bool y.f5, .int .u64 y.f6, .bool y.f7]; clear S1; have S2 := n_; clear n_; generalize World.setRow _ _ _ = w2 at S2 ⊢; have c0_ := S2.cell (b := ⟨gb, #[.int .u64 y.f0, .int .u32 y.f1, .int .u32 y.f2, .int .i64 y.f3, .bool y.f4, .bool y.f5, .int .u64 y.f6, .bool y.f7], 79⟩) (by simp) (j := 0) (v := .int .u64 y.f0) rfl) | ((with_reducible refine gate_dst (N := 15) rfl ?_); refine wpList_load_row rfl 79 _ rfl gb rfl 79 #[.int .u64 y.f0, .int .u32 y.f1, .int .u32 y.f2, .int .i64 y.f3, .bool y.f4, .bool y.f5, .int .u64 y.f6, .bool y.f7] (0, 0) _ (S2.heap ⟨gb, #[.int .u64 y.f0, .int .u32 y.f1, .int .u32 y.f2, .int .i64 y.f3, .bool y.f4, .bool y.f5, .int .u64 y.f6, .bool y.f7], 79⟩ (by simp)) Try.underlying79 rfl (by kernel_rfl) ?_) | ((with_reducible refine gate_dst (N := 16) rfl ?_); refine wpList_load_row rfl 56 _ rfl g3 rfl 56 #[.int .u64 s.f0, .int .u32 s.f1, .int .u32 s.f2, .int .i64 s.f3, .bool s.f4] (0, 0) _ (S2.heap ⟨g3, #[.int .u64 s.f0, .int .u32 s.f1, .int .u32 s.f2, .int .i64 s.f3, .bool s.f4], 56⟩ (by simp)) Try.underlying56 rfl (by kernel_rfl) ?_) | (go_at_call 34; (with_reducible refine (LS.out _).mono ?_); rintro e_ w3 ⟨rfl, hB_⟩; have S3 := S2.call hB_; clear hB_; clear S2; have k0_ := S3.cell (b := ⟨gb, #[.int .u64 y.f0, .int .u32 y.f1, .int .u32 y.f2, .int .i64 y.f3, .bool y.f4, .bool y.f5, .int .u64 y.f6, .bool y.f7], 79⟩) (by simp) (j := 0) (v := .int .u64 y.f0) rfl))
            go_roundg (gk - 1)
            case measure => have := HX.out; have := CC.out; omega
            case rel => exact ⟨x + 1, ls, true, (by first | rfl | (simp; done)), (by first | rfl | (simp; done)), (by first | rfl | (simp; done) | (simp [HN.out]; done)), ⟨by have := HX.out; have := CC.out; omega⟩, ⟨by rw [← HI.out, HD.out]; conv => rhs; unfold earlyF; rw [if_neg (by simp [DD.out]; exact D2.out)]⟩, ⟨S3.tail⟩⟩
      | false =>
        rw [d] at LS
        have DD := Aside0.mk d
        clear d
        go_wp2_with (first | ((with_reducible refine gate_dst (N := 8) rfl ?_); refine box_event ?hg (N := 8) ?hd (cs := #[(.int .u64 0), (.int .u32 0), (.int .u32 0), (.int .i64 0), (.bool false), (.bool false), (.int .u64 0), (.bool false)]) (t := 79) ?hr ?_; (case hd => rfl); (case hg => rfl); (case hr => first | (go_simp; done) | (go_simp; rfl)); intro gb hg w1 hbox hb; have S1 := S0.box hg hbox hb; clear hg hbox hb; clear S0) | ((with_reducible refine gate_store (t := 79) (p := 8) rfl ?_); refine wpList_store_row rfl 79 _ _ rfl gb _ rfl rfl 79 _ (S1.heap ⟨gb, #[(.int .u64 0), (.int .u32 0), (.int .u32 0), (.int .i64 0), (.bool false), (.bool false), (.int .u64 0), (.bool false)], 79⟩ (by simp)) (by kernel_rfl) (rfl) (by simp [Value.oneCell']) ?_; have n_ : St w _ [⟨gb, #[.int .u64 y.f0, .int .u32 y.f1, .int .u32 y.f2, .int .i64 y.f3, .bool y.f4, .bool y.f5, .int .u64 y.f6, .bool y.f7], 79⟩, ⟨g3, #[.int .u64 s.f0, .int .u32 s.f1, .int .u32 s.f2, .int .i64 s.f3, .bool s.f4], 56⟩] := St.row (L1 := []) (b := ⟨gb, #[(.int .u64 0), (.int .u32 0), (.int .u32 0), (.int .i64 0), (.bool false), (.bool false), (.int .u64 0), (.bool false)], 79⟩) S1 #[.int .u64 y.f0, .int .u32 y.f1, .int .u32 y.f2, .int .i64 y.f3, .bool y.f4, .bool y.f5, .int .u64 y.f6, .bool y.f7]; clear S1; have S2 := n_; clear n_; generalize World.setRow _ _ _ = w2 at S2 ⊢; have c0_ := S2.cell (b := ⟨gb, #[.int .u64 y.f0, .int .u32 y.f1, .int .u32 y.f2, .int .i64 y.f3, .bool y.f4, .bool y.f5, .int .u64 y.f6, .bool y.f7], 79⟩) (by simp) (j := 0) (v := .int .u64 y.f0) rfl) | ((with_reducible refine gate_dst (N := 15) rfl ?_); refine wpList_load_row rfl 79 _ rfl gb rfl 79 #[.int .u64 y.f0, .int .u32 y.f1, .int .u32 y.f2, .int .i64 y.f3, .bool y.f4, .bool y.f5, .int .u64 y.f6, .bool y.f7] (0, 0) _ (S2.heap ⟨gb, #[.int .u64 y.f0, .int .u32 y.f1, .int .u32 y.f2, .int .i64 y.f3, .bool y.f4, .bool y.f5, .int .u64 y.f6, .bool y.f7], 79⟩ (by simp)) Try.underlying79 rfl (by kernel_rfl) ?_) | ((with_reducible refine gate_dst (N := 16) rfl ?_); refine wpList_load_row rfl 56 _ rfl g3 rfl 56 #[.int .u64 s.f0, .int .u32 s.f1, .int .u32 s.f2, .int .i64 s.f3, .bool s.f4] (0, 0) _ (S2.heap ⟨g3, #[.int .u64 s.f0, .int .u32 s.f1, .int .u32 s.f2, .int .i64 s.f3, .bool s.f4], 56⟩ (by simp)) Try.underlying56 rfl (by kernel_rfl) ?_) | (go_at_call 34; (with_reducible refine (LS.out _).mono ?_); rintro e_ w3 ⟨rfl, hB_⟩; have S3 := S2.call hB_; clear hB_; clear S2; have k0_ := S3.cell (b := ⟨gb, #[.int .u64 y.f0, .int .u32 y.f1, .int .u32 y.f2, .int .i64 y.f3, .bool y.f4, .bool y.f5, .int .u64 y.f6, .bool y.f7], 79⟩) (by simp) (j := 0) (v := .int .u64 y.f0) rfl))
        go_roundg (gk - 1)
        case measure => have := HX.out; have := CC.out; omega
        case rel => exact ⟨x + 1, ls, sm, (by first | rfl | (simp; done)), (by first | rfl | (simp; done)), (by first | rfl | (simp; done) | (simp [HN.out]; done)), ⟨by have := HX.out; have := CC.out; omega⟩, ⟨by rw [← HI.out, HD.out]; conv => rhs; unfold earlyF; rw [if_neg (by simp [DD.out])]⟩, ⟨S3.tail⟩⟩
    · have cb : decide (x < (l.length : Int)) = false := decide_eq_false c
      have e : l.drop x.toNat = [] := List.drop_eq_nil_of_le (by have := HX.out; omega)
      have hi := HI.out
      rw [e] at hi
      have HI1 := Aside0.mk (show ls = r from hi)
      clear c e hi
      go_wp2
      go_ret
      exact ⟨by rw [HI1.out]; rfl, HS.out.below⟩

end Go.Proofs.Ytmpnnppgppoliaa.Ea

namespace Go.Proofs.Ytmpnnppgppoliaa.Ea
open Go.Proofs.Ytmpnnppgppoliaa.Ld Go Go.Proofs Go.RowKit Go.Proofs.YtmpnnppgppoliaaW.PrintWords Go.Proofs.YtmpnnppgppoliaaW.PrintLast Go.Proofs.YtmpnnppgppoliaaW.PrintMore Go.Proofs.Ytmpnnppgppoliaa.Boxes Go.Proofs.Ytmpnnppgppoliaa.PFwd
attribute [local go_sem] max2_int min2_int max_two min_two max_three min_three max_four min_four   -- for this text's walks alone
set_option linter.unusedVariables false
set_option linter.unusedSimpArgs false

structure Ac where
  f0 : Bool
  f1 : Int
  f2 : Int
def zA : Ac := ⟨false, 0, 0⟩
def kA : Kd Ac := Kd.iso (Kd.pair (Kd.bool) (Kd.pair (Kd.int .u8) (Kd.int .u32))) (fun x : Ac => (x.f0, x.f1, x.f2))
theorem kA_open {w : World} {x : Ac} {cs : List Value} (h : kA.K w x cs) : cs = [.bool x.f0, .int .u8 x.f1, .int .u32 x.f2] := by
  obtain ⟨_, _, rfl, rfl, ⟨_, _, rfl, rfl, rfl⟩⟩ := h
  exact rfl
theorem kA_mk (w : World) (x : Ac) : kA.K w x [.bool x.f0, .int .u8 x.f1, .int .u32 x.f2] := ⟨[.bool x.f0], [.int .u8 x.f1, .int .u32 x.f2], rfl, rfl, ⟨[.int .u8 x.f1], [.int .u32 x.f2], rfl, rfl, rfl⟩⟩
theorem kA_mkM (w : World) (base : Nat) (ok : Nat → Prop) (x : Ac) : kA.M w base ok x [.bool x.f0, .int .u8 x.f1, .int .u32 x.f2] := ⟨[.bool x.f0], [.int .u8 x.f1, .int .u32 x.f2], rfl, rfl, ⟨[.int .u8 x.f1], [.int .u32 x.f2], rfl, rfl, rfl⟩⟩
def rdA (xs : List Ac) (i : Int) : Ac := xs.getD i.toNat zA
theorem atA {w : World} {A : Option Addr} {n : Nat} {xs : List Ac} (h : Kd.C kA w A n xs) (i : Int) (h0 : 0 ≤ i) (h1 : i < n) : ∃ ad, A = some ad ∧ w.cell? (ad.add (i.toNat * 3)) = some (.bool (rdA xs i).f0) ∧ w.cell? ⟨(ad.add (i.toNat * 3)).block, (ad.add (i.toNat * 3)).off + 1, none⟩ = some (.int .u8 (rdA xs i).f1) ∧ w.cell? ⟨(ad.add (i.toNat * 3)).block, (ad.add (i.toNat * 3)).off + 2, none⟩ = some (.int .u32 (rdA xs i).f2) := by
  obtain ⟨ad, c, e, _, hK, hc0⟩ := Kd.C_get h zA i h0 h1
  have hc : ∀ j u, c[j]? = some u → w.cell? (ad.add (i.toNat * 3 + j)) = some u := hc0
  obtain rfl := kA_open hK
  exact ⟨ad, e, hc 0 _ rfl, by rw [← add_field _ _ 1 (by omega)]; exact hc 1 _ rfl, by rw [← add_field _ _ 2 (by omega)]; exact hc 2 _ rfl⟩
def knownQ (s : Int) : List S37 → Bool
  | [] => true
  | y :: r => if y.f0 = s then y.f4 else knownQ s r
def knownL (s : Int) : List S79 → Bool
  | [] => true
  | y :: r => if y.f0 = s then y.f4 else knownL s r
def goneX (q : List S37) (l : List S79) (a : Ac) (k : Int) : Bool := if a.f0 = true then knownQ (k + 1) q else knownL (k + 1) l
set_option maxHeartbeats 8000000 in
set_option maxRecDepth 100000 in
theorem goneW (a : Ac) (k : Int) (hk : 0 ≤ k ∧ k ≤ 1000) (g : Nat) (q : List S37) (l : List S79) (Aq Al : Option Addr) (cq cl : Nat) (vh : Value) (w : World) (hg : w.heap[g]? = some (.cells #[.slice Aq q.length cq, .slice Al l.length cl, vh] 31 (0, 0))) (hq : Kd.C k37 w Aq q.length q) (hl : Kd.C k79 w Al l.length l) (hlq : q.length ≤ 200) (hll : l.length ≤ 200) :
    Calls Try.prog 10 #[.pointer (some ⟨g, 0, none⟩), .agg #[.bool a.f0, .int .u8 a.f1, .int .u32 a.f2], .int .i64 k] w fun e_ w' => e_ = .returned (.bool (goneX q l a k)) ∧ Below w.heap.size w w' := by
  obtain ⟨a0, a1, a2⟩ := a
  have Hq := Aside0.mk hq
  have Hl := Aside0.mk hl
  have HLq := Aside0.mk hlq
  have HLl := Aside0.mk hll
  have HG := Aside0.mk hg
  have S0 := St.start w
  have hx1 : IntKind.u64.wrap k = k := wrap_u hk.1 (by omega)
  have hx2 : IntKind.u64.wrap (k + 1) = k + 1 := wrap_u (by omega) (by omega)
  clear hq hl hlq hll hg hk
  cases a0 with
  | true =>
    obtain ⟨r, hr⟩ : ∃ r_, knownQ (k + 1) q = r_ := ⟨_, rfl⟩
    rw [show goneX q l ⟨true, a1, a2⟩ k = r from hr]
    have HRR := Aside0.mk hr
    clear hr
    go_enter Try.func10, Try.ntmps10
    go_wp2_with (first | ((with_reducible refine gate_dst (N := 4) rfl ?_); refine box_event ?hg (N := 4) ?hd (cs := #[.bool true, .int .u8 a1, .int .u32 a2]) (t := 34) ?hr ?_; (case hd => rfl); (case hg => rfl); (case hr => first | (go_simp; done) | (go_simp; rfl)); intro ga hg w1 hbox hb; have S1 := S0.box hg hbox hb; clear hg hbox hb; clear S0; have a0_ := S1.cell (b := ⟨ga, #[.bool true, .int .u8 a1, .int .u32 a2], 34⟩) (by simp) (j := 0) (v := .bool true) rfl))
    go_loopg [8] q.length (fun kq v8 w' => ∃ (x : Int), v8 = .int .i64 x ∧ Aside0 (0 ≤ x ∧ x + kq = (q.length : Int)) ∧ Aside0 (knownQ (k + 1) (q.drop x.toNat) = r) ∧ Aside0 (Below w.heap.size w w'))
    case atStart => exact ⟨0, (by first | rfl | (simp; done)), ⟨by simp⟩, ⟨by rw [← HRR.out]; rfl⟩, ⟨S1.below⟩⟩
    case round =>
      clear S1
      obtain ⟨x, rfl, HX, HI, HB⟩ := hrel
      have b0_ : wr.cell? ⟨g, 0, none⟩ = some (.slice Aq q.length cq) := (blk_cell (blk_below HG.out HB.out) 0).trans rfl
      by_cases c : x < (q.length : Int)
      · have cb : decide (x < (q.length : Int)) = true := decide_eq_true c
        have CC := Aside0.mk c
        have p1 : 0 ≤ x := HX.out.1
        obtain ⟨ad, e1, h0, h1, h2, h3, h4⟩ := at_T37 Hq.out x p1 c
        cases e1
        replace h0 := (HB.out.cell (World.block_lt_of_cell? w _ h0)).trans h0
        replace h1 := (HB.out.cell (World.block_lt_of_cell? w _ h1)).trans h1
        replace h2 := (HB.out.cell (World.block_lt_of_cell? w _ h2)).trans h2
        replace h3 := (HB.out.cell (World.block_lt_of_cell? w _ h3)).trans h3
        replace h4 := (HB.out.cell (World.block_lt_of_cell? w _ h4)).trans h4
        have HD := Aside0.mk (drop37 q p1 c)
        obtain ⟨y, hy⟩ : ∃ y_, rd_T37 q x = y_ := ⟨_, rfl⟩
        rw [hy] at HD h0 h1 h2 h3 h4
        have HN := Aside0.mk (wrap_i (x := x + 1) (by omega) (by have := HLq.out; omega))
        have p1' := decide_eq_true p1
        clear hy
        replace p1 := eq_true p1
        replace c := eq_true c
        cases d : (y.f0 == k + 1) with
        | true =>
          have DD := Aside0.mk d
          go_wp2
          go_ret
          exact ⟨by rw [← HI.out, HD.out]; unfold knownQ; rw [if_pos (by simpa using DD.out)]; rfl, HB.out⟩
        | false =>
          have DD := Aside0.mk d
          go_wp2
          go_roundg (gk - 1)
          case measure => have := HX.out; have := CC.out; omega
          case rel => exact ⟨x + 1, (by first | rfl | (simp; done) | (simp [HN.out]; done)), ⟨by have := HX.out; have := CC.out; omega⟩, ⟨by rw [← HI.out, HD.out]; conv => rhs; unfold knownQ; rw [if_neg (by simpa using DD.out)]⟩, HB⟩
      · have cb : decide (x < (q.length : Int)) = false := decide_eq_false c
        have e : q.drop x.toNat = [] := List.drop_eq_nil_of_le (by have := HX.out; omega)
        have hi := HI.out
        rw [e] at hi
        have HI1 := Aside0.mk (show true = r from hi)
        clear c e hi
        go_wp2
        go_ret
        exact ⟨by rw [← HI1.out]; rfl, HB.out⟩
  | false =>
    obtain ⟨r, hr⟩ : ∃ r_, knownL (k + 1) l = r_ := ⟨_, rfl⟩
    rw [show goneX q l ⟨false, a1, a2⟩ k = r from hr]
    have HRR := Aside0.mk hr
    clear hr
    go_enter Try.func10, Try.ntmps10
    go_wp2_with (first | ((with_reducible refine gate_dst (N := 4) rfl ?_); refine box_event ?hg (N := 4) ?hd (cs := #[.bool false, .int .u8 a1, .int .u32 a2]) (t := 34) ?hr ?_; (case hd => rfl); (case hg => rfl); (case hr => first | (go_simp; done) | (go_simp; rfl)); intro ga hg w1 hbox hb; have S1 := S0.box hg hbox hb; clear hg hbox hb; clear S0; have a0_ := S1.cell (b := ⟨ga, #[.bool false, .int .u8 a1, .int .u32 a2], 34⟩) (by simp) (j := 0) (v := .bool false) rfl))
    go_loopg [9] l.length (fun kq v8 w' => ∃ (x : Int), v8 = .int .i64 x ∧ Aside0 (0 ≤ x ∧ x + kq = (l.length : Int)) ∧ Aside0 (knownL (k + 1) (l.drop x.toNat) = r) ∧ Aside0 (Below w.heap.size w w'))
    case atStart => exact ⟨0, (by first | rfl | (simp; done)), ⟨by simp⟩, ⟨by rw [← HRR.out]; rfl⟩, ⟨S1.below⟩⟩
    case round =>
      clear S1
      obtain ⟨x, rfl, HX, HI, HB⟩ := hrel
      have b0_ : wr.cell? ⟨g, 1, none⟩ = some (.slice Al l.length cl) := (blk_cell (blk_below HG.out HB.out) 1).trans rfl
      by_cases c : x < (l.length : Int)
      · have cb : decide (x < (l.length : Int)) = true := decide_eq_true c
        have CC := Aside0.mk c
        have p1 : 0 ≤ x := HX.out.1
        obtain ⟨ad, e1, h0, h1, h2, h3, h4, h5, h6, h7⟩ := at_T79 Hl.out x p1 c
        cases e1
        replace h0 := (HB.out.cell (World.block_lt_of_cell? w _ h0)).trans h0
        replace h1 := (HB.out.cell (World.block_lt_of_cell? w _ h1)).trans h1
        replace h2 := (HB.out.cell (World.block_lt_of_cell? w _ h2)).trans h2
        replace h3 := (HB.out.cell (World.block_lt_of_cell? w _ h3)).trans h3
        replace h4 := (HB.out.cell (World.block_lt_of_cell? w _ h4)).trans h4
        replace h5 := (HB.out.cell (World.block_lt_of_cell? w _ h5)).trans h5
        replace h6 := (HB.out.cell (World.block_lt_of_cell? w _ h6)).trans h6
        replace h7 := (HB.out.cell (World.block_lt_of_cell? w _ h7)).trans h7
        have HD := Aside0.mk (drop79 l p1 c)
        obtain ⟨y, hy⟩ : ∃ y_, rd_T79 l x = y_ := ⟨_, rfl⟩
        rw [hy] at HD h0 h1 h2 h3 h4 h5 h6 h7
        have HN := Aside0.mk (wrap_i (x := x + 1) (by omega) (by have := HLl.out; omega))
        have p1' := decide_eq_true p1
        clear hy
        replace p1 := eq_true p1
        replace c := eq_true c
        cases d : (y.f0 == k + 1) with
        | true =>
          have DD := Aside0.mk d
          go_wp2
          go_ret
          exact ⟨by rw [← HI.out, HD.out]; unfold knownL; rw [if_pos (by simpa using DD.out)]; rfl, HB.out⟩
        | false =>
          have DD := Aside0.mk d
          go_wp2
          go_roundg (gk - 1)
          case measure => have := HX.out; have := CC.out; omega
          case rel => exact ⟨x + 1, (by first | rfl | (simp; done) | (simp [HN.out]; done)), ⟨by have := HX.out; have := CC.out; omega⟩, ⟨by rw [← HI.out, HD.out]; conv => rhs; unfold knownL; rw [if_neg (by simpa using DD.out)]⟩, HB⟩
      · have cb : decide (x < (l.length : Int)) = false := decide_eq_false c
        have e : l.drop x.toNat = [] := List.drop_eq_nil_of_le (by have := HX.out; omega)
        have hi := HI.out
        rw [e] at hi
        have HI1 := Aside0.mk (show true = r from hi)
        clear c e hi
        go_wp2
        go_ret
        exact ⟨by rw [← HI1.out]; rfl, HB.out⟩

end Go.Proofs.Ytmpnnppgppoliaa.Ea
