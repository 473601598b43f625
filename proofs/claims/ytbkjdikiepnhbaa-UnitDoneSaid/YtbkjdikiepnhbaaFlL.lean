/- What Take comes to: a walk of the code. The conditions are those that each theorem names. -/
import Derived.Test.YtbkjdikiepnhbaaFlK
namespace Go.Proofs.Ytbkjdikiepnhbaa.Fl
open Go Go.Proofs Go.RowKit Go.Proofs.YtbkjdikiepnhbaaW.PrintWords Go.Proofs.YtbkjdikiepnhbaaW.PrintLast Go.Proofs.YtbkjdikiepnhbaaW.PrintMore Go.Proofs.Ytbkjdikiepnhbaa.Boxes
attribute [local go_sem] max2_int min2_int max_two min_two max_three min_three max_four min_four   -- for this text's walks alone
set_option linter.unusedVariables false
set_option linter.unusedSimpArgs false

section
variable {P : Program} {ops : Array Oper} {rest : List Oper} {op o : Oper} {a : Act} {w : World} {K : Act → World → Prop} {Q : Exit → Act → World → Prop}
theorem st_box (hgd : op.guard = none) (y z : Operand) (ho : op.op = .store 44 y z) (hi : (P.info? 44).map (·.size) = some 35) {g : Nat} {old : Array Value} (hbox : w.heap[g]? = some (.cells old 44 (0, 0))) (hold : old.size = 35) (x : S44)
    (hy : a.eval y = .pointer (some ⟨g, 0, none⟩)) (hz : a.eval z = .agg (cs44 x).toArray) (h : ∀ w1, w1.heap[g]? = some (.cells (cs44 x).toArray 44 (0, 0)) → Moved w w1 g → wpList P ops Q rest (a.put op.dst undef) w1) : wpList P ops Q (op :: rest) a w := by
  refine wpList_store_row hgd 44 y z ho g (cs44 x).toArray hy hz 44 old hbox hi hold (cs_all x) (h _ ?_ ⟨rfl, rfl, rfl, by simp [World.setRow], fun k hk => heap_setRow_far w g _ k hk⟩)
  simp [World.setRow, Array.getElem?_modify, hbox]
theorem step_app_row {E : Prop} (hg : o.guard = none) (s x : Operand) (ho : o.op = .call { callee := .builtin .append, args := #[s, x], argTypes := #[24, 24] }) {N : Tmp} (hN : o.dst = some N) {w0 : World} {v : Value} {xs l : List S44} {A : Option Addr} {c : Nat}
    (hs : a.eval s = v) (hx : a.eval x = .slice A l.length c) (HR : Kd.R k44 44 w w0.heap.size (fun _ => True) v xs) (HC : Kd.C k44 w A l.length l) (HB : Below w0.heap.size w0 w) (hl : xs.length + l.length ≤ 2000)
    (h : ∀ v' w', Kd.R k44 44 w' w0.heap.size (fun _ => True) v' (xs ++ l) → Below w0.heap.size w0 w' → K (a.put (some N) v') w') : if Region.wanted o (yielded ops a.tmps) = true then Oper.wp Try.prog o a w K Q else E := by
  rw [← hN] at h
  have hw : Region.wanted o (yielded ops a.tmps) = true := by simp [Region.wanted, hg]
  rw [if_pos hw]
  obtain ⟨v', w', hrun, hR, hgr⟩ := AppKd.appended (P := Try.prog) (d := k44) (c := c) (by decide) 24 o.type 44 256 _ Try.underlying24 info44 rfl (w0 := w0) HB.size HR HC k44_KM (by simp only [maxLen]; omega) (by omega)
  unfold Oper.wp
  simp [execOp, ho, resolve, invoke, builtin, hs, hx, hrun, Result.andThen]
  refine h _ _ hR ⟨hgr.os.trans HB.os, hgr.tape.trans HB.tape, hgr.output.trans HB.output, Nat.le_trans HB.size hgr.size, fun k hk => ?_⟩
  have hks : k < w.heap.size := Nat.lt_of_lt_of_le hk HB.size
  exact (hgr.block k hks (fun e_ => by have := ((Kd.R_bound HR).1 k e_.symm).2.1; omega)).trans (HB.block k hk)
end
theorem takeX_split (s : Int) : ∀ (p : List S44) (y : S44) (r : List S44), (∀ z ∈ p, z.f0.f1 ≠ s) → y.f0.f1 = s → takeX (p ++ y :: r) s = p ++ r
  | [], y, r, _, h => by show takeX (y :: r) s = r; unfold takeX; rw [if_pos h]
  | a :: p, y, r, h1, h => by
    show takeX (a :: (p ++ y :: r)) s = _
    unfold takeX
    rw [if_neg (h1 a (by simp)), takeX_split s p y r (fun z hz => h1 z (by simp [hz])) h]
    rfl
theorem takeX_none (s : Int) : ∀ l : List S44, (∀ z ∈ l, z.f0.f1 ≠ s) → takeX l s = l
  | [], _ => rfl
  | a :: p, h => by
    unfold takeX
    rw [if_neg (h a (by simp)), takeX_none s p (fun z hz => h z (by simp [hz]))]

set_option maxHeartbeats 8000000 in
set_option maxRecDepth 100000 in
theorem take (A0 : Option Addr) (c0 : Nat) (l : List S44) (s : Int) (w : World) (hr0 : Kd.C k44 w A0 l.length l) (hc0 : l.length ≤ c0) (hl : l.length ≤ 1000) :
    Calls Try.prog 20 #[.slice A0 l.length c0, .int .u64 s] w fun e w' => (∃ A c, e = .returned (.slice A (takeX l s).length c) ∧ Kd.C k44 w' A (takeX l s).length (takeX l s)) ∧ Below w.heap.size w w' := by
  have HR0 := Aside0.mk hr0
  have HC0 := Aside0.mk hc0
  have HL := Aside0.mk hl
  clear hr0 hl
  have HB := Aside0.mk (Below.refl w.heap.size w)
  go_enter Try.func20, Try.ntmps20
  go_wp2
  go_loopg [9] l.length (fun kq v9 w' => ∃ (x : Int), v9 = .int .i64 x ∧ Aside0 (0 ≤ x ∧ x + kq = (l.length : Int)) ∧ Aside0 (∀ z ∈ l.take x.toNat, z.f0.f1 ≠ s) ∧ Aside0 (Below w.heap.size w w'))
  case atStart => exact ⟨0, (by first | rfl | (simp; done)), ⟨by simp⟩, ⟨by simp⟩, HB⟩
  case round =>
    clear HB
    obtain ⟨x, rfl, HX, HG, HB⟩ := hrel
    by_cases c : x < (l.length : Int)
    · have cb : decide (x < (l.length : Int)) = true := decide_eq_true c
      have p1 : 0 ≤ x := HX.out.1
      obtain ⟨ad, e1, hE, h23, h29, h30⟩ := row44 HR0.out x p1 c
      cases e1
      have HE := Aside0.mk (hE.below HB.out)
      obtain ⟨y, hy⟩ : ∃ y_, rd_T44 l x = y_ := ⟨_, rfl⟩
      rw [hy] at HE h23 h29 h30
      replace h23 := (HB.out.cell (World.block_lt_of_cell? w _ h23)).trans h23
      replace h29 := (HB.out.cell (World.block_lt_of_cell? w _ h29)).trans h29
      replace h30 := (HB.out.cell (World.block_lt_of_cell? w _ h30)).trans h30
      clear hE
      have HN : wrap64 (x + 1) = x + 1 := wrap_i (by omega) (by have := HL.out; omega)
      have HT := take_succ' l p1 c
      have HD := drop_at' l p1 c
      rw [hy] at HT HD
      have HY := Aside0.mk hy
      have HM := Aside0.mk (And.intro HN (And.intro HT HD))
      have p1' := decide_eq_true p1
      have CC := Aside0.mk c
      clear hy HN HT HD
      replace p1 := eq_true p1
      replace c := eq_true c
      clear h23 h29 h30
      by_cases d : y.f0.f1 = s
      · have db : (y.f0.f1 == s) = true := beq_iff_eq.mpr d
        have DD := Aside0.mk d
        clear d
        have hjw : IntKind.i64.wrap (x + 1) = x + 1 := (i64_w _).trans HM.out.1
        have HX0 := HX.out.1
        have HC10 := Aside0.mk (Kd.C_take (m := x.toNat) HR0.out (by have := CC.out; omega))
        have HC20 := Aside0.mk (show Kd.C k44 w (if c0 = (x + 1).toNat then some ad else some (ad.add ((x + 1).toNat * 35))) (l.drop (x + 1).toNat).length (l.drop (x + 1).toNat) from Kd.C_drop (m := (x + 1).toNat) (c := c0) HR0.out (by have := CC.out; omega) HC0.out)
        obtain ⟨Ab, hAb⟩ : ∃ A_ : Option Addr, (if c0 = (x + 1).toNat then some ad else some (ad.add ((x + 1).toNat * 35))) = A_ := ⟨_, rfl⟩
        rw [hAb] at HC20
        have HTL := Aside0.mk (show (l.take x.toNat).length = x.toNat by rw [List.length_take]; have := CC.out; omega)
        have b1 : (0 : Int) ≤ x := HX0
        have b2 : x ≤ (c0 : Int) := by have := CC.out; have := HC0.out; omega
        have b3 : (0 : Int) ≤ x + 1 := by omega
        have b4 : x + 1 ≤ (l.length : Int) := by have := CC.out; omega
        clear HX0
        go_wp2_with (first | ((with_reducible refine gate_dst (N := 13) rfl ?_); refine ld_elt rfl 44 _ rfl _ rfl (y) _ HE.out Try.underlying44 rfl (by kernel_rfl) ?_) | ((with_reducible refine gate_dst (N := 6) rfl ?_); refine box_event ?hg (N := 6) ?hd (cs := zs44) (t := 44) ?hr ?_; (case hd => rfl); (case hg => rfl); (case hr => first | (go_simp; done) | (go_simp; rfl)); intro gb hg w7 hbox hb; have HB1 := Aside0.mk (below_step HB.out hb); have GE := Aside0.mk ((by rw [hg]; exact below_size HB.out) : w.heap.size ≤ gb); have BK := Aside0.mk hbox; clear hb hbox hg) | ((with_reducible refine gate_store (t := 44) (p := 6) rfl ?_); refine st_box rfl _ _ rfl (by kernel_rfl) BK.out rfl y rfl rfl ?_; intro w8 hbox hm; have HB2 := Aside0.mk (hm.below HB1.out GE.out); have c23 : w8.cell? ⟨gb, 23, none⟩ = some (.int .u64 y.f0.f1) := (blk_cell hbox 23).trans rfl; clear hbox hm))
        try go_wp2
        refine start_ (n := 10) (S := fun w_ => True) (ds := [3, 8]) #[false, false, false, false, false, false, false, false, false, false] (by kernel_rfl) rfl rfl (trivial) (fun hHeld => ?_)
        have HB10 := Aside0.mk (below_step HB2.out (below_drew (Below.refl _ _)))
        generalize World.drew _ = w10 at HB10 hHeld ⊢
        have HC1 := Aside0.mk (Kd.C_below HC10.out HB10.out)
        refine pure_ (i := 0) (N := some 19) (v := ?_) (a' := ?_) #[true, false, false, false, false, false, false, false, false, false] rfl rfl (by kernel_rfl) (fun _ _ _ h => h) (Or.inl ⟨by rfl, ?_⟩) ?_ ?_
        rotate_left
        · intro w'
          go_simp
          with_reducible rfl
        rotate_left
        · simp only [Act.put, List.setIfInBounds_toArray, List.set_cons_zero, List.set_cons_succ]
          rfl
        refine pure_ (i := 1) (N := some 20) (v := ?_) (a' := ?_) #[true, true, false, false, false, false, false, false, false, false] rfl rfl (by kernel_rfl) (fun _ _ _ h => h) (Or.inl ⟨by rfl, ?_⟩) ?_ ?_
        rotate_left
        · intro w'
          go_simp
          with_reducible rfl
        rotate_left
        · simp only [Act.put, List.setIfInBounds_toArray, List.set_cons_zero, List.set_cons_succ]
          rfl
        refine pure_ (i := 2) (N := some 21) (v := ?_) (a' := ?_) #[true, true, true, false, false, false, false, false, false, false] rfl rfl (by kernel_rfl) (fun _ _ _ h => h) (Or.inl ⟨by rfl, ?_⟩) ?_ ?_
        rotate_left
        · intro w'
          go_simp
          with_reducible rfl
        rotate_left
        · simp only [Act.put, List.setIfInBounds_toArray, List.set_cons_zero, List.set_cons_succ]
          rfl
        refine pure_ (i := 4) (N := some 23) (v := ?_) (a' := ?_) #[true, true, true, false, true, false, false, false, false, false] rfl rfl (by kernel_rfl) (fun _ _ _ h => h) (Or.inl ⟨by rfl, ?_⟩) ?_ ?_
        rotate_left
        · intro w'
          go_simp
          with_reducible rfl
        rotate_left
        · simp only [Act.put, List.setIfInBounds_toArray, List.set_cons_zero, List.set_cons_succ]
          rfl
        refine pure_ (i := 5) (N := some 24) (v := ?_) (a' := ?_) #[true, true, true, false, true, true, false, false, false, false] rfl rfl (by kernel_rfl) (fun _ _ _ h => h) (Or.inl ⟨by rfl, ?_⟩) ?_ ?_
        rotate_left
        · intro w'
          go_simp
          with_reducible rfl
        rotate_left
        · simp only [Act.put, List.setIfInBounds_toArray, List.set_cons_zero, List.set_cons_succ]
          rfl
        refine pure_ (i := 6) (N := some 25) (v := ?_) (a' := ?_) #[true, true, true, false, true, true, true, false, false, false] rfl rfl (by kernel_rfl) (fun _ _ _ h => h) (Or.inl ⟨by rfl, ?_⟩) ?_ ?_
        rotate_left
        · intro w'
          go_simp
          with_reducible rfl
        rotate_left
        · simp only [Act.put, List.setIfInBounds_toArray, List.set_cons_zero, List.set_cons_succ]
          rfl
        refine pure_ (i := 7) (N := some 26) (v := ?_) (a' := ?_) #[true, true, true, false, true, true, true, true, false, false] rfl rfl (by kernel_rfl) (fun _ _ _ h => h) (Or.inl ⟨by rfl, ?_⟩) ?_ ?_
        rotate_left
        · intro w'
          go_simp
          with_reducible rfl
        rotate_left
        · simp only [Act.put, List.setIfInBounds_toArray, List.set_cons_zero, List.set_cons_succ]
          rfl
        refine last_ (i := 3) (N := some 22) #[true, true, true, true, true, true, true, true, false, false] rfl rfl (by kernel_rfl) (by decide) (fun K hK => ?_)
        refine step_app_row (w0 := w) rfl _ _ rfl rfl (xs := []) (l := l.take x.toNat) rfl (by rw [HTL.out]; rfl) (Kd.R_nil _ _ _ _ _) HC1.out HB10.out (by have := HL.out; simp; omega) ?_
        intro v11 w11 hR_ hB_
        refine hK.out _ _ ?_
        clear hK K
        have HO11 := Aside0.mk hR_
        have HB11 := Aside0.mk hB_
        clear hR_ hB_
        simp only [Act.put, List.setIfInBounds_toArray, List.set_cons_zero, List.set_cons_succ]
        refine last_ (i := 8) (N := some 27) #[true, true, true, true, true, true, true, true, true, false] rfl rfl (by kernel_rfl) (by decide) (fun K hK => ?_)
        refine step_app_row (w0 := w) rfl _ _ rfl rfl (xs := [] ++ l.take x.toNat) (l := l.drop (x + 1).toNat) rfl (by rw [List.length_drop]; rfl) HO11.out (Kd.C_below HC20.out HB11.out) HB11.out (by have := HL.out; simp; omega) ?_
        intro v12 w12 hR_ hB_
        refine hK.out _ _ ?_
        clear hK K
        have HO12 := Aside0.mk hR_
        have HB12 := Aside0.mk hB_
        clear hR_ hB_
        simp only [Act.put, List.setIfInBounds_toArray, List.set_cons_zero, List.set_cons_succ]
        refine pure_ (i := 9) (N := some 4) (v := ?_) (a' := ?_) #[true, true, true, true, true, true, true, true, true, true] rfl rfl (by kernel_rfl) (fun _ _ _ h => h) (Or.inl ⟨by rfl, ?_⟩) ?_ ?_
        rotate_left
        · intro w'
          go_simp
          with_reducible rfl
        rotate_left
        · simp only [Act.put, List.setIfInBounds_toArray, List.set_cons_zero, List.set_cons_succ]
          rfl
        refine done_ (by kernel_rfl) ?_
        go_wp2
        go_ret
        obtain ⟨Ar, cr, er⟩ := Kd.R_slice HO12.out
        subst er
        have ht : takeX l s = ([] ++ l.take x.toNat) ++ l.drop (x + 1).toNat := by
          have h_ := takeX_split s (l.take x.toNat) y (l.drop (x + 1).toNat) HG.out DD.out
          rw [← HM.out.2.2, List.take_append_drop] at h_
          simpa using h_
        rw [ht]
        have hC_ := (Kd.R_reads' HO12.out).2.2
        first | exact ⟨⟨Ar, cr, by first | rfl | (simp; done), hC_⟩, HB12.out⟩ | exact ⟨⟨Ar, ⟨cr, by first | rfl | (simp; done)⟩, hC_⟩, HB12.out⟩
      · have db : (y.f0.f1 == s) = false := beq_eq_false_iff_ne.mpr d
        have DD := Aside0.mk d
        clear d
        go_wp2_with (first | ((with_reducible refine gate_dst (N := 13) rfl ?_); refine ld_elt rfl 44 _ rfl _ rfl (y) _ HE.out Try.underlying44 rfl (by kernel_rfl) ?_) | ((with_reducible refine gate_dst (N := 6) rfl ?_); refine box_event ?hg (N := 6) ?hd (cs := zs44) (t := 44) ?hr ?_; (case hd => rfl); (case hg => rfl); (case hr => first | (go_simp; done) | (go_simp; rfl)); intro gb hg w7 hbox hb; have HB1 := Aside0.mk (below_step HB.out hb); have GE := Aside0.mk ((by rw [hg]; exact below_size HB.out) : w.heap.size ≤ gb); have BK := Aside0.mk hbox; clear hb hbox hg) | ((with_reducible refine gate_store (t := 44) (p := 6) rfl ?_); refine st_box rfl _ _ rfl (by kernel_rfl) BK.out rfl y rfl rfl ?_; intro w8 hbox hm; have HB2 := Aside0.mk (hm.below HB1.out GE.out); have c23 : w8.cell? ⟨gb, 23, none⟩ = some (.int .u64 y.f0.f1) := (blk_cell hbox 23).trans rfl; clear hbox hm))
        go_roundg (gk - 1)
        case measure => have := HX.out; have := CC.out; omega
        case rel => exact ⟨x + 1, (by first | rfl | (simp; done) | (simp [HM.out.1]; done)), ⟨by have := HX.out; have := CC.out; omega⟩, ⟨by intro z hz; rw [HM.out.2.1] at hz; rcases List.mem_append.1 hz with h_ | h_; exact HG.out z h_; rw [List.mem_singleton.1 h_]; exact DD.out⟩, HB2⟩
    · have cb : decide (x < (l.length : Int)) = false := decide_eq_false c
      have e : x.toNat = l.length := by have := HX.out; omega
      have h_ := HG.out
      rw [e, List.take_length] at h_
      have ht := takeX_none s l h_
      have HT := Aside0.mk ht
      clear c h_ e ht
      go_wp2
      go_ret
      have hC_ := Kd.C_below HR0.out HB.out
      rw [HT.out]
      first | exact ⟨⟨A0, c0, by first | rfl | (simp; done), hC_⟩, HB.out⟩ | exact ⟨⟨A0, ⟨c0, by first | rfl | (simp; done)⟩, hC_⟩, HB.out⟩

end Go.Proofs.Ytbkjdikiepnhbaa.Fl
