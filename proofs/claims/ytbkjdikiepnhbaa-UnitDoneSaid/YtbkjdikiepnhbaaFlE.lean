/- What sorted and Done come to: walks of the code. The conditions are those that each theorem names. -/
import Derived.Test.YtbkjdikiepnhbaaFlD
namespace Go.Proofs.Ytbkjdikiepnhbaa.Fl
open Go Go.Proofs Go.RowKit Go.Proofs.YtbkjdikiepnhbaaW.PrintWords Go.Proofs.YtbkjdikiepnhbaaW.PrintLast Go.Proofs.YtbkjdikiepnhbaaW.PrintMore Go.Proofs.Ytbkjdikiepnhbaa.Boxes
attribute [local go_sem] max2_int min2_int max_two min_two max_three min_three max_four min_four   -- for this text's walks alone
set_option linter.unusedVariables false
set_option linter.unusedSimpArgs false

section
variable {P : Program} {ops : Array Oper} {rest : List Oper} {op o : Oper} {a : Act} {w : World} {L : List Bx} {Q : Exit → Act → World → Prop}
theorem quiet_elt {K : Act → Prop} (ty : TypeId) (x : Operand) (ho : o.op = .load ty x) (ad : Addr) (hx : a.eval x = .pointer (some ad)) (y : S44) (d : TypeDesc) (hc : ∀ x : Cls w L, Elt x.W ad y)
    (hu : P.underlying ty = some d) (hd : d.isRow = true) (hi : (P.info? ty).map (·.size) = some 35) (h : K (a.put o.dst (.agg (cs44 y).toArray))) : o.quiet P a (fun W' => ∃ x : Cls w L, W' = x.W) K := by
  refine ⟨_, fun V hV => ?_, h⟩
  obtain ⟨x0, rfl⟩ := hV
  unfold Oper.quietAt execOp
  simp only [ho, hx, Instr.loadAt, Instr.sureAddr, Sem.run_bind, Sem.run_pure, Result.andThen_ok, run_load_elt P x0.W ty ad y d (hc x0) hu hd hi]
  exact ⟨rfl, rfl⟩
/-- An element of a row of the call's own is written whole. -/
theorem st_elt (hgd : op.guard = none) (y z : Operand) (ho : op.op = .store 44 y z) (hi : (P.info? 44).map (·.size) = some 35) {w0 : World} {base g n cap : Nat} {ok : Nat → Prop} {xs : List S44}
    (hR : Kd.R k44 44 w base ok (.slice (some ⟨g, 0, none⟩) n cap) xs) (i : Int) (h0 : 0 ≤ i) (h1 : i < n) (x : S44) (hy : a.eval y = .pointer (some ⟨g, i.toNat * 35, none⟩)) (hz : a.eval z = .agg (cs44 x).toArray)
    (HB : Below base w0 w) (hg : base ≤ g) (h : ∀ w1, Kd.R k44 44 w1 base ok (.slice (some ⟨g, 0, none⟩) n cap) (xs.set i.toNat x) → Below base w0 w1 → wpList P ops Q rest (a.put op.dst undef) w1) : wpList P ops Q (op :: rest) a w := by
  obtain ⟨_, hs, hf⟩ := own_elt hR i h0 h1
  obtain ⟨hR2, hgr⟩ := own_put hR i h0 h1 x
  refine wpList_store_mid hgd 44 y z ho g (i.toNat * 35) (cs44 x).toArray hy hz (fun j hj => ⟨hs j hj, hf j⟩) hi (cs_all x) ?_
  exact h _ hR2 ⟨hgr.os.trans HB.os, hgr.tape.trans HB.tape, hgr.output.trans HB.output, Nat.le_trans HB.size hgr.size, fun k hk => by
    have hgl : g < w.heap.size := Kd.R_lt hR g (by simp [Value.ownBlock])
    exact (hgr.block k (by omega) (by intro q; injection q; omega)).trans (HB.block k hk)⟩
end
section
variable {P : Program} {o : Oper} {a : Act} {w : World}
theorem exec_load_elt (ty : TypeId) (y : Operand) (ho : o.op = .load ty y) (ad : Addr) (hx : a.eval y = .pointer (some ad)) (x : S44) (d : TypeDesc) (hc : Elt w ad x) (hu : P.underlying ty = some d) (hd : d.isRow = true) (hi : (P.info? ty).map (·.size) = some 35) :
    (execOp a.eval o).run P w = .ok (.value (.agg (cs44 x).toArray)) w := by
  unfold execOp
  simp only [ho, hx, Instr.loadAt, Instr.sureAddr, Sem.run_bind, Sem.run_pure, Result.andThen_ok, run_load_elt P w ty ad x d hc hu hd hi]
theorem exec_store_elt (y z : Operand) (ho : o.op = .store 44 y z) (hi : (P.info? 44).map (·.size) = some 35) {base g n cap : Nat} {ok : Nat → Prop} {xs : List S44}
    (hR : Kd.R k44 44 w base ok (.slice (some ⟨g, 0, none⟩) n cap) xs) (i : Int) (h0 : 0 ≤ i) (h1 : i < n) (x : S44) (hy : a.eval y = .pointer (some ⟨g, i.toNat * 35, none⟩)) (hz : a.eval z = .agg (cs44 x).toArray) :
    (execOp a.eval o).run P w = .ok .skip (w.setCells g (i.toNat * 35) (cs44 x)) := by
  obtain ⟨_, hs, hf⟩ := own_elt hR i h0 h1
  unfold execOp
  simp only [ho, hy, hz, Instr.storeAt, Instr.sureAddr, Sem.run_bind, Sem.run_pure, Result.andThen_ok, run_storeVar_mid w g (i.toNat * 35) 44 (cs44 x).toArray (fun j hj => ⟨hs j hj, hf j⟩) hi (cs_all x)]
theorem put_facts {w0 : World} {base g n cap : Nat} {ok : Nat → Prop} {xs : List S44} (hR : Kd.R k44 44 w base ok (.slice (some ⟨g, 0, none⟩) n cap) xs) (i : Int) (h0 : 0 ≤ i) (h1 : i < n) (x : S44) (HB : Below base w0 w) (hg : base ≤ g) :
    Kd.R k44 44 (w.setCells g (i.toNat * 35) (cs44 x)) base ok (.slice (some ⟨g, 0, none⟩) n cap) (xs.set i.toNat x) ∧ Below base w0 (w.setCells g (i.toNat * 35) (cs44 x)) := by
  obtain ⟨hR2, hgr⟩ := own_put hR i h0 h1 x
  exact ⟨hR2, ⟨hgr.os.trans HB.os, hgr.tape.trans HB.tape, hgr.output.trans HB.output, Nat.le_trans HB.size hgr.size, fun k hk => by
    have hgl : g < w.heap.size := Kd.R_lt hR g (by simp [Value.ownBlock])
    exact (hgr.block k (by omega) (by intro q; injection q; omega)).trans (HB.block k hk)⟩⟩
end
/-- Put ahead of all that are younger. -/
def ins (y : S44) : List S44 → List S44
  | [] => [y]
  | a :: r => if a.f0.f1 > y.f0.f1 then y :: a :: r else a :: ins y r
def Srt (l : List S44) : Prop := l.Pairwise fun a b => a.f0.f1 ≤ b.f0.f1
def srtX (l : List S44) : List S44 := l.foldl (fun s y => ins y s) []
theorem ins_len (y : S44) : ∀ l, (ins y l).length = l.length + 1
  | [] => rfl
  | a :: r => by
    unfold ins
    split
    · rfl
    · simp [ins_len y r]
theorem ins_mem {y x : S44} : ∀ {l}, x ∈ ins y l → x = y ∨ x ∈ l
  | [], h => by simpa [ins] using h
  | a :: r, h => by
    unfold ins at h
    split at h
    · simpa using h
    · rcases List.mem_cons.1 h with rfl | h
      · right; simp
      · rcases ins_mem h with e | e
        · exact Or.inl e
        · right; simp [e]
theorem ins_srt (y : S44) : ∀ {l}, Srt l → Srt (ins y l)
  | [], _ => List.pairwise_singleton _ _
  | a :: r, h => by
    obtain ⟨h1, h2⟩ := List.pairwise_cons.1 h
    unfold ins
    split
    · rename_i c
      refine List.pairwise_cons.2 ⟨fun b hb => ?_, h⟩
      rcases List.mem_cons.1 hb with rfl | hb
      · omega
      · have := h1 b hb; omega
    · rename_i c
      refine List.pairwise_cons.2 ⟨fun b hb => ?_, ins_srt y h2⟩
      rcases ins_mem hb with rfl | hb
      · omega
      · exact h1 b hb
theorem ins_split (y : S44) : ∀ (p q : List S44), (∀ a ∈ p, a.f0.f1 ≤ y.f0.f1) → (∀ b ∈ q, y.f0.f1 < b.f0.f1) → ins y (p ++ q) = p ++ y :: q
  | [], [], _, _ => rfl
  | [], b :: q, _, h => by
    have := h b (by simp)
    show ins y (b :: q) = _
    unfold ins
    rw [if_pos this]
    rfl
  | a :: p, q, h1, h2 => by
    have := h1 a (by simp)
    show ins y (a :: (p ++ q)) = _
    unfold ins
    rw [if_neg (by omega), ins_split y p q (fun x hx => h1 x (by simp [hx])) h2]
    rfl
theorem srtX_snoc (l : List S44) (y : S44) : srtX (l ++ [y]) = ins y (srtX l) := by unfold srtX; rw [List.foldl_append]; rfl
theorem fold_len : ∀ (l s : List S44), (l.foldl (fun s y => ins y s) s).length = s.length + l.length
  | [], s => rfl
  | y :: r, s => by simp only [List.foldl_cons]; rw [fold_len r, ins_len, List.length_cons]; omega
theorem srtX_len (l : List S44) : (srtX l).length = l.length := by unfold srtX; rw [fold_len]; simp
theorem fold_srt : ∀ (l s : List S44), Srt s → Srt (l.foldl (fun s y => ins y s) s)
  | [], s, h => h
  | y :: r, s, h => fold_srt r _ (ins_srt y h)
theorem srtX_srt (l : List S44) : Srt (srtX l) := fold_srt l [] List.Pairwise.nil
theorem rd_at (p : List S44) (y : S44) (r : List S44) {z : Int} (h : z = (p.length : Int)) : rd_T44 (p ++ y :: r) z = y := by
  subst h
  unfold rd_T44
  rw [List.getD_eq_getElem?_getD, Int.toNat_natCast, List.getElem?_append_right (Nat.le_refl _), Nat.sub_self]
  rfl
theorem set_at (p : List S44) (y x : S44) (r : List S44) {z : Int} (h : z = (p.length : Int)) : (p ++ y :: r).set z.toNat x = p ++ x :: r := by
  subst h
  rw [Int.toNat_natCast, List.set_append_right _ _ (Nat.le_refl _), Nat.sub_self]
  rfl
/-- All of a sorted front are not younger, where its last one is not. -/
theorem srt_front {p q : List S44} {t y : S44} (h : Srt ((p ++ [t]) ++ q)) (ht : t.f0.f1 ≤ y.f0.f1) : ∀ a ∈ p ++ [t], a.f0.f1 ≤ y.f0.f1 := by
  intro a ha
  have h1 := (List.pairwise_append.1 h).1
  rcases List.mem_append.1 ha with ha | ha
  · have := (List.pairwise_append.1 h1).2.2 a ha t (by simp)
    omega
  · rw [List.mem_singleton.1 ha]; exact ht

set_option maxHeartbeats 8000000 in
set_option maxRecDepth 100000 in
theorem srt (w0 w : World) (hB : Below w0.heap.size w0 w) (v : Value) (l : List S44) (ho : Kd.R k44 44 w w0.heap.size (fun _ => True) v l) (hl : l.length ≤ 1000) :
    Calls Try.prog 26 #[v, .func (.func 27) #[] #[]] w fun e w' => ∃ v', e = .returned v' ∧ Kd.R k44 44 w' w0.heap.size (fun _ => True) v' (srtX l) ∧ Below w0.heap.size w0 w' := by
  obtain ⟨Ao, co, rfl⟩ := Kd.R_slice ho
  have HL := Aside0.mk hl
  have HO := Aside0.mk ho
  have HB := Aside0.mk hB
  clear ho hl hB
  go_enter Try.func26, Try.ntmps26
  go_wp2
  go_loopg [9] l.length (fun kq v9 w' => ∃ (x : Int) (S : List S44), v9 = .int .i64 x ∧ Aside0 (0 ≤ x ∧ x + kq = (l.length : Int)) ∧ Aside0 (S = srtX (l.take x.toNat)) ∧ Aside0 (Kd.R k44 44 w' w0.heap.size (fun _ => True) (.slice Ao l.length co) (S ++ l.drop x.toNat)) ∧ Aside0 (Below w0.heap.size w0 w'))
  case atStart => exact ⟨0, [], (by first | rfl | (simp; done)), ⟨by simp⟩, ⟨rfl⟩, ⟨by simpa using HO.out⟩, HB⟩
  case round =>
    clear HO HB
    obtain ⟨x, S, rfl, HX, HSS0, HO, HB⟩ := hrel
    by_cases c : x < (l.length : Int)
    · cases gk with
      | zero => exact absurd HX.out.2 (by simp; omega)
      | succ k1 =>
        have cb : decide (x < (l.length : Int)) = true := decide_eq_true c
        have p1 : 0 ≤ x := HX.out.1
        obtain ⟨y, hy⟩ : ∃ y_, rd_T44 l x = y_ := ⟨_, rfl⟩
        have HN : wrap64 (x + 1) = x + 1 := wrap_i (by omega) (by have := HL.out; omega)
        have HT := take_succ' l p1 c
        have HD := drop_at' l p1 c
        rw [hy] at HT HD
        have HM := Aside0.mk (And.intro HN (And.intro HT HD))
        have HSL : S.length = x.toNat := by rw [HSS0.out, srtX_len, List.length_take]; omega
        have HSS := Aside0.mk (And.intro HSS0.out.symm (And.intro HSL (HSS0.out ▸ srtX_srt _ : Srt S)))
        rw [HD] at HO
        have CC := Aside0.mk c
        have p1' := decide_eq_true p1
        clear hy HN HT HD HSL HSS0 c p1
        obtain ⟨D, hDD⟩ : ∃ D_, l.drop (x + 1).toNat = D_ := ⟨_, rfl⟩
        rw [hDD] at HO
        have HDD := Aside0.mk hDD
        clear hDD
        go_wp2
        go_loopg [6] x.toNat (fun kq v6 w' => ∃ (z : Int) (p q : List S44), v6 = .int .i64 z ∧ Aside0 (z = (p.length : Int) ∧ p.length = kq) ∧ Aside0 (p ++ q = S ∧ ∀ b ∈ q, y.f0.f1 < b.f0.f1) ∧ Aside0 (Kd.R k44 44 w' w0.heap.size (fun _ => True) (.slice Ao l.length co) (p ++ y :: (q ++ D))) ∧ Aside0 (Below w0.heap.size w0 w'))
        case atStart => exact ⟨x, S, [], (by first | rfl | (simp; done)), ⟨by have := HSS.out; have := HX.out; omega⟩, ⟨by simp⟩, ⟨by simpa using HO.out⟩, HB⟩
        case round =>
          clear HO HB
          obtain ⟨z, p, q, rfl, HZ, HP, HO, HB⟩ := hrel
          by_cases cz : 0 < z
          · have czb : decide (0 < z) = true := decide_eq_true cz
            obtain ⟨p', t, rfl⟩ : ∃ a b, p = a ++ [b] := by
              rcases List.eq_nil_or_concat p with h | ⟨a, b, h⟩
              · subst h; exact absurd HZ.out.1 (by simp; omega)
              · exact ⟨a, b, by simpa using h⟩
            have hlen : (l.length : Int) = (p'.length : Int) + 1 + 1 + (q ++ D).length := by have := (Kd.R_reads' HO.out).1; simp at this ⊢; omega
            have hz : z = (p'.length : Int) + 1 := by have := HZ.out.1; simp at this; omega
            have hO : Kd.R k44 44 wr w0.heap.size (fun _ => True) (.slice Ao l.length co) (p' ++ t :: y :: (q ++ D)) := by have := HO.out; simpa using this
            obtain ⟨go, cap, eo, gb, gl, cells, hG⟩ := Kd.R_form hO (by simp; omega)
            injection eo with ea en ec
            subst ea
            clear en ec hG gl cap
            have GB := Aside0.mk gb
            obtain ⟨j, hj⟩ : ∃ j_ : Int, wrap64 (z - 1) = j_ := ⟨_, rfl⟩
            have hjw : IntKind.i64.wrap (z - 1) = j := (i64_w _).trans hj
            have hjv : j = (p'.length : Int) := by rw [← hj, wrap_i (by omega) (by have := HL.out; omega)]; omega
            have q0 : 0 ≤ z := by omega
            have q1 : z < (l.length : Int) := by omega
            have r0 : 0 ≤ j := by omega
            have r1 : j < (l.length : Int) := by omega
            have E1 := (own_elt hO z q0 q1).1
            have E2 := (own_elt hO j r0 r1).1
            have er1 : rd_T44 (p' ++ t :: y :: (q ++ D)) z = y := by have := rd_at (p' ++ [t]) y (q ++ D) (z := z) (by simp; omega); simpa using this
            have er2 : rd_T44 (p' ++ t :: y :: (q ++ D)) j = t := rd_at p' t _ hjv
            rw [er1] at E1
            rw [er2] at E2
            have HE1 := Aside0.mk E1
            have HE2 := Aside0.mk E2
            have HOO := Aside0.mk hO
            have HZZ := Aside0.mk (And.intro hz (And.intro hjv hlen))
            have HQ := Aside0.mk (And.intro (And.intro q0 q1) (And.intro r0 r1))
            have q0' := decide_eq_true q0
            have q1' := decide_eq_true q1
            have r0' := decide_eq_true r0
            have r1' := decide_eq_true r1
            replace q0 := eq_true q0
            replace q1 := eq_true q1
            replace r0 := eq_true r0
            replace r1 := eq_true r1
            clear E1 E2 er1 er2 hO hlen hz hjv gb cz
            by_cases d : y.f0.f1 < t.f0.f1
            · have LS := Aside0.mk (fun w_ => less y t w_)
              rw [decide_eq_true d] at LS
              have DD := Aside0.mk d
              clear d
              have S0 := St.start wr
              try go_wp2
              refine wp_region_st S0 (by kernel_rfl) (by kernel_rfl) ?_
              haveI : Nonempty (Cls _ _) := ⟨⟨_, S0⟩⟩
              repeat (first | (go_big_quiet_want; (with_reducible refine quiet_elt 44 _ rfl _ rfl (y) _ (fun x => HE1.out.below x.st.below) Try.underlying44 rfl (by kernel_rfl) ?_); go_big_quiet_on; (try simp only [Act.put, List.setIfInBounds_toArray, List.set_cons_zero, List.set_cons_succ])) | (go_big_quiet_want; (with_reducible refine quiet_elt 44 _ rfl _ rfl (t) _ (fun x => HE2.out.below x.st.below) Try.underlying44 rfl (by kernel_rfl) ?_); go_big_quiet_on; (try simp only [Act.put, List.setIfInBounds_toArray, List.set_cons_zero, List.set_cons_succ])) | go_big_quiet_step ((first | (go_at_call 27; exact quiet_st (LS.out _)))))
              refine wpQuiet_nil ?_
              rintro ⟨w9, S9⟩
              go_wp2
              refine start_ (n := 18) (S := fun w_ => Elt w_ ⟨go, z.toNat * 35, none⟩ y ∧ Elt w_ ⟨go, j.toNat * 35, none⟩ t) (ds := [15, 17]) #[false, false, false, false, false, false, false, false, false, false, false, false, false, false, false, false, false, false] (by kernel_rfl) rfl rfl ⟨HE1.out.below (S9.drew).below, HE2.out.below (S9.drew).below⟩ (fun hHeld => ?_)
              have HB9 := Aside0.mk (below_step HB.out (S9.drew).below)
              have HO9 := Aside0.mk (Kd.R_below HOO.out (S9.drew).below)
              generalize w9.drew = w10 at HB9 HO9 hHeld ⊢
              refine pure_ (i := 0) (N := some 30) (v := ?_) (a' := ?_) #[true, false, false, false, false, false, false, false, false, false, false, false, false, false, false, false, false, false] rfl rfl (by kernel_rfl) (fun _ _ _ h => h) (Or.inl ⟨by rfl, ?_⟩) ?_ ?_
              rotate_left
              · intro w'
                go_simp
                with_reducible rfl
              rotate_left
              · simp only [Act.put, List.setIfInBounds_toArray, List.set_cons_zero, List.set_cons_succ, i64_w, i32_w]
                rfl
              refine pure_ (i := 1) (N := some 31) (v := ?_) (a' := ?_) #[true, true, false, false, false, false, false, false, false, false, false, false, false, false, false, false, false, false] rfl rfl (by kernel_rfl) (fun _ _ _ h => h) (Or.inl ⟨by rfl, ?_⟩) ?_ ?_
              rotate_left
              · intro w'
                go_simp
                with_reducible rfl
              rotate_left
              · simp only [Act.put, List.setIfInBounds_toArray, List.set_cons_zero, List.set_cons_succ, i64_w, i32_w]
                rfl
              refine pure_ (i := 2) (N := some 32) (v := ?_) (a' := ?_) #[true, true, true, false, false, false, false, false, false, false, false, false, false, false, false, false, false, false] rfl rfl (by kernel_rfl) (fun _ _ _ h => h) (Or.inl ⟨by rfl, ?_⟩) ?_ ?_
              rotate_left
              · intro w'
                go_simp
                with_reducible rfl
              rotate_left
              · simp only [Act.put, List.setIfInBounds_toArray, List.set_cons_zero, List.set_cons_succ, i64_w, i32_w]
                rfl
              refine pure_ (i := 3) (N := some 33) (v := ?_) (a' := ?_) #[true, true, true, true, false, false, false, false, false, false, false, false, false, false, false, false, false, false] rfl rfl (by kernel_rfl) (fun _ _ _ h => h) (Or.inl ⟨by rfl, ?_⟩) ?_ ?_
              rotate_left
              · intro w'
                go_simp
                with_reducible rfl
              rotate_left
              · simp only [Act.put, List.setIfInBounds_toArray, List.set_cons_zero, List.set_cons_succ, i64_w, i32_w]
                rfl
              refine pure_ (i := 4) (N := some 34) (v := ?_) (a' := ?_) #[true, true, true, true, true, false, false, false, false, false, false, false, false, false, false, false, false, false] rfl rfl (by kernel_rfl) (fun _ _ _ h => h) (Or.inl ⟨by rfl, ?_⟩) ?_ ?_
              rotate_left
              · intro w'
                go_simp
                with_reducible rfl
              rotate_left
              · simp only [Act.put, List.setIfInBounds_toArray, List.set_cons_zero, List.set_cons_succ, i64_w, i32_w]
                rfl
              refine pure_ (i := 5) (N := some 35) (v := ?_) (a' := ?_) #[true, true, true, true, true, true, false, false, false, false, false, false, false, false, false, false, false, false] rfl rfl (by kernel_rfl) (fun _ _ _ h => h) (Or.inl ⟨by rfl, ?_⟩) ?_ ?_
              rotate_left
              · intro w'
                go_simp
                with_reducible rfl
              rotate_left
              · simp only [Act.put, List.setIfInBounds_toArray, List.set_cons_zero, List.set_cons_succ, i64_w, i32_w]
                rfl
              refine pure_ (i := 6) (N := some 36) (v := ?_) (a' := ?_) #[true, true, true, true, true, true, true, false, false, false, false, false, false, false, false, false, false, false] rfl rfl (by kernel_rfl) (fun _ _ _ h => h) (Or.inl ⟨by rfl, ?_⟩) ?_ ?_
              rotate_left
              · intro w'
                go_simp
                with_reducible rfl
              rotate_left
              · simp only [Act.put, List.setIfInBounds_toArray, List.set_cons_zero, List.set_cons_succ, i64_w, i32_w]
                rfl
              refine pure_ (i := 7) (N := some 37) (v := ?_) (a' := ?_) #[true, true, true, true, true, true, true, true, false, false, false, false, false, false, false, false, false, false] rfl rfl (by kernel_rfl) (fun _ _ _ h => h) (Or.inl ⟨by rfl, ?_⟩) ?_ ?_
              rotate_left
              · intro w'
                go_simp
                with_reducible rfl
              rotate_left
              · simp only [Act.put, List.setIfInBounds_toArray, List.set_cons_zero, List.set_cons_succ, i64_w, i32_w]
                rfl
              refine pure_ (i := 8) (N := some 38) (v := ?_) (a' := ?_) #[true, true, true, true, true, true, true, true, true, false, false, false, false, false, false, false, false, false] rfl rfl (by kernel_rfl) (fun _ _ _ h => h) (Or.inl ⟨by rfl, ?_⟩) ?_ ?_
              rotate_left
              · intro w'
                go_simp
                with_reducible rfl
              rotate_left
              · simp only [Act.put, List.setIfInBounds_toArray, List.set_cons_zero, List.set_cons_succ, i64_w, i32_w]
                rfl
              refine pure_ (i := 10) (N := some 40) (v := ?_) (a' := ?_) #[true, true, true, true, true, true, true, true, true, false, true, false, false, false, false, false, false, false] rfl rfl (by kernel_rfl) (fun _ _ _ h => h) (Or.inl ⟨by rfl, ?_⟩) ?_ ?_
              rotate_left
              · intro w'
                go_simp
                with_reducible rfl
              rotate_left
              · simp only [Act.put, List.setIfInBounds_toArray, List.set_cons_zero, List.set_cons_succ, i64_w, i32_w]
                rfl
              refine pure_ (i := 11) (N := some 41) (v := ?_) (a' := ?_) #[true, true, true, true, true, true, true, true, true, false, true, true, false, false, false, false, false, false] rfl rfl (by kernel_rfl) (fun _ _ _ h => h) (Or.inl ⟨by rfl, ?_⟩) ?_ ?_
              rotate_left
              · intro w'
                go_simp
                with_reducible rfl
              rotate_left
              · simp only [Act.put, List.setIfInBounds_toArray, List.set_cons_zero, List.set_cons_succ, i64_w, i32_w]
                rfl
              refine pure_ (i := 12) (N := some 42) (v := ?_) (a' := ?_) #[true, true, true, true, true, true, true, true, true, false, true, true, true, false, false, false, false, false] rfl rfl (by kernel_rfl) (fun _ _ _ h => h) (Or.inl ⟨by rfl, ?_⟩) ?_ ?_
              rotate_left
              · intro w'
                go_simp
                with_reducible rfl
              rotate_left
              · simp only [Act.put, List.setIfInBounds_toArray, List.set_cons_zero, List.set_cons_succ, i64_w, i32_w]
                rfl
              refine take_ (i := 9) (N := some 39) (v := .agg (cs44 t).toArray) (a' := ?_) #[true, true, true, true, true, true, true, true, true, true, true, true, true, false, false, false, false, false] rfl rfl (by kernel_rfl) (fun _ _ _ h => h) (Or.inl ⟨by rfl, fun w_ hw_ => exec_load_elt 44 _ rfl _ rfl t _ hw_.2 Try.underlying44 rfl (by kernel_rfl)⟩) hHeld ?_ ?_
              rotate_left
              · simp only [Act.put, List.setIfInBounds_toArray, List.set_cons_zero, List.set_cons_succ, i64_w, i32_w]
                rfl
              refine take_ (i := 13) (N := some 43) (v := .agg (cs44 y).toArray) (a' := ?_) #[true, true, true, true, true, true, true, true, true, true, true, true, true, true, false, false, false, false] rfl rfl (by kernel_rfl) (fun _ _ _ h => h) (Or.inl ⟨by rfl, fun w_ hw_ => exec_load_elt 44 _ rfl _ rfl y _ hw_.1 Try.underlying44 rfl (by kernel_rfl)⟩) hHeld ?_ ?_
              rotate_left
              · simp only [Act.put, List.setIfInBounds_toArray, List.set_cons_zero, List.set_cons_succ, i64_w, i32_w]
                rfl
              refine pure_ (i := 14) (N := some 44) (v := ?_) (a' := ?_) #[true, true, true, true, true, true, true, true, true, true, true, true, true, true, true, false, false, false] rfl rfl (by kernel_rfl) (fun _ _ _ h => h) (Or.inl ⟨by rfl, ?_⟩) ?_ ?_
              rotate_left
              · intro w'
                go_simp
                with_reducible rfl
              rotate_left
              · simp only [Act.put, List.setIfInBounds_toArray, List.set_cons_zero, List.set_cons_succ, i64_w, i32_w]
                rfl
              refine last_ (i := 15) (N := none) #[true, true, true, true, true, true, true, true, true, true, true, true, true, true, true, true, false, false] rfl rfl (by kernel_rfl) (by decide) (fun K hK => ?_)
              refine skip_ (w1 := _) (by rfl) rfl (exec_store_elt _ _ rfl (by kernel_rfl) HO9.out z HQ.out.1.1 HQ.out.1.2 t rfl rfl) ?_
              obtain ⟨HO11_, HB11_⟩ := put_facts HO9.out z HQ.out.1.1 HQ.out.1.2 t HB9.out GB.out
              have HO11 := Aside0.mk HO11_
              have HB11 := Aside0.mk HB11_
              clear HO11_ HB11_
              refine hK.out _ _ ?_
              clear hK K
              generalize World.setCells _ _ _ _ = w11 at HO11 HB11 ⊢
              refine pure_ (i := 16) (N := some 45) (v := ?_) (a' := ?_) #[true, true, true, true, true, true, true, true, true, true, true, true, true, true, true, true, true, false] rfl rfl (by kernel_rfl) (fun _ _ _ h => h) (Or.inl ⟨by rfl, ?_⟩) ?_ ?_
              rotate_left
              · intro w'
                go_simp
                with_reducible rfl
              rotate_left
              · simp only [Act.put, List.setIfInBounds_toArray, List.set_cons_zero, List.set_cons_succ, i64_w, i32_w]
                rfl
              refine last_ (i := 17) (N := none) #[true, true, true, true, true, true, true, true, true, true, true, true, true, true, true, true, true, true] rfl rfl (by kernel_rfl) (by decide) (fun K hK => ?_)
              refine skip_ (w1 := _) (by rfl) rfl (exec_store_elt _ _ rfl (by kernel_rfl) HO11.out j HQ.out.2.1 HQ.out.2.2 y rfl rfl) ?_
              obtain ⟨HO12_, HB12_⟩ := put_facts HO11.out j HQ.out.2.1 HQ.out.2.2 y HB11.out GB.out
              have HO12 := Aside0.mk HO12_
              have HB12 := Aside0.mk HB12_
              clear HO12_ HB12_
              refine hK.out _ _ ?_
              clear hK K
              generalize World.setCells _ _ _ _ = w12 at HO12 HB12 ⊢
              refine done_ (by kernel_rfl) ?_
              go_wp2
              go_roundg p'.length
              case measure => have := HZ.out; simp at this; omega
              case rel => exact ⟨j, p', t :: q, (by first | rfl | (simp only [← hj]; first | rfl | simp) | (simp [*]; done)), ⟨by have := HZZ.out; omega⟩, ⟨by have := HP.out; refine ⟨by simpa using this.1, fun b hb => ?_⟩; rcases List.mem_cons.1 hb with rfl | hb; exact DD.out; exact this.2 b hb⟩, ⟨by have h_ := HO12.out; have e1_ : (p' ++ t :: y :: (q ++ D)).set z.toNat t = p' ++ t :: t :: (q ++ D) := (by have := set_at (p' ++ [t]) y t (q ++ D) (z := z) (by have := HZZ.out; simp; omega); simpa using this); rw [e1_, set_at p' t y _ (by have := HZZ.out; omega)] at h_; simpa using h_⟩, HB12⟩
            · have LS := Aside0.mk (fun w_ => less y t w_)
              rw [decide_eq_false d] at LS
              have DD := Aside0.mk d
              clear d
              have S0 := St.start wr
              try go_wp2
              refine wp_region_st S0 (by kernel_rfl) (by kernel_rfl) ?_
              haveI : Nonempty (Cls _ _) := ⟨⟨_, S0⟩⟩
              repeat (first | (go_big_quiet_want; (with_reducible refine quiet_elt 44 _ rfl _ rfl (y) _ (fun x => HE1.out.below x.st.below) Try.underlying44 rfl (by kernel_rfl) ?_); go_big_quiet_on; (try simp only [Act.put, List.setIfInBounds_toArray, List.set_cons_zero, List.set_cons_succ])) | (go_big_quiet_want; (with_reducible refine quiet_elt 44 _ rfl _ rfl (t) _ (fun x => HE2.out.below x.st.below) Try.underlying44 rfl (by kernel_rfl) ?_); go_big_quiet_on; (try simp only [Act.put, List.setIfInBounds_toArray, List.set_cons_zero, List.set_cons_succ])) | go_big_quiet_step ((first | (go_at_call 27; exact quiet_st (LS.out _)))))
              refine wpQuiet_nil ?_
              rintro ⟨w9, S9⟩
              go_wp2
              go_roundg k1
              case measure => omega
              case rel => exact ⟨x + 1, ins y S, (by first | rfl | (simp; done) | (simp [HM.out.1]; done)), ⟨by have := HX.out; have := CC.out; omega⟩, ⟨by rw [HM.out.2.1, srtX_snoc, HSS.out.1]⟩, ⟨by rw [HDD.out]; have e_ := ins_split y (p' ++ [t]) q (srt_front (by have := HSS.out.2.2; rw [← HP.out.1] at this; exact this) (by have := DD.out; omega)) HP.out.2; rw [HP.out.1] at e_; rw [e_]; have := Kd.R_below HOO.out S9.below; simpa using this⟩, ⟨below_step HB.out S9.below⟩⟩
          · have czb : decide (0 < z) = false := decide_eq_false cz
            have CZ := Aside0.mk cz
            clear cz
            have S0 := St.start wr
            try go_wp2
            refine wp_region_st S0 (by kernel_rfl) (by kernel_rfl) ?_
            haveI : Nonempty (Cls _ _) := ⟨⟨_, S0⟩⟩
            repeat (first | go_big_quiet_step ((first | (go_at_call 27; fail))))
            refine wpQuiet_nil ?_
            rintro ⟨w9, S9⟩
            go_wp2
            go_roundg k1
            case measure => omega
            case rel =>
              have hp : p = [] := List.eq_nil_of_length_eq_zero (by have := HZ.out; have := CZ.out; omega)
              subst hp
              exact ⟨x + 1, ins y S, (by first | rfl | (simp; done) | (simp [HM.out.1]; done)), ⟨by have := HX.out; have := CC.out; omega⟩, ⟨by rw [HM.out.2.1, srtX_snoc, HSS.out.1]⟩, ⟨by rw [HDD.out]; have e_ : ins y ([] ++ q) = y :: q := ins_split y [] q (by simp) HP.out.2; have e2_ : [] ++ q = S := HP.out.1; rw [e2_] at e_; rw [e_]; exact Kd.R_below HO.out S9.below⟩, ⟨below_step HB.out S9.below⟩⟩
    · have cb : decide (x < (l.length : Int)) = false := decide_eq_false c
      have CC := Aside0.mk c
      clear c
      go_wp2
      go_ret
      refine ⟨_, rfl, ?_, HB.out⟩
      have e : x.toNat = l.length := by have := HX.out; have := CC.out; omega
      have := HO.out
      rw [HSS0.out, e, List.take_length, List.drop_length, List.append_nil] at this
      exact this

end Go.Proofs.Ytbkjdikiepnhbaa.Fl
