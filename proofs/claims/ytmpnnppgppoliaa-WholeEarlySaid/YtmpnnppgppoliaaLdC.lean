/- What reads and writes of memory come to: walks of the code. The conditions are those that each theorem names. -/
import Derived.Test.YtmpnnppgppoliaaLdB
namespace Go.Proofs.Ytmpnnppgppoliaa.Ld
open Go Go.Proofs Go.RowKit Go.Proofs.YtmpnnppgppoliaaW.PrintWords Go.Proofs.YtmpnnppgppoliaaW.PrintLast Go.Proofs.YtmpnnppgppoliaaW.PrintMore Go.Proofs.Ytmpnnppgppoliaa.Boxes Go.Proofs.Ytmpnnppgppoliaa.PFwd
attribute [local go_sem] max2_int min2_int max_two min_two max_three min_three max_four min_four   -- for this text's walks alone
set_option linter.unusedVariables false
set_option linter.unusedSimpArgs false

/-- What a read gives. -/
def rdX (m : List Int) (a n : Int) : Int := ofI 0 0 ((m.take (a + n).toNat).drop a.toNat)
set_option maxHeartbeats 8000000 in
set_option maxRecDepth 100000 in
theorem mread (A0 : Option Addr) (c0 : Nat) (m : List Int) (a n : Int) (ho : Okm m.length a n) (w : World) (hr0 : Kd.C (Kd.int .u8) w A0 m.length m) (hc0 : m.length ≤ c0) :
    Calls Try.prog 6 #[.slice A0 m.length c0, .int .u32 a, .int .i64 n] w fun e w' => e = .returned (.tuple #[.int .u32 (rdX m a n), .int .i64 0]) ∧ Below w.heap.size w w' := by
  have HR0 := Aside0.mk hr0
  have HO := Aside0.mk ho
  have HB := Aside0.mk (Below.refl w.heap.size w)
  obtain ⟨h1, h2, h3, h4⟩ := ho
  have hn : 1 ≤ n ∧ n ≤ 4 := by omega
  have ha : IntKind.i64.wrap a = a := (i64_w _).trans (wrap_i (by omega) (by omega))
  have han : IntKind.i64.wrap (a + n) = a + n := (i64_w _).trans (wrap_i (by omega) (by omega))
  have HC := Aside0.mk (Kd.C_mid (lo := a.toNat) (hi := (a + n).toNat) (c := c0) hr0 (by omega) (by omega) hc0)
  obtain ⟨bs, hbs⟩ : ∃ b_, (m.take (a + n).toNat).drop a.toNat = b_ := ⟨_, rfl⟩
  rw [hbs] at HC
  have HBL := Aside0.mk (show bs.length ≤ 4 by rw [← hbs, List.length_drop, List.length_take]; omega)
  have HBC := Aside0.mk (show bs.length ≤ c0 - a.toNat by rw [← hbs, List.length_drop, List.length_take]; omega)
  have hbl : (a + n).toNat - a.toNat = bs.length := by rw [← hbs, List.length_drop, List.length_take]; omega
  obtain ⟨ad, rfl, _⟩ := hr0.2.2 (by omega)
  have hne : ¬ c0 = a.toNat := by omega
  have HC1 := Aside0.mk (show Kd.C (Kd.int .u8) w (some (ad.add a.toNat)) bs.length bs by have h_ := HC.out; rw [if_neg hne] at h_; simpa [Kd.int, Kd.scalar] using h_)
  have b1 : 0 ≤ a := h2
  have b2 : a ≤ a + n := by omega
  have b3 : a + n ≤ (c0 : Int) := by omega
  have b4 : a + n ≤ (m.length : Int) := h3
  have hx : rdX m a n = ofI 0 0 bs := by unfold rdX; rw [hbs]
  rw [hx]
  clear hr0 h1 h2 h3 h4 hn hbs hx HC
  go_enter Try.func6, Try.ntmps6
  go_wp2_with (first | (go_at_call 22; (with_reducible refine (check _ c0 m.length a n HO.out _).mono ?_); rintro e_ w2 ⟨rfl, hB_⟩; have HB1 := Aside0.mk (below_step HB.out hB_); clear hB_) | (go_at_call 23; (with_reducible refine (bof (some (ad.add a.toNat)) _ bs _ (Kd.C_below HC1.out HB1.out) HBC.out HBL.out).mono ?_); rintro e_ w3 ⟨rfl, hB_⟩; have HB2 := Aside0.mk (below_step HB1.out hB_); clear hB_))
  go_ret2
  exact ⟨by first | rfl | (simp; done), HB2.out⟩

/-- What a write leaves. -/
def wrX (m : List Int) (a n v : Int) : List Int := m.take a.toNat ++ (bytX v n ++ m.drop (a.toNat + n.toNat))
theorem wrX_len {m : List Int} {a n : Int} (v : Int) (h : Okm m.length a n) : (wrX m a n v).length = m.length := by
  obtain ⟨h1, h2, h3, h4⟩ := h
  simp [wrX, bytX_len]
  omega
theorem c_block {w : World} {g : Nat} {L : List Value} (hg : w.heap[g]? = some (.cells L.toArray 5 (0, 0))) (xs : List Int) (hx : L.take xs.length = xs.map (Value.int .u8)) (hl : xs.length ≤ 64) : Kd.C (Kd.int .u8) w (some ⟨g, 0, none⟩) xs.length xs := by
  refine Kd.C_of_reads (d := 0) ⟨rfl, by omega, fun hp => ⟨_, rfl, fun j hj => ?_⟩⟩
  rw [add_plain, cell_of_row _ _ _ _ _ _ hg]
  have h1 : (L.take xs.length)[j]? = (xs.map (Value.int .u8))[j]? := by rw [hx]
  rw [List.getElem?_take, if_pos hj, List.getElem?_map, List.getElem?_eq_getElem hj] at h1
  simp only [List.getElem?_toArray, h1]
  simp [rdOf, hj]
theorem splice_take {cur : List Value} {m : List Int} {a n : Nat} {bs : List Int} (hb : bs.length = n) (han : a + n ≤ m.length) (hc : cur.take m.length = m.map (Value.int .u8)) :
    (splice cur a (bs.map (Value.int .u8))).take m.length = (m.take a ++ (bs ++ m.drop (a + n))).map (Value.int .u8) := by
  have hlc : m.length ≤ cur.length := by have := congrArg List.length hc; simp at this; omega
  have e1 : cur.take a = (m.take a).map (Value.int .u8) := by rw [List.map_take, ← hc, List.take_take, Nat.min_eq_left (by omega)]
  have e2 : (cur.drop (a + n)).take (m.length - (a + n)) = (m.drop (a + n)).map (Value.int .u8) := by rw [List.map_drop, ← hc, List.drop_take]
  unfold splice
  rw [List.map_append, List.map_append, ← e1, ← e2, List.length_map, hb]
  have hp : (cur.take a).length = a := by rw [List.length_take]; omega
  have hq : (bs.map (Value.int .u8)).length = n := by rw [List.length_map]; exact hb
  generalize cur.take a = P at hp ⊢
  generalize bs.map (Value.int .u8) = X at hq ⊢
  generalize cur.drop (a + n) = Y
  have h_ := List.take_length_add_append (l₁ := P ++ X) (l₂ := Y) (m.length - (a + n))
  rw [List.length_append, hp, hq, show a + n + (m.length - (a + n)) = m.length by omega, List.append_assoc, List.append_assoc] at h_
  exact h_

theorem own_cur {w : World} {base g n cap : Nat} {ok : Nat → Prop} {xs : List Int} (h : Kd.R (Kd.int .u8) 5 w base ok (.slice (some ⟨g, 0, none⟩) n cap) xs) : ∃ cur : List Value, w.heap[g]? = some (.cells cur.toArray 5 (0, 0)) ∧ cur.take xs.length = xs.map (Value.int .u8) := by
  have ho := Kd.own_of_R h
  obtain ⟨_, ⟨h1, _⟩ | ⟨g', cap', cur, h1, _, h2, _, _, _, h3⟩⟩ := ho
  · cases h1
  · injection h1 with e1 e2 e3
    injection e1 with e1
    injection e1 with e1
    subst e1
    exact ⟨cur.toList, by simpa using h2, by simpa [encs] using h3⟩
theorem c_cells {w : World} {A : Option Addr} {xs : List Int} (h : Kd.C (Kd.int .u8) w A xs.length xs) (hp : 0 < xs.length) : ∃ ad, A = some ad ∧ ∀ j v, (xs.map (Value.int .u8))[j]? = some v → w.cell? (ad.add j) = some v := by
  obtain ⟨ad, e, hc⟩ := h.2.2 hp
  refine ⟨ad, e, fun j v hv => ?_⟩
  rw [List.getElem?_map] at hv
  obtain ⟨p, hp1, rfl⟩ := Option.map_eq_some_iff.1 hv
  obtain ⟨c, hc1, hc2, hc3⟩ := hc j p hp1
  obtain rfl : c = [Value.int .u8 p] := hc2
  have := hc3 0 _ rfl
  simpa [Kd.int, Kd.scalar] using this
set_option maxHeartbeats 8000000 in
set_option maxRecDepth 100000 in
theorem mwrite (A0 : Option Addr) (c0 : Nat) (m : List Int) (a n v : Int) (ho : Okm m.length a n) (w : World) (hr0 : Kd.C (Kd.int .u8) w A0 m.length m) (hc0 : m.length ≤ c0) :
    Calls Try.prog 7 #[.slice A0 m.length c0, .int .u32 a, .int .i64 n, .int .u32 v] w fun e w' => (∃ A c, e = .returned (.tuple #[.slice A (wrX m a n v).length c, .int .i64 0]) ∧ (wrX m a n v).length ≤ c ∧ Kd.C (Kd.int .u8) w' A (wrX m a n v).length (wrX m a n v)) ∧ Below w.heap.size w w' := by
  have HR0 := Aside0.mk hr0
  have HO := Aside0.mk ho
  have HB := Aside0.mk (Below.refl w.heap.size w)
  have hok := ho
  obtain ⟨h1, h2, h3, h4⟩ := hok
  have HN4 := Aside0.mk (show 1 ≤ n ∧ n ≤ 4 by omega)
  have HOK := Aside0.mk (show 0 ≤ a ∧ a.toNat + n.toNat ≤ m.length ∧ m.length ≤ 64 ∧ 1 ≤ n.toNat by omega)
  have b1 : 0 ≤ a := h2
  have b2 : a ≤ (m.length : Int) := by omega
  have hl := wrX_len v HO.out
  have HWL := Aside0.mk hl
  clear hr0 h1 h2 h3 h4 ho hl
  go_enter Try.func7, Try.ntmps7
  go_upto_region 5 with (first | (go_at_call 22; (with_reducible refine (check A0 c0 m.length a n HO.out _).mono ?_); rintro e_ w2 ⟨rfl, hB_⟩; have HB1 := Aside0.mk (below_step HB.out hB_); clear hB_) | (go_at_call 24; (with_reducible refine (clone8 A0 c0 m _ (Kd.C_below HR0.out HB1.out) (by have := HOK.out; omega) (by have := HOK.out; omega)).mono ?_); rintro e_ w3 ⟨vc, rfl, hR_, hB_⟩; have HB2 := Aside0.mk (below_step HB1.out hB_); have HOc := Aside0.mk (Kd.R_lower hR_ (below_size HB1.out)); obtain ⟨Ao, co, eo⟩ := Kd.R_slice HOc.out; subst eo; clear hR_ hB_))
  try go_wp2
  obtain ⟨go, cap, eo, gb, gl, cells, hG⟩ := Kd.R_form HOc.out (by have := HOK.out; omega)
  have hco := (Kd.R_reads' HOc.out).2.1
  injection eo with ea en ec
  subst ea
  clear en ec hG gl cap
  have GB := Aside0.mk gb
  have HCO := Aside0.mk hco
  have hne : ¬ co = a.toNat := by have := HOK.out; omega
  clear gb hco
  refine start_ (n := 7) (S := fun w_ => True) (ds := [5, 6]) #[false, false, false, false, false, false, false] (by kernel_rfl) rfl rfl (trivial) (fun hHeld => ?_)
  have HO10 := Aside0.mk (Kd.R_below HOc.out (below_drew (Below.refl _ _)))
  have HB10 := Aside0.mk (below_step HB2.out (below_drew (Below.refl _ _)))
  generalize World.drew _ = w10 at HO10 HB10 hHeld ⊢
  refine pure_ (i := 0) (N := some 21) (v := ?_) (a' := ?_) #[true, false, false, false, false, false, false] rfl rfl (by kernel_rfl) (fun _ _ _ h => h) (Or.inl ⟨by rfl, ?_⟩) ?_ ?_
  rotate_left
  · intro w'
    go_simp
    with_reducible rfl
  rotate_left
  · simp only [Act.put, List.setIfInBounds_toArray, List.set_cons_zero, List.set_cons_succ]
    rfl
  refine pure_ (i := 1) (N := some 22) (v := ?_) (a' := ?_) #[true, true, false, false, false, false, false] rfl rfl (by kernel_rfl) (fun _ _ _ h => h) (Or.inl ⟨by rfl, ?_⟩) ?_ ?_
  rotate_left
  · intro w'
    go_simp
    with_reducible rfl
  rotate_left
  · simp only [Act.put, List.setIfInBounds_toArray, List.set_cons_zero, List.set_cons_succ]
    rfl
  refine pure_ (i := 2) (N := some 23) (v := ?_) (a' := ?_) #[true, true, true, false, false, false, false] rfl rfl (by kernel_rfl) (fun _ _ _ h => h) (Or.inl ⟨by rfl, ?_⟩) ?_ ?_
  rotate_left
  · intro w'
    go_simp
    with_reducible rfl
  rotate_left
  · simp only [Act.put, List.setIfInBounds_toArray, List.set_cons_zero, List.set_cons_succ]
    rfl
  refine pure_ (i := 3) (N := some 24) (v := ?_) (a' := ?_) #[true, true, true, true, false, false, false] rfl rfl (by kernel_rfl) (fun _ _ _ h => h) (Or.inl ⟨by rfl, ?_⟩) ?_ ?_
  rotate_left
  · intro w'
    go_simp
    with_reducible rfl
  rotate_left
  · simp only [Act.put, List.setIfInBounds_toArray, List.set_cons_zero, List.set_cons_succ]
    rfl
  refine pure_ (i := 4) (N := some 25) (v := ?_) (a' := ?_) #[true, true, true, true, true, false, false] rfl rfl (by kernel_rfl) (fun _ _ _ h => h) (Or.inl ⟨by rfl, ?_⟩) ?_ ?_
  rotate_left
  · intro w'
    go_simp
    with_reducible rfl
  rotate_left
  · simp only [Act.put, List.setIfInBounds_toArray, List.set_cons_zero, List.set_cons_succ]
    rfl
  refine last_ (i := 5) (N := some 26) #[true, true, true, true, true, true, false] rfl rfl (by kernel_rfl) (by decide) (fun K hK => ?_)
  refine goes_ Try.func25 (by kernel_rfl) rfl #[.int .u32 v, .int .i64 n] rfl rfl rfl (by (try simp only [List.map_toArray, List.map_cons, List.map_nil]); first | done | rfl) ?_
  refine (byts v n (by have := HN4.out; omega) (by have := HN4.out; omega) _).mono ?_
  rintro e_ w11 ⟨vb, rfl, hR_, hB_⟩
  obtain ⟨Ab, cb, eb⟩ := Kd.R_slice hR_
  subst eb
  refine ⟨_, rfl, ?_⟩
  have HO11 := Aside0.mk (Kd.R_below HO10.out hB_)
  have HB11 := Aside0.mk (below_step HB10.out hB_)
  have HC11 := Aside0.mk (Kd.R_reads' hR_).2.2
  clear hR_ hB_
  refine hK.out _ _ ?_
  clear hK K
  simp only [Act.put, List.setIfInBounds_toArray, List.set_cons_zero, List.set_cons_succ]
  refine last_ (i := 6) (N := some 27) #[true, true, true, true, true, true, true] rfl rfl (by kernel_rfl) (by decide) (fun K hK => ?_)
  obtain ⟨cur, hcur, hct⟩ := own_cur HO11.out
  refine step_copy_splice rfl _ _ 23 23 rfl 5 Try.underlying23 (by kernel_rfl) (some ⟨go, a.toNat, none⟩) Ab (m.length - a.toNat) (co - a.toNat) (bytX v n).length cb rfl rfl go a.toNat cur 5 hcur ((bytX v n).map (Value.int .u8)) (by rw [List.length_map, bytX_len]; have := HOK.out; simp only [Nat.min_def]; split <;> omega) (fun hp_ => ⟨rfl, c_cells HC11.out (by simpa using hp_)⟩) (by have h_ := congrArg List.length hct; have := HOK.out; rw [List.length_map, bytX_len]; simp at h_; omega) (by simp [Value.oneCell']) w.heap.size w HB11.out GB.out ?_
  intro w12 hg_ hB_
  refine hK.out _ _ ?_
  clear hK K
  have HC12 := Aside0.mk (show Kd.C (Kd.int .u8) w12 (some ⟨go, 0, none⟩) (wrX m a n v).length (wrX m a n v) from c_block (show _ = _ from hg_) _ (by rw [wrX_len v HO.out]; exact splice_take (bytX_len v n) (by have := HOK.out; omega) hct) (by rw [wrX_len v HO.out]; have := HOK.out; omega))
  have HB12 := Aside0.mk hB_
  clear hg_ hB_ hcur hct
  simp only [Act.put, List.setIfInBounds_toArray, List.set_cons_zero, List.set_cons_succ]
  refine done_ (by kernel_rfl) ?_
  go_wp2
  go_ret2
  exact ⟨⟨some ⟨go, 0, none⟩, co, by first | rfl | (rw [HWL.out]; rfl) | (simp [HWL.out]; done), by rw [HWL.out]; exact HCO.out, HC12.out⟩, HB12.out⟩

end Go.Proofs.Ytmpnnppgppoliaa.Ld
