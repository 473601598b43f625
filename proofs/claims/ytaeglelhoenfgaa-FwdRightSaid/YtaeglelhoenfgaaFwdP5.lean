/- The pure statement of FwdRight: plain lemmas, no program. The conditions are those that each names. -/
import Derived.Test.YtaeglelhoenfgaaFwdP1
import Derived.Test.YtaeglelhoenfgaaPFwdx13
namespace Go.Proofs.Ytaeglelhoenfgaa.PFwd.Right
set_option linter.unusedVariables false
set_option linter.unusedSimpArgs false
open Go Go.Proofs Go.RowKit Go.Proofs.YtaeglelhoenfgaaW.PrintWords Go.Proofs.YtaeglelhoenfgaaW.PrintMore Go.Proofs.Ytaeglelhoenfgaa.Plain Go.Proofs.Ytaeglelhoenfgaa.PFwd
def W37 (s : S37) : Prop := U s.f1 ∧ U s.f2
def W48 (s : S48) : Prop := U s.f0 ∧ U s.f1
theorem awake_is (k : Nat) : cotterellaw34_awake.f k = some true := by
  unfold cotterellaw34_awake.f
  simp only [Option.bind_some]
  rfl
def Sz (n : Int) : Prop := n = 1 ∨ n = 2 ∨ n = 4
theorem size_is (n : Int) : (cotterelref34_Size.f n = some true ∧ Sz n) ∨ cotterelref34_Size.f n = some false := by
  unfold cotterelref34_Size.f Sz
  by_cases h1 : n = 1
  · left; simp [h1]
  · by_cases h2 : n = 2
    · left; simp [h2]
    · by_cases h4 : n = 4
      · left; simp [h4]
      · right; simp [h1, h2, h4]
theorem fr_sz {n : Int} (h : Sz n) : fr n = n := by
  rcases h with rfl | rfl | rfl <;> decide
theorem ov_sz {a b n m : Int} (ha : U a) (hb : U b) (hn : Sz n) (hm : Sz m) : ovB a n b m = decide (a < b + m ∧ b < a + n) := by
  rw [ov_nat ha hb, fr_sz hn, fr_sz hm]
  congr 1
  unfold mx mn
  rw [eq_iff_iff]
  rcases hn with rfl | rfl | rfl <;> rcases hm with rfl | rfl | rfl <;> (repeat' split) <;> omega
theorem cov_sz {a b n m : Int} (ha : U a) (hb : U b) (hn : Sz n) (hm : Sz m) : covB a n b m = decide (b ≤ a ∧ a + n ≤ b + m) := by
  obtain ⟨h0, h1⟩ := ha
  obtain ⟨h2, h3⟩ := hb
  have e : ∀ x : Int, 0 ≤ x → x < 8589934592 → IntKind.u64.wrap x = x := fun x g0 g1 => by rw [wrap_u64]; omega
  have gn : 1 ≤ n ∧ n ≤ 4 := by rcases hn with rfl | rfl | rfl <;> omega
  have gm : 1 ≤ m ∧ m ≤ 4 := by rcases hm with rfl | rfl | rfl <;> omega
  unfold covB
  by_cases c : b > a
  · rw [dif_pos (by omega)]; simp; omega
  · rw [dif_neg (by omega), e a (by omega) (by omega), e b (by omega) (by omega), e n (by omega) (by omega), e m (by omega) (by omega), e (b + m) (by omega) (by omega), e (a + n) (by omega) (by omega)]
    congr 1
    rw [eq_iff_iff]
    omega
theorem memory_loop (p q r : Int) : ∀ (d z : Nat) (x : List Int), z + d = 128 → x.length = 128 → ∃ M : List Int, M.length = 128 ∧ Ev (fun k => cotterellaw34_memory.l0 k x (z : Int) p q r) M := by
  intro d
  induction d with
  | zero =>
    intro z x hz hx
    exact ⟨x, hx, Ev.step (f := fun _ => some x) (fun k => by simp only [cotterellaw34_memory.l0]; rw [if_neg (by omega)]) (Ev.now _)⟩
  | succ d ih =>
    intro z x hz hx
    obtain ⟨M, hM, hE⟩ := ih (z + 1) (x.set z ((IntKind.u64.wrap ((IntKind.u64.wrap ((IntKind.u64.wrap ((IntKind.u64.wrap ((z : Int))) * 37)) + p)) + (IntKind.u64.wrap (q)))) % 256)) (by omega) (by simp [hx])
    refine ⟨M, hM, Ev.step (f := fun k => cotterellaw34_memory.l0 k (x.set z ((IntKind.u64.wrap ((IntKind.u64.wrap ((IntKind.u64.wrap ((IntKind.u64.wrap ((z : Int))) * 37)) + p)) + (IntKind.u64.wrap (q)))) % 256)) (((z + 1 : Nat)) : Int) p q r) (fun k => ?_) hE⟩
    simp only [cotterellaw34_memory.l0]
    rw [if_pos (by omega), if_pos (by omega), wrap64_small (by omega) (by omega), Int.toNat_natCast]
    rfl
theorem memory_is (p q r : Int) : ∃ M : List Int, M.length = 128 ∧ Ev (fun k => cotterellaw34_memory.f k p q r) M := by
  obtain ⟨M, hM, hE⟩ := memory_loop p q r 128 0 (List.replicate 128 0) (by omega) (by simp)
  refine ⟨M, hM, ?_⟩
  unfold cotterellaw34_memory.f
  exact yes (by decide) hE
/-- A store that is plain: 1, 2 or 4 bytes, aligned. -/
def PX (x : SX) : Prop := U x.a ∧ U x.d ∧ Sz x.n ∧ x.a + x.n ≤ 4294967296
theorem px_of {a n : Int} (ha : U a) (hn : Sz n) (h : Int.tmod a (n % 4294967296) = 0) : a + n ≤ 4294967296 := by
  rw [Int.tmod_eq_emod_of_nonneg ha.1] at h
  obtain ⟨h0, h1⟩ := ha
  rcases hn with rfl | rfl | rfl <;> simp only [show (1 : Int) % 4294967296 = 1 by decide, show (2 : Int) % 4294967296 = 2 by decide, show (4 : Int) % 4294967296 = 4 by decide] at h <;> omega
/-- What is asked of the result of a search. -/
def Good (a n : Int) (l : List SX) (r : Int × Int × Int) : Prop :=
  (r.1 = 1 ∧ 0 ≤ r.2.1 ∧ r.2.1 < 2 ^ (8 * n).toNat ∧ ∀ i : Int, 0 ≤ i → i < n → ∀ v, r.2.1 / 2 ^ (8 * i).toNat % 256 = byteX (a + i) v l) ∨
  (r.1 = 0 ∧ r.2.1 = 0 ∧ ∀ i : Int, 0 ≤ i → i < n → ∀ v, byteX (a + i) v l = v) ∨ r.1 = 2
theorem cut_is' {d b a n : Int} (hd : U d) (hn : Sz n) (h0 : b ≤ a) (h1 : a - b ≤ 3) : cutW d b a n = d / 2 ^ (8 * (a - b)).toNat % 2 ^ (8 * n).toNat := by
  unfold cutW
  have e : (a - b) % 4294967296 = a - b := by omega
  rw [e, if_neg (by omega)]
  unfold cutV
  have e2 : mn (mx n 0) 4 = n := fr_sz hn
  rw [e2]
  obtain ⟨hd0, hd1⟩ := hd
  have hp : (0 : Int) < 2 ^ (8 * (a - b)).toNat := Int.pow_pos (by decide)
  have hz0 : 0 ≤ d / 2 ^ (8 * (a - b)).toNat := Int.ediv_nonneg hd0 (Int.le_of_lt hp)
  have hz1 : d / 2 ^ (8 * (a - b)).toNat < 4294967296 := Int.lt_of_le_of_lt (Int.ediv_le_self _ hd0) hd1
  obtain ⟨z, hz⟩ := nat_of hz0
  rw [hz] at hz0 hz1 ⊢
  obtain ⟨t, ht, ht2⟩ : ∃ t : Nat, (8 * n).toNat = t ∧ t ≤ 32 := ⟨_, rfl, by rcases hn with rfl | rfl | rfl <;> decide⟩
  rw [ht]
  have hq := Nat.two_pow_pos t
  have hq2 : 2 ^ t ≤ 2 ^ 32 := Nat.pow_le_pow_right (by decide) ht2
  rw [wrap_u64, show ((2 : Int) ^ t - 1) = ((2 ^ t - 1 : Nat) : Int) by rw [Int.ofNat_sub (by omega)]; simp, show ((z : Int) % 18446744073709551616) = ((z : Nat) : Int) by omega, and64 _ _ (by omega) (by omega), Nat.and_two_pow_sub_one_eq_mod]
  have := Nat.mod_le z (2 ^ t)
  rw [show ((2 : Int) ^ t) = ((2 ^ t : Nat) : Int) by simp, show ((z : Nat) : Int) % ((2 ^ t : Nat) : Int) = ((z % 2 ^ t : Nat) : Int) by simp]
  omega
theorem byte_cut {d y n i : Int} (hn : Sz n) (hy : 0 ≤ y) (h0 : 0 ≤ i) (h1 : i < n) : d / 2 ^ (8 * y).toNat % 2 ^ (8 * n).toNat / 2 ^ (8 * i).toNat % 256 = d / 2 ^ (8 * (y + i)).toNat % 256 := by
  have hp : (0 : Int) ≤ 2 ^ (8 * y).toNat := Int.le_of_lt (Int.pow_pos (by decide))
  have e : (2 : Int) ^ (8 * (y + i)).toNat = 2 ^ (8 * y).toNat * 2 ^ (8 * i).toNat := by rw [← Int.pow_add, show (8 * (y + i)).toNat = (8 * y).toNat + (8 * i).toNat by omega]
  rw [e, ← Int.ediv_ediv_of_nonneg hp]
  generalize d / 2 ^ (8 * y).toNat = X
  rcases hn with rfl | rfl | rfl
  · obtain rfl : i = 0 := by omega
    show X % 256 / 1 % 256 = X / 1 % 256
    omega
  · rcases (show i = 0 ∨ i = 1 by omega) with rfl | rfl
    · show X % 65536 / 1 % 256 = X / 1 % 256
      omega
    · show X % 65536 / 256 % 256 = X / 256 % 256
      omega
  · rcases (show i = 0 ∨ i = 1 ∨ i = 2 ∨ i = 3 by omega) with rfl | rfl | rfl | rfl
    · show X % 4294967296 / 1 % 256 = X / 1 % 256
      omega
    · show X % 4294967296 / 256 % 256 = X / 256 % 256
      omega
    · show X % 4294967296 / 65536 % 256 = X / 65536 % 256
      omega
    · show X % 4294967296 / 16777216 % 256 = X / 16777216 % 256
      omega
theorem good {a n : Int} (h0 : 0 ≤ a) (h1 : a ≤ 124) (hn : Sz n) : ∀ l : List SX, (∀ x ∈ l, PX x) → Good a n l (findX a n l)
  | [], _ => Or.inr (Or.inl ⟨rfl, rfl, fun _ _ _ _ => rfl⟩)
  | x :: r, h => by
    obtain ⟨⟨hx0, hx1⟩, hd, hm, hal⟩ := h x (List.mem_cons_self ..)
    have ih := good h0 h1 hn r fun y hy => h y (List.mem_cons_of_mem _ hy)
    have gn : 1 ≤ n ∧ n ≤ 4 := by rcases hn with rfl | rfl | rfl <;> omega
    have gm : 1 ≤ x.n ∧ x.n ≤ 4 := by rcases hm with e | e | e <;> omega
    have hf : mn (mx x.n 0) 4 = x.n := fr_sz hm
    have hby : ∀ i : Int, 0 ≤ i → i < n → byB (a + i) x = decide (x.a ≤ a + i ∧ a + i < x.a + x.n) := fun i q0 q1 => by
      unfold byB
      rw [hf]
      congr 1
      rw [eq_iff_iff]
      omega
    have ho := ov_sz (a := a) (b := x.a) (n := n) (m := x.n) ⟨h0, by omega⟩ ⟨hx0, hx1⟩ hn hm
    have hc := cov_sz (a := a) (b := x.a) (n := n) (m := x.n) ⟨h0, by omega⟩ ⟨hx0, hx1⟩ hn hm
    have bc : ∀ i v, byteX (a + i) v (x :: r) = if byB (a + i) x = true then byV (a + i) x else byteX (a + i) v r := fun _ _ => rfl
    show Good a n (x :: r) (if ovB a n x.a x.n = true then hitX a n x else findX a n r)
    by_cases c : a < x.a + x.n ∧ x.a < a + n
    · rw [ho, decide_eq_true c, if_pos rfl]
      unfold hitX
      by_cases c2 : x.a ≤ a ∧ a + n ≤ x.a + x.n
      · rw [hc, decide_eq_true c2, if_pos rfl]
        left
        refine ⟨rfl, ?_⟩
        show 0 ≤ cutW x.d x.a a n ∧ cutW x.d x.a a n < _ ∧ _
        have hp : (0 : Int) < 2 ^ (8 * n).toNat := Int.pow_pos (by decide)
        rw [cut_is' hd hn c2.1 (by omega)]
        refine ⟨Int.emod_nonneg _ (by omega), Int.emod_lt_of_pos _ hp, fun i q0 q1 v => ?_⟩
        rw [bc, hby i q0 q1, decide_eq_true (show x.a ≤ a + i ∧ a + i < x.a + x.n by omega), if_pos rfl]
        show x.d / 2 ^ (8 * (a - x.a)).toNat % 2 ^ (8 * n).toNat / 2 ^ (8 * i).toNat % 256 = byV (a + i) x
        rw [byte_cut hn (by omega) q0 q1]
        unfold byV
        rw [show (a + i - x.a) % 4294967296 = a - x.a + i by omega]
      · rw [hc, decide_eq_false c2]
        exact Or.inr (Or.inr rfl)
    · rw [ho, decide_eq_false c, if_neg (by decide)]
      have hb : ∀ i : Int, 0 ≤ i → i < n → ∀ v, byteX (a + i) v (x :: r) = byteX (a + i) v r := fun i q0 q1 v => by
        rw [bc, hby i q0 q1, decide_eq_false (show ¬ (x.a ≤ a + i ∧ a + i < x.a + x.n) by omega), if_neg (by decide)]
      rcases ih with ⟨e1, e2, e3, e4⟩ | ⟨e1, e2, e3⟩ | e1
      · exact Or.inl ⟨e1, e2, e3, fun i q0 q1 v => by rw [e4 i q0 q1 v, hb i q0 q1 v]⟩
      · exact Or.inr (Or.inl ⟨e1, e2, fun i q0 q1 v => by rw [hb i q0 q1 v]; exact e3 i q0 q1 v⟩)
      · exact Or.inr (Or.inr e1)
/-! The guard: all stores are plain, or the law asks nothing. -/
def P37 (s : S37) : Prop := Sz s.f3 ∧ Int.tmod s.f1 (s.f3 % 4294967296) = 0
def P48 (s : S48) : Prop := Sz s.f2 ∧ Int.tmod s.f0 (s.f2 % 4294967296) = 0
theorem getD_at {α : Type} (l : List α) (d : α) {z : Nat} (h1 : z < l.length) : l.drop z = l.getD z d :: l.drop (z + 1) := by
  rw [List.getD_eq_getElem?_getD, List.getElem?_eq_getElem h1]
  exact List.drop_eq_getElem_cons h1
theorem sz_ne {n : Int} (h : Sz n) : ¬ n % 4294967296 = 0 := by rcases h with rfl | rfl | rfl <;> decide
theorem plain_l1 (b : List S48) (hl : (b.length : Int) ≤ 9223372036854775807) : ∀ (d z : Nat), z + d = b.length → ∃ t, Ev (fun k => cotterelref34_Plain.l1 k b (z : Int)) t ∧ (t = true → ∀ s ∈ b.drop z, P48 s) := by
  intro d
  induction d with
  | zero =>
    intro z hz
    refine ⟨true, Ev.step (f := fun _ => some true) (fun k => by simp only [cotterelref34_Plain.l1]; rw [if_neg (by omega)]) (Ev.now _), fun _ s hs => ?_⟩
    rw [List.drop_eq_nil_of_le (by omega)] at hs
    cases hs
  | succ d ih =>
    intro z hz
    obtain ⟨s, es⟩ : ∃ s, rd_T48 b (z : Int) = s := ⟨_, rfl⟩
    have hd : b.drop z = s :: b.drop (z + 1) := by rw [getD_at b z48 (by omega), ← es]; rfl
    have st : ∀ k, cotterelref34_Plain.l1 (k + 1) b (z : Int) = (cotterelref34_Size.f s.f2).bind fun t => if t = true then (if s.f2 % 4294967296 = 0 then none else (if Int.tmod s.f0 (s.f2 % 4294967296) = 0 then cotterelref34_Plain.l1 k b ((z + 1 : Nat) : Int) else some false)) else some false := fun k => by
      simp only [cotterelref34_Plain.l1]
      rw [if_pos (by omega), if_pos (by omega), es, wrap64_small (by omega) (by omega)]
      rfl
    rcases size_is s.f2 with ⟨e, hs⟩ | e
    · by_cases c : Int.tmod s.f0 (s.f2 % 4294967296) = 0
      · obtain ⟨t, hE, ht⟩ := ih (z + 1) (by omega)
        refine ⟨t, Ev.step st ?_, fun q x hx => ?_⟩
        · rw [e]; exact Ev.bind (a := true) (Ev.now _) (yes rfl (no (sz_ne hs) (yes c hE)))
        · rw [hd] at hx
          rcases List.mem_cons.1 hx with rfl | hx
          · exact ⟨hs, c⟩
          · exact ht q x hx
      · refine ⟨false, Ev.step st ?_, fun q => by cases q⟩
        rw [e]; exact Ev.bind (a := true) (Ev.now _) (yes rfl (no (sz_ne hs) (no c (Ev.now _))))
    · refine ⟨false, Ev.step st ?_, fun q => by cases q⟩
      rw [e]; exact Ev.bind (a := false) (Ev.now _) (no (by decide) (Ev.now _))
theorem plain_l0 (l : List S37) (b : List S48) (hl : (l.length : Int) ≤ 9223372036854775807) (hb : (b.length : Int) ≤ 9223372036854775807) : ∀ (d z : Nat), z + d = l.length → ∃ t, Ev (fun k => cotterelref34_Plain.l0 k l b (z : Int)) t ∧ (t = true → (∀ s ∈ l.drop z, P37 s) ∧ ∀ s ∈ b, P48 s) := by
  intro d
  induction d with
  | zero =>
    intro z hz
    obtain ⟨t, hE, ht⟩ := plain_l1 b hb b.length 0 (by omega)
    refine ⟨t, Ev.step (f := fun k => cotterelref34_Plain.l1 k b ((0 : Nat) : Int)) (fun k => by simp only [cotterelref34_Plain.l0]; rw [if_neg (by omega)]; rfl) hE, fun q => ⟨fun s hs => ?_, ht q⟩⟩
    rw [List.drop_eq_nil_of_le (by omega)] at hs
    cases hs
  | succ d ih =>
    intro z hz
    obtain ⟨s, es⟩ : ∃ s, rd_T37 l (z : Int) = s := ⟨_, rfl⟩
    have hd : l.drop z = s :: l.drop (z + 1) := by rw [getD_at l z37 (by omega), ← es]; rfl
    have st : ∀ k, cotterelref34_Plain.l0 (k + 1) l b (z : Int) = (cotterelref34_Size.f s.f3).bind fun t => if t = true then (if s.f3 % 4294967296 = 0 then none else (if Int.tmod s.f1 (s.f3 % 4294967296) = 0 then cotterelref34_Plain.l0 k l b ((z + 1 : Nat) : Int) else some false)) else some false := fun k => by
      simp only [cotterelref34_Plain.l0]
      rw [if_pos (by omega), if_pos (by omega), es, wrap64_small (by omega) (by omega)]
      rfl
    rcases size_is s.f3 with ⟨e, hs⟩ | e
    · by_cases c : Int.tmod s.f1 (s.f3 % 4294967296) = 0
      · obtain ⟨t, hE, ht⟩ := ih (z + 1) (by omega)
        refine ⟨t, Ev.step st ?_, fun q => ⟨fun x hx => ?_, (ht q).2⟩⟩
        · rw [e]; exact Ev.bind (a := true) (Ev.now _) (yes rfl (no (sz_ne hs) (yes c hE)))
        · rw [hd] at hx
          rcases List.mem_cons.1 hx with rfl | hx
          · exact ⟨hs, c⟩
          · exact (ht q).1 x hx
      · refine ⟨false, Ev.step st ?_, fun q => by cases q⟩
        rw [e]; exact Ev.bind (a := true) (Ev.now _) (yes rfl (no (sz_ne hs) (no c (Ev.now _))))
    · refine ⟨false, Ev.step st ?_, fun q => by cases q⟩
      rw [e]; exact Ev.bind (a := false) (Ev.now _) (no (by decide) (Ev.now _))
theorem old_px {l : List S37} {b : List S48} (hw : ∀ s ∈ l, W37 s) (hb : ∀ s ∈ b, W48 s) (gl : ∀ s ∈ l, P37 s) (gb : ∀ s ∈ b, P48 s) (q : Int) : ∀ x ∈ old q l b, PX x := by
  intro x hx
  unfold old sqs at hx
  rcases List.mem_append.1 hx with h | h
  · obtain ⟨s, hs, rfl⟩ := List.mem_map.1 h
    have hs' : s ∈ l := List.mem_reverse.1 (List.mem_filter.1 hs).1
    exact ⟨(hw s hs').1, (hw s hs').2, (gl s hs').1, px_of (hw s hs').1 (gl s hs').1 (gl s hs').2⟩
  · obtain ⟨s, hs, rfl⟩ := List.mem_map.1 h
    have hs' : s ∈ b := List.mem_reverse.1 hs
    exact ⟨(hb s hs').1, (hb s hs').2, (gb s hs').1, px_of (hb s hs').1 (gb s hs').1 (gb s hs').2⟩
theorem shr_is {v : Int} {j : Int} (h0 : 0 ≤ j) (h1 : j ≤ 32) : shr .u32 v j = v / 2 ^ j.toNat := by
  unfold shr
  rw [show min j.toNat (IntKind.bits .u32) = j.toNat from Nat.min_eq_left (by show j.toNat ≤ 32; omega)]
theorem aw (g : Nat → Option Bool) (hg : ∀ k, g k = (cotterellaw34_awake.f k).bind fun t => some t) : Ev g true := Ev.congr (fun k => (hg k).trans (by rw [awake_is]; rfl)) (Ev.now true)
/-- The law's loop, from z on. -/
theorem right_loop (M : List Int) (hM : M.length = 128) (l : List SX) (q a n : Int) (h0 : 0 ≤ a) (h1 : a ≤ 124) (hn : Sz n) (r : Int × Int × Int) (hr : Good a n l r) (want : List Int) (hwl : (want.length : Int) = n) (hw : ∀ i : Int, 0 ≤ i → i < n → rd want i = byteX (a + i) (rd M (a + i)) l) : ∀ (d : Nat) (z : Int), 0 ≤ z → z ≤ n → (n - z).toNat = d →
    Ev (fun k => cotterellaw34_FwdRight.l0 k M r.1 r.2.1 want z q a n) true := by
  have gn : 1 ≤ n ∧ n ≤ 4 := by rcases hn with rfl | rfl | rfl <;> omega
  intro d
  induction d with
  | zero =>
    intro z z0 z1 hd
    obtain rfl : z = n := by omega
    rcases hr with ⟨e1, e2, e3, e4⟩ | ⟨e1, e2, e3⟩ | e1
    · refine Ev.step (f := fun k => if z = 4 then ((cotterellaw34_awake.f k).bind fun t => some t) else (if 0 ≤ 8 * z then (if shr .u32 r.2.1 (8 * z) = 0 then ((cotterellaw34_awake.f k).bind fun t => some t) else some false) else none)) (fun k => ?_) ?_
      · simp only [cotterellaw34_FwdRight.l0]
        rw [if_neg (by omega), e1, if_pos rfl, wrap64_small (by omega) (by omega)]
      · by_cases c : z = 4
        · exact yes c (aw _ fun _ => rfl)
        · refine no c (yes (by omega) (yes ?_ (aw _ fun _ => rfl)))
          rw [shr_is (by omega) (by omega)]
          exact Int.ediv_eq_zero_of_lt e2 e3
    · refine Ev.step (f := fun k => (cotterellaw34_awake.f k).bind fun t => some t) (fun k => ?_) (aw _ fun _ => rfl)
      simp only [cotterellaw34_FwdRight.l0]
      rw [if_neg (by omega), e1, if_neg (by decide)]
    · refine Ev.step (f := fun k => (cotterellaw34_awake.f k).bind fun t => some t) (fun k => ?_) (aw _ fun _ => rfl)
      simp only [cotterellaw34_FwdRight.l0]
      rw [if_neg (by omega), e1, if_neg (by decide)]
  | succ d ih =>
    intro z z0 z1 hd
    have hz : z < n := by omega
    have hn' := ih (z + 1) (by omega) (by omega) (by omega)
    have w1 : wrap64 (z + 1) = z + 1 := wrap64_small (by omega) (by omega)
    have w2 : wrap64 (8 * z) = 8 * z := wrap64_small (by omega) (by omega)
    have w3 : wrap64 (wrap64 a + z) = a + z := by rw [wrap64_small (x := a) (by omega) (by omega)]; exact wrap64_small (by omega) (by omega)
    rcases hr with ⟨e1, e2, e3, e4⟩ | ⟨e1, e2, e3⟩ | e1
    · refine Ev.step (f := fun k => cotterellaw34_FwdRight.l0 k M r.1 r.2.1 want (z + 1) q a n) (fun k => ?_) hn'
      have hv : shr .u32 r.2.1 (8 * z) % 256 = rd want z := by rw [shr_is (by omega) (by omega), hw z z0 hz]; exact e4 z z0 hz _
      simp only [cotterellaw34_FwdRight.l0]
      rw [e1, if_pos hz, if_pos rfl, w2, if_pos (show 0 ≤ 8 * z by omega), if_pos z0, if_pos (show z < (want.length : Int) by omega), if_pos hv, if_neg (show ¬ (1 : Int) = 0 by decide), w1]
    · refine Ev.step (f := fun k => cotterellaw34_FwdRight.l0 k M r.1 r.2.1 want (z + 1) q a n) (fun k => ?_) hn'
      have hv : rd M (a + z) = rd want z := by rw [hw z z0 hz]; exact (e3 z z0 hz _).symm
      simp only [cotterellaw34_FwdRight.l0]
      rw [e1, if_pos hz, if_neg (show ¬ (0 : Int) = 1 by decide), if_pos rfl, w3, if_pos (show 0 ≤ a + z by omega), if_pos (show a + z < (M.length : Int) by omega), if_pos z0, if_pos (show z < (want.length : Int) by omega), if_pos hv, if_pos e2, w1]
    · refine Ev.step (f := fun k => cotterellaw34_FwdRight.l0 k M r.1 r.2.1 want (z + 1) q a n) (fun k => ?_) hn'
      simp only [cotterellaw34_FwdRight.l0]
      rw [e1, if_pos hz, if_neg (show ¬ (2 : Int) = 1 by decide), if_neg (show ¬ (2 : Int) = 0 by decide), w1]
theorem right_pure (l : List S37) (b : List S48) (hw : ∀ s ∈ l, W37 s) (hb : ∀ s ∈ b, W48 s) (q a n : Int) (ha : U a) : ∃ k, cotterellaw34_FwdRight.f k l b q a n = some true := by
  refine Ev.rounds ?_
  have out : Ev (fun k => cotterellaw34_FwdRight.j0 k l b true q a n) true :=
    Ev.step (f := fun k => (cotterellaw34_awake.f k).bind fun t => some t) (fun k => by simp only [cotterellaw34_FwdRight.j0, if_true]) (aw _ fun _ => rfl)
  unfold cotterellaw34_FwdRight.f
  by_cases c0 : (l.length : Int) > 40
  · exact yes c0 out
  · refine no c0 ?_
    by_cases c1 : (b.length : Int) > 40
    · exact yes c1 out
    · refine no c1 ?_
      rcases size_is n with ⟨e, hn⟩ | e
      · rw [e]
        refine Ev.bind (a := true) (Ev.now _) (yes rfl ?_)
        by_cases c2 : a > 124
        · exact yes c2 out
        · refine no c2 ?_
          obtain ⟨t, hE, ht⟩ := plain_l0 l b (by omega) (by omega) l.length 0 (by omega)
          refine Ev.bind (a := t) hE ?_
          cases t with
          | false => exact out
          | true =>
            obtain ⟨gl, gb⟩ := ht rfl
            obtain ⟨M, hM, hME⟩ := memory_is q a n
            have gn : 1 ≤ n ∧ n ≤ 4 := by rcases hn with rfl | rfl | rfl <;> omega
            have hG := good ha.1 (by omega) hn (old q l b) (old_px hw hb gl gb q)
            have hfn : mn (mx n 0) 4 = n := fr_sz hn
            have hlen : ((bytesX l b M q a n.toNat).length : Int) = n := by simp [bytesX]; omega
            refine Ev.step (f := fun k => (cotterellaw34_memory.f k q a n).bind fun m => (fwd_Find.f k l b q a n).bind fun x => (fwd_Bytes.f k l b m q a n).bind fun y => if (y.length : Int) = n then cotterellaw34_FwdRight.l0 k m x.1 x.2.1 y 0 q a n else some false) (fun k => by simp only [cotterellaw34_FwdRight.j0]; rfl) ?_
            refine Ev.bind hME (Ev.bind (a := findX a n (old q l b)) (Ev.now _) (Ev.bind (a := bytesX l b M q a n.toNat) (by unfold fwd_Bytes.f; rw [hfn]; exact Ev.now _) (yes hlen ?_)))
            refine right_loop M hM (old q l b) q a n ha.1 (by omega) hn _ hG _ hlen (fun i q0 q1 => ?_) n.toNat 0 (by omega) (by omega) (by omega)
            have hi : i.toNat < n.toNat := by omega
            have ha0 := ha.1
            unfold rd bytesX
            rw [List.getD_eq_getElem?_getD, List.getElem?_map, List.getElem?_range hi]
            show byteX ((a + (i.toNat : Int)) % 4294967296) (memX M ((a + (i.toNat : Int)) % 4294967296)) (old q l b) = _
            rw [show (a + (i.toNat : Int)) % 4294967296 = a + i by omega]
            unfold memX
            rw [if_pos (by omega)]
            rfl
      · rw [e]
        exact Ev.bind (a := false) (Ev.now _) (no (by decide) out)
end Go.Proofs.Ytaeglelhoenfgaa.PFwd.Right
