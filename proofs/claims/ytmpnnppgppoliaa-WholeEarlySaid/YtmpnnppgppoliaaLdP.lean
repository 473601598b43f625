/- The plain law of loads: what a load has of the newest stores is what all stores left in memory. Plain lemmas, no program. The conditions are those that each names. -/
import Derived.Test.YtmpnnppgppoliaaLdJ
namespace Go.Proofs.Ytmpnnppgppoliaa.Ld
set_option linter.unusedVariables false
set_option linter.unusedSimpArgs false
open Go Go.Proofs Go.RowKit Go.Proofs.YtmpnnppgppoliaaW.PrintWords Go.Proofs.YtmpnnppgppoliaaW.PrintMore Go.Proofs.Ytmpnnppgppoliaa.Plain Go.Proofs.Ytmpnnppgppoliaa.PFwd
def U (x : Int) : Prop := 0 ≤ x ∧ x < 4294967296
def Sz (n : Int) : Prop := n = 1 ∨ n = 2 ∨ n = 4
theorem mnx {n : Int} (h : Sz n) : mn (mx n 0) 4 = n := by rcases h with rfl | rfl | rfl <;> decide
theorem ov_sz {a b n m : Int} (ha : U a) (hb : U b) (hn : Sz n) (hm : Sz m) : ovB a n b m = decide (a < b + m ∧ b < a + n) := by
  obtain ⟨h3, h4⟩ := ha
  obtain ⟨h5, h6⟩ := hb
  have gn : 1 ≤ n ∧ n ≤ 4 := by rcases hn with rfl | rfl | rfl <;> omega
  have gm : 1 ≤ m ∧ m ≤ 4 := by rcases hm with rfl | rfl | rfl <;> omega
  unfold ovB
  rw [mnx hn, mnx hm]
  simp only [wrap_u64]
  rw [show a % 18446744073709551616 = a by omega, show b % 18446744073709551616 = b by omega, show (a + n) % 18446744073709551616 = a + n by omega, show (b + m) % 18446744073709551616 = b + m by omega]
  congr 1
  unfold mx mn
  rw [eq_iff_iff]
  (repeat' split) <;> omega
theorem cov_sz {a b n m : Int} (ha : U a) (hb : U b) (hn : Sz n) (hm : Sz m) : covB a n b m = decide (b ≤ a ∧ a + n ≤ b + m) := by
  obtain ⟨h0, h1⟩ := ha
  obtain ⟨h2, h3⟩ := hb
  have e : ∀ x : Int, 0 ≤ x → x < 8589934592 → IntKind.u64.wrap x = x := fun x g0 g1 => by rw [wrap_u64]; omega
  have gn : 1 ≤ n ∧ n ≤ 4 := by rcases hn with rfl | rfl | rfl <;> omega
  have gm : 1 ≤ m ∧ m ≤ 4 := by rcases hm with rfl | rfl | rfl <;> omega
  unfold covB
  by_cases c : b > a
  · rw [dif_pos (by omega)]; simp; omega
  · rw [dif_neg (by omega), e a (by omega) (by omega), e b (by omega) (by omega), e n (by omega) (by omega), e m (by omega) (by omega), e (b + m) (by omega) (by omega), e (a + n) (by omega) (by omega)]
    congr 1
    rw [eq_iff_iff]
    omega
theorem cut_is' {d b a n : Int} (hd : U d) (hn : Sz n) (h0 : b ≤ a) (h1 : a - b ≤ 3) : cutW d b a n = d / 2 ^ (8 * (a - b)).toNat % 2 ^ (8 * n).toNat := by
  unfold cutW
  have e : (a - b) % 4294967296 = a - b := by omega
  rw [e, if_neg (by omega)]
  unfold cutV
  rw [mnx hn]
  obtain ⟨hd0, hd1⟩ := hd
  have hp : (0 : Int) < 2 ^ (8 * (a - b)).toNat := Int.pow_pos (by decide)
  have hz0 : 0 ≤ d / 2 ^ (8 * (a - b)).toNat := Int.ediv_nonneg hd0 (Int.le_of_lt hp)
  have hz1 : d / 2 ^ (8 * (a - b)).toNat < 4294967296 := Int.lt_of_le_of_lt (Int.ediv_le_self _ hd0) hd1
  obtain ⟨z, hz⟩ := nat_of hz0
  rw [hz] at hz0 hz1 ⊢
  obtain ⟨t, ht, ht2⟩ : ∃ t : Nat, (8 * n).toNat = t ∧ t ≤ 32 := ⟨_, rfl, by rcases hn with rfl | rfl | rfl <;> decide⟩
  rw [ht]
  have hq := Nat.two_pow_pos t
  have hq2 : 2 ^ t ≤ 2 ^ 32 := Nat.pow_le_pow_right (by decide) ht2
  rw [wrap_u64, show ((2 : Int) ^ t - 1) = ((2 ^ t - 1 : Nat) : Int) by rw [Int.ofNat_sub (by omega)]; simp, show ((z : Int) % 18446744073709551616) = ((z : Nat) : Int) by omega, and64 _ _ (by omega) (by omega), Nat.and_two_pow_sub_one_eq_mod]
  have := Nat.mod_le z (2 ^ t)
  rw [show ((2 : Int) ^ t) = ((2 ^ t : Nat) : Int) by simp, show ((z : Nat) : Int) % ((2 ^ t : Nat) : Int) = ((z % 2 ^ t : Nat) : Int) by simp]
  omega
theorem byte_cut {d y n i : Int} (hn : Sz n) (hy : 0 ≤ y) (h0 : 0 ≤ i) (h1 : i < n) : d / 2 ^ (8 * y).toNat % 2 ^ (8 * n).toNat / 2 ^ (8 * i).toNat % 256 = d / 2 ^ (8 * (y + i)).toNat % 256 := by
  have hp : (0 : Int) ≤ 2 ^ (8 * y).toNat := Int.le_of_lt (Int.pow_pos (by decide))
  have e : (2 : Int) ^ (8 * (y + i)).toNat = 2 ^ (8 * y).toNat * 2 ^ (8 * i).toNat := by rw [← Int.pow_add, show (8 * (y + i)).toNat = (8 * y).toNat + (8 * i).toNat by omega]
  rw [e, ← Int.ediv_ediv_of_nonneg hp]
  generalize d / 2 ^ (8 * y).toNat = X
  rcases hn with rfl | rfl | rfl
  · obtain rfl : i = 0 := by omega
    show X % 256 / 1 % 256 = X / 1 % 256
    omega
  · rcases (show i = 0 ∨ i = 1 by omega) with rfl | rfl
    · show X % 65536 / 1 % 256 = X / 1 % 256
      omega
    · show X % 65536 / 256 % 256 = X / 256 % 256
      omega
  · rcases (show i = 0 ∨ i = 1 ∨ i = 2 ∨ i = 3 by omega) with rfl | rfl | rfl | rfl
    · show X % 4294967296 / 1 % 256 = X / 1 % 256
      omega
    · show X % 4294967296 / 256 % 256 = X / 256 % 256
      omega
    · show X % 4294967296 / 65536 % 256 = X / 65536 % 256
      omega
    · show X % 4294967296 / 16777216 % 256 = X / 16777216 % 256
      omega
/-- A store that is plain. -/
def PX (x : SX) : Prop := Okm 64 x.a x.n ∧ U x.d
/-- The byte at a place behind stores, the newest first. -/
def byN (j v : Int) : List SX → Int
  | [] => v
  | x :: r => if x.a ≤ j ∧ j < x.a + x.n then x.d / 2 ^ (8 * (j - x.a)).toNat % 256 else byN j v r
def Good (a n : Int) (l : List SX) (r : Int × Int × Int) : Prop :=
  (r.1 = 1 ∧ 0 ≤ r.2.1 ∧ r.2.1 < 2 ^ (8 * n).toNat ∧ ∀ i : Int, 0 ≤ i → i < n → ∀ v, r.2.1 / 2 ^ (8 * i).toNat % 256 = byN (a + i) v l) ∨
  (r.1 = 0 ∧ ∀ i : Int, 0 ≤ i → i < n → ∀ v, byN (a + i) v l = v) ∨ r.1 = 2
theorem good {a n : Int} (ho : Okm 64 a n) : ∀ l : List SX, (∀ x ∈ l, PX x) → Good a n l (findX a n l)
  | [], _ => Or.inr (Or.inl ⟨rfl, fun _ _ _ _ => rfl⟩)
  | x :: r, h => by
    obtain ⟨hn, h0, h1, _⟩ := ho
    obtain ⟨⟨hm, hx0, hx1, _⟩, hd⟩ := h x (List.mem_cons_self ..)
    have ih := good ⟨hn, h0, h1, by omega⟩ r fun y hy => h y (List.mem_cons_of_mem _ hy)
    have hn' : Sz n := hn
    have hm' : Sz x.n := hm
    have gn : 1 ≤ n ∧ n ≤ 4 := by omega
    have gm : 1 ≤ x.n ∧ x.n ≤ 4 := by omega
    have ua : U a := ⟨h0, by omega⟩
    have ux : U x.a := ⟨hx0, by omega⟩
    have hov := ov_sz ua ux hn' hm'
    have hc := cov_sz ua ux hn' hm'
    have bc : ∀ j v, byN j v (x :: r) = if x.a ≤ j ∧ j < x.a + x.n then x.d / 2 ^ (8 * (j - x.a)).toNat % 256 else byN j v r := fun _ _ => rfl
    show Good a n (x :: r) (if ovB a n x.a x.n = true then hitX a n x else findX a n r)
    by_cases c : a < x.a + x.n ∧ x.a < a + n
    · rw [hov, decide_eq_true c, if_pos rfl]
      unfold hitX
      by_cases c2 : x.a ≤ a ∧ a + n ≤ x.a + x.n
      · rw [hc, decide_eq_true c2, if_pos rfl]
        left
        refine ⟨rfl, ?_⟩
        show 0 ≤ cutW x.d x.a a n ∧ cutW x.d x.a a n < _ ∧ _
        have hp : (0 : Int) < 2 ^ (8 * n).toNat := Int.pow_pos (by decide)
        rw [cut_is' hd hn' c2.1 (by omega)]
        refine ⟨Int.emod_nonneg _ (by omega), Int.emod_lt_of_pos _ hp, fun i q0 q1 v => ?_⟩
        rw [bc, if_pos (show x.a ≤ a + i ∧ a + i < x.a + x.n by omega)]
        show x.d / 2 ^ (8 * (a - x.a)).toNat % 2 ^ (8 * n).toNat / 2 ^ (8 * i).toNat % 256 = _
        rw [byte_cut hn' (by omega) q0 q1, show a - x.a + i = a + i - x.a by omega]
      · rw [hc, decide_eq_false c2]
        exact Or.inr (Or.inr rfl)
    · rw [hov, decide_eq_false c, if_neg (by decide)]
      have hb : ∀ i : Int, 0 ≤ i → i < n → ∀ v, byN (a + i) v (x :: r) = byN (a + i) v r := fun i q0 q1 v => by
        rw [bc, if_neg (show ¬ (x.a ≤ a + i ∧ a + i < x.a + x.n) by omega)]
      rcases ih with ⟨e1, e2, e3, e4⟩ | ⟨e1, e3⟩ | e1
      · exact Or.inl ⟨e1, e2, e3, fun i q0 q1 v => by rw [e4 i q0 q1 v, hb i q0 q1 v]⟩
      · exact Or.inr (Or.inl ⟨e1, fun i q0 q1 v => by rw [hb i q0 q1 v]; exact e3 i q0 q1 v⟩)
      · exact Or.inr (Or.inr e1)
/-! Memory behind stores, byte by byte. -/
def wrS (m : List Int) (x : SX) : List Int := wrX m x.a x.n x.d
theorem wrS_len {m : List Int} {x : SX} (hm : m.length = 64) (hx : PX x) : (wrS m x).length = 64 := by
  unfold wrS
  rw [wrX_len x.d (by rw [hm]; exact hx.1), hm]
theorem wrS_at {m : List Int} {x : SX} (hm : m.length = 64) (hx : PX x) {j : Int} (h0 : 0 ≤ j) (h1 : j < 64) : rd (wrS m x) j = if x.a ≤ j ∧ j < x.a + x.n then x.d / 2 ^ (8 * (j - x.a)).toNat % 256 else rd m j := by
  obtain ⟨⟨hn, hx0, hx1, _⟩, hd⟩ := hx
  have gn : 1 ≤ x.n ∧ x.n ≤ 4 := by omega
  have ht : (m.take x.a.toNat).length = x.a.toNat := by rw [List.length_take]; omega
  have hb := bytX_len x.d x.n
  unfold rd wrS wrX
  simp only [List.getD_eq_getElem?_getD]
  by_cases c1 : j < x.a
  · rw [if_neg (by omega), List.getElem?_append_left (by omega), List.getElem?_take, if_pos (by omega)]
  · rw [List.getElem?_append_right (by omega), ht]
    by_cases c2 : j < x.a + x.n
    · rw [if_pos ⟨by omega, c2⟩, List.getElem?_append_left (by omega)]
      unfold bytX
      rw [List.getElem?_map, List.getElem?_range (by omega)]
      show by8 x.d (j.toNat - x.a.toNat) = _
      unfold by8
      rw [show min (8 * (j.toNat - x.a.toNat)) 32 = (8 * (j - x.a)).toNat by omega]
    · rw [if_neg (by omega), List.getElem?_append_right (by omega), hb, List.getElem?_drop, show x.a.toNat + x.n.toNat + (j.toNat - x.a.toNat - x.n.toNat) = j.toNat by omega]
def replS (m : List Int) (l : List SX) : List Int := l.foldl wrS m
theorem replS_len : ∀ (l : List SX) (m : List Int), m.length = 64 → (∀ x ∈ l, PX x) → (replS m l).length = 64
  | [], m, hm, _ => hm
  | x :: r, m, hm, h => replS_len r _ (wrS_len hm (h x (by simp))) (fun y hy => h y (by simp [hy]))
theorem replS_at (m : List Int) (hm : m.length = 64) {j : Int} (h0 : 0 ≤ j) (h1 : j < 64) : ∀ (l : List SX), (∀ x ∈ l, PX x) → rd (replS m l.reverse) j = byN j (rd m j) l
  | [], _ => rfl
  | x :: r, h => by
    have ih := replS_at m hm h0 h1 r fun y hy => h y (by simp [hy])
    have e : replS m (x :: r).reverse = wrS (replS m r.reverse) x := by
      unfold replS
      rw [List.reverse_cons, List.foldl_append]
      rfl
    rw [e, wrS_at (replS_len _ m hm (fun y hy => h y (by simp at hy; simp [hy]))) (h x (by simp)) h0 h1, ih]
    rfl
/-! Numbers out of bytes. -/
theorem or_add {acc b : Int} {i : Nat} (hi : i ≤ 3) (h0 : 0 ≤ acc) (h1 : acc < 2 ^ (8 * i)) (h2 : 0 ≤ b) (h3 : b < 256) : Go.bits .or .u32 acc (b % 4294967296 * 2 ^ min (8 * (i : Int)).toNat 32 % 4294967296) = acc + b * 2 ^ (8 * i) := by
  obtain ⟨x, rfl⟩ := nat_of h0
  obtain ⟨y, rfl⟩ := nat_of h2
  have e : min (8 * (i : Int)).toNat 32 = 8 * i := by omega
  have hx : x < 2 ^ (8 * i) := by exact_mod_cast h1
  rw [e]
  have hc : (y : Int) % 4294967296 = y := by omega
  have hp : 2 ^ (8 * i) ≤ 2 ^ 24 := Nat.pow_le_pow_right (by decide) (by omega)
  have hq := Nat.two_pow_pos (8 * i)
  have hm : 2 ^ (8 * i) * y ≤ 2 ^ 24 * 255 := Nat.mul_le_mul hp (by omega)
  have hl : ((y : Int) * 2 ^ (8 * i)) = ((2 ^ (8 * i) * y : Nat) : Int) := by push_cast; rw [Int.mul_comm]
  rw [hc, hl, show ((2 ^ (8 * i) * y : Nat) : Int) % 4294967296 = ((2 ^ (8 * i) * y : Nat) : Int) by omega, or32 _ _ (by omega) (by omega), Nat.or_comm, ← Nat.two_pow_add_eq_or_of_lt hx]
  push_cast
  omega
theorem num_of {n v : Int} {bs : List Int} (hn : Sz n) (hl : (bs.length : Int) = n) (h0 : 0 ≤ v) (h1 : v < 2 ^ (8 * n).toNat) (hb : ∀ i : Int, 0 ≤ i → i < n → v / 2 ^ (8 * i).toNat % 256 = rd bs i) : ofI 0 0 bs = v := by
  have hz : ∀ b : Int, 0 ≤ b → b < 256 → Go.bits .or .u32 0 (b % 4294967296 * 2 ^ min (8 * (0 : Int)).toNat 32 % 4294967296) = b := fun b g0 g1 => by
    have := or_add (acc := 0) (b := b) (i := 0) (by decide) (by decide) (by decide) g0 g1
    simpa using this
  rcases hn with rfl | rfl | rfl
  · match bs, hl with
    | [b0], _ =>
      have e0 : v / 1 % 256 = b0 := hb 0 (by decide) (by decide)
      have h1' : v < 256 := h1
      show Go.bits .or .u32 0 _ = v
      rw [hz b0 (by omega) (by omega)]
      omega
  · match bs, hl with
    | [b0, b1], _ =>
      have e0 : v / 1 % 256 = b0 := hb 0 (by decide) (by decide)
      have e1 : v / 256 % 256 = b1 := hb 1 (by decide) (by decide)
      have h1' : v < 65536 := h1
      show Go.bits .or .u32 (Go.bits .or .u32 0 _) _ = v
      rw [hz b0 (by omega) (by omega)]
      have o1 : Go.bits .or .u32 b0 (b1 % 4294967296 * 2 ^ min (8 * (0 + 1 : Int)).toNat 32 % 4294967296) = b0 + b1 * 256 := or_add (acc := b0) (b := b1) (i := 1) (by decide) (by omega) (by show b0 < 256; omega) (by omega) (by omega)
      rw [o1]
      omega
  · match bs, hl with
    | [b0, b1, b2, b3], _ =>
      have e0 : v / 1 % 256 = b0 := hb 0 (by decide) (by decide)
      have e1 : v / 256 % 256 = b1 := hb 1 (by decide) (by decide)
      have e2 : v / 65536 % 256 = b2 := hb 2 (by decide) (by decide)
      have e3 : v / 16777216 % 256 = b3 := hb 3 (by decide) (by decide)
      have h1' : v < 4294967296 := h1
      show Go.bits .or .u32 (Go.bits .or .u32 (Go.bits .or .u32 (Go.bits .or .u32 0 _) _) _) _ = v
      rw [hz b0 (by omega) (by omega)]
      have o1 : Go.bits .or .u32 b0 (b1 % 4294967296 * 2 ^ min (8 * (0 + 1 : Int)).toNat 32 % 4294967296) = b0 + b1 * 256 := or_add (acc := b0) (b := b1) (i := 1) (by decide) (by omega) (by show b0 < 256; omega) (by omega) (by omega)
      rw [o1]
      have o2 : Go.bits .or .u32 (b0 + b1 * 256) (b2 % 4294967296 * 2 ^ min (8 * (0 + 1 + 1 : Int)).toNat 32 % 4294967296) = b0 + b1 * 256 + b2 * 65536 := or_add (acc := b0 + b1 * 256) (b := b2) (i := 2) (by decide) (by omega) (by show _ < 65536; omega) (by omega) (by omega)
      rw [o2]
      have o3 : Go.bits .or .u32 (b0 + b1 * 256 + b2 * 65536) (b3 % 4294967296 * 2 ^ min (8 * (0 + 1 + 1 + 1 : Int)).toNat 32 % 4294967296) = b0 + b1 * 256 + b2 * 65536 + b3 * 16777216 := or_add (acc := b0 + b1 * 256 + b2 * 65536) (b := b3) (i := 3) (by decide) (by omega) (by show _ < 16777216; omega) (by omega) (by omega)
      rw [o3]
      omega
theorem rd_sub (m : List Int) {a n : Int} (ho : Okm m.length a n) {i : Int} (h0 : 0 ≤ i) (h1 : i < n) : rd ((m.take (a + n).toNat).drop a.toNat) i = rd m (a + i) := by
  obtain ⟨_, g0, g1, _⟩ := ho
  unfold rd
  simp only [List.getD_eq_getElem?_getD]
  rw [List.getElem?_drop, List.getElem?_take, if_pos (by omega), show a.toNat + i.toNat = (a + i).toNat by omega]
theorem sub_len (m : List Int) {a n : Int} (ho : Okm m.length a n) : (((m.take (a + n).toNat).drop a.toNat).length : Int) = n := by
  obtain ⟨_, g0, g1, _⟩ := ho
  rw [List.length_drop, List.length_take]
  omega
theorem sub_eq {m m' : List Int} {a n : Int} (ho : Okm m.length a n) (ho' : Okm m'.length a n) (h : ∀ i : Int, 0 ≤ i → i < n → rd m (a + i) = rd m' (a + i)) : rdX m a n = rdX m' a n := by
  unfold rdX
  congr 1
  have l1 := sub_len m ho
  have l2 := sub_len m' ho'
  apply List.ext_getElem?
  intro k
  by_cases hk : (k : Int) < n
  · have e1 := rd_sub m ho (i := k) (by omega) hk
    have e2 := rd_sub m' ho' (i := k) (by omega) hk
    have e3 := h k (by omega) hk
    rw [← e1, ← e2] at e3
    unfold rd at e3
    simp only [List.getD_eq_getElem?_getD, Int.toNat_natCast] at e3
    rw [List.getElem?_eq_getElem (by omega), List.getElem?_eq_getElem (by omega)] at e3 ⊢
    simpa using e3
  · rw [List.getElem?_eq_none (by omega), List.getElem?_eq_none (by omega)]
/-- What a load has. -/
theorem load_right {m : List Int} (hm : m.length = 64) {l : List SX} (hl : ∀ x ∈ l, PX x) {a n : Int} (ho : Okm 64 a n) : (findX a n l).1 = 2 ∨ (if (findX a n l).1 = 0 then rdX m a n else (findX a n l).2.1) = rdX (replS m l.reverse) a n := by
  have hf : (replS m l.reverse).length = 64 := replS_len _ m hm (fun x hx => hl x (List.mem_reverse.1 hx))
  have hom : Okm m.length a n := by rw [hm]; exact ho
  have hof : Okm (replS m l.reverse).length a n := by rw [hf]; exact ho
  have hj : ∀ i : Int, 0 ≤ i → i < n → rd (replS m l.reverse) (a + i) = byN (a + i) (rd m (a + i)) l := fun i q0 q1 => replS_at m hm (by have := ho.2.1; omega) (by have := ho.2.2.1; omega) l hl
  rcases good ho l hl with ⟨e1, e2, e3, e4⟩ | ⟨e1, e3⟩ | e1
  · right
    rw [e1, if_neg (by decide)]
    unfold rdX
    exact (num_of ho.1 (sub_len _ hof) e2 e3 (fun i q0 q1 => by rw [rd_sub _ hof q0 q1, hj i q0 q1]; exact e4 i q0 q1 _)).symm
  · right
    rw [e1, if_pos rfl]
    exact sub_eq hom hof fun i q0 q1 => by rw [hj i q0 q1]; exact (e3 i q0 q1 _).symm
  · exact Or.inl e1
end Go.Proofs.Ytmpnnppgppoliaa.Ld
