/- The pure statement of BtbKeeps: plain lemmas, no program. The conditions are those that each names. -/
import Derived.Test.YtgacdbaegjnlfaaBtbP1
import Derived.Test.YtgacdbaegjnlfaaPBtbx7
namespace Go.Proofs.Ytgacdbaegjnlfaa.PBtb
set_option linter.unusedVariables false
set_option linter.unusedSimpArgs false
open Go Go.Proofs Go.RowKit Go.Proofs.YtgacdbaegjnlfaaW.PrintWords Go.Proofs.Ytgacdbaegjnlfaa.Plain
def clampN (n : Int) (m : Int) : Int := mn (mx n 0) (m - 1)
theorem clampN_b (n m : Int) (h : 0 < m) : 0 ≤ clampN n m ∧ clampN n m < m := by
  unfold clampN mn mx
  constructor <;> (repeat' split) <;> omega
theorem clampN_id (n m : Int) (h0 : 0 ≤ n) (h : n < m) : clampN n m = n := by
  unfold clampN mn mx
  (repeat' split) <;> omega
def putX (l : List S26) (n : Int) (e : S26) : List S26 × Int :=
  if 0 ≤ atX l e.f0 then (l.set (atX l e.f0).toNat e, clampN n l.length) else (l.set (clampN n l.length).toNat e, (clampN n l.length + 1) % l.length)
theorem put_is (l : List S26) (n : Int) (e : S26) (hl : (l.length : Int) ≤ 1000) (hp : 0 < l.length) (he : ok e = true) : Ev (fun k => btb_Put.f k l n e.f0 e.f1 e.f2) (putX l n e) := by
  have hb := clampN_b n l.length (by omega)
  have hc : mn (mx n 0) (wrap64 ((l.length : Int) - 1)) = clampN n l.length := by rw [w64 (by omega) (by omega)]; rfl
  have hlt := atX_lt l e.f0
  unfold btb_Put.f
  rw [there_is, show okK e.f2 = true from he]
  refine Ev.bind (Ev.now _) (yes rfl ?_)
  rw [show ((l.length : Int) == 0) = false by simp; intro h; simp [h] at hp]
  refine Ev.step (f := fun k => (some (List.replicate ((l.length : Int)).toNat z26 : List S26)).bind fun y => (btb_dup.f k y l).bind fun t => (btb_at.f k l e.f0).bind fun i => if i ≥ 0 then (if 0 ≤ i then (if i < (y.length : Int) then some (t.set i.toNat e, clampN n l.length) else none) else none) else (if 0 ≤ clampN n l.length then (if clampN n l.length < (y.length : Int) then (if (l.length : Int) = 0 then none else some (t.set (clampN n l.length).toNat e, Int.tmod (wrap64 (clampN n l.length + 1)) (l.length : Int))) else none) else none)) (fun k => by
    simp only [btb_Put.j0, Bool.false_eq_true, if_false]
    rw [if_pos (by omega), if_pos (by omega), hc]) ?_
  refine Ev.bind (Ev.now _) (Ev.bind (a := l) (Ev.now _) (Ev.bind (at_is l e.f0 (by omega)) ?_))
  have hr : ((List.replicate ((l.length : Int)).toNat z26).length : Int) = l.length := by rw [List.length_replicate]; omega
  rw [hr]
  by_cases c : 0 ≤ atX l e.f0
  · rw [show putX l n e = (l.set (atX l e.f0).toNat e, clampN n l.length) from if_pos c]
    exact yes c (yes c (yes hlt (Ev.now _)))
  · rw [show putX l n e = (l.set (clampN n l.length).toNat e, (clampN n l.length + 1) % l.length) from if_neg c]
    refine no c (yes hb.1 (yes hb.2 (no (by omega) ?_)))
    rw [w64 (by omega) (by omega), Int.tmod_eq_emod_of_nonneg (by omega)]
    exact Ev.now _
/-- A buffer after some puts. -/
structure Inv (l : List S26) (next : Int) (ps : List S26) (m : Nat) : Prop where
  len : l.length = m
  nx : 0 < m → 0 ≤ next ∧ next < m
  ap : ∀ (i j : Nat) (s t : S26), l[i]? = some s → l[j]? = some t → ok s = true → ok t = true → s.f0 = t.f0 → i = j
  keep : (ps.filter ok).length ≤ m → ∃ c : Nat, c ≤ (ps.filter ok).length ∧ (c < m → next = c) ∧ (∀ (j : Nat) (s : S26), l[j]? = some s → c ≤ j → ok s = false) ∧ (∀ p ∈ ps, ok p = true → ∃ (j : Nat) (s : S26), l[j]? = some s ∧ ok s = true ∧ s.f0 = p.f0)
theorem inv_new (m : Nat) : Inv (List.replicate m z26) 0 [] m where
  len := List.length_replicate
  nx := fun h => ⟨by omega, by omega⟩
  ap := fun i j s t h1 _ h3 _ _ => by
    rw [List.getElem?_replicate] at h1
    split at h1
    · cases h1; exact absurd h3 (by decide)
    · cases h1
  keep := fun _ => ⟨0, Nat.zero_le _, fun _ => rfl, (fun j s h _ => by
    rw [List.getElem?_replicate] at h
    split at h
    · cases h; decide
    · cases h), fun p hp => by simp at hp⟩
theorem inv_skip {l : List S26} {next : Int} {ps : List S26} {m : Nat} {p : S26} (h : Inv l next ps m) (hp : ok p = false) : Inv l next (ps ++ [p]) m where
  len := h.len
  nx := h.nx
  ap := h.ap
  keep := fun hc => by
    have e : (ps ++ [p]).filter ok = ps.filter ok := by rw [List.filter_append]; simp [hp]
    rw [e] at hc ⊢
    obtain ⟨c, h1, h2, h3, h4⟩ := h.keep hc
    refine ⟨c, h1, h2, h3, fun q hq hok => ?_⟩
    rcases List.mem_append.1 hq with hq | hq
    · exact h4 q hq hok
    · rw [List.mem_singleton.1 hq, hp] at hok; cases hok
theorem hitB_iff {pc : Int} {s : S26} : hitB pc s = true ↔ ok s = true ∧ s.f0 = pc := by unfold hitB; simp
theorem set_get {l : List S26} {i j : Nat} {e s : S26} (h : (l.set i e)[j]? = some s) : (j = i ∧ s = e) ∨ (j ≠ i ∧ l[j]? = some s) := by
  rw [List.getElem?_set] at h
  split at h
  · rename_i hij
    split at h
    · cases h; exact .inl ⟨hij.symm, rfl⟩
    · cases h
  · rename_i hij
    exact .inr ⟨fun e => hij e.symm, h⟩
/-- Setting place i to e, where no other place has e's address, and what lay there is gone or had e's address. -/
theorem set_ap {l : List S26} {i : Nat} {e : S26} (ap : ∀ (i j : Nat) (s t : S26), l[i]? = some s → l[j]? = some t → ok s = true → ok t = true → s.f0 = t.f0 → i = j)
    (hi : ∀ (j : Nat) (s : S26), l[j]? = some s → ok s = true → s.f0 = e.f0 → j = i) :
    ∀ (a b : Nat) (s t : S26), (l.set i e)[a]? = some s → (l.set i e)[b]? = some t → ok s = true → ok t = true → s.f0 = t.f0 → a = b := by
  intro a b s t ha hb h1 h2 h3
  rcases set_get ha with ⟨ea, es⟩ | ⟨na, ha'⟩
  · rcases set_get hb with ⟨eb, et⟩ | ⟨nb, hb'⟩
    · rw [ea, eb]
    · exact absurd (hi b t hb' h2 (by rw [← h3, es])) nb
  · rcases set_get hb with ⟨eb, et⟩ | ⟨nb, hb'⟩
    · exact absurd (hi a s ha' h1 (by rw [h3, et])) na
    · exact ap a b s t ha' hb' h1 h2 h3
theorem inv_put {l : List S26} {next : Int} {ps : List S26} {m : Nat} {p : S26} (h : Inv l next ps m) (hp : ok p = true) (hm : 0 < m) : Inv (putX l next p).1 (putX l next p).2 (ps ++ [p]) m ∧ ∃ j : Nat, (putX l next p).1[j]? = some p := by
  have hnx := h.nx hm
  have hlen := h.len
  have hcl : clampN next l.length = next := clampN_id _ _ hnx.1 (by omega)
  have hcount : ((ps ++ [p]).filter ok).length = (ps.filter ok).length + 1 := by rw [List.filter_append]; simp [hp]
  rcases atX_spec l p.f0 with ⟨h1, h2⟩ | ⟨j, s, h1, h2, h3⟩
  · have e : putX l next p = (l.set next.toNat p, (next + 1) % m) := by
      unfold putX
      rw [if_neg (by omega), hcl, hlen]
    rw [e]
    have hnl : next.toNat < l.length := by omega
    have hself : (l.set next.toNat p)[next.toNat]? = some p := by rw [List.getElem?_set_self hnl]
    refine ⟨⟨by simp [hlen], fun _ => ⟨Int.emod_nonneg _ (by omega), Int.emod_lt_of_pos _ (by omega)⟩, set_ap h.ap (fun j s hj ho hf => ?_), fun hc => ?_⟩, next.toNat, hself⟩
    · have := h2 s (List.mem_of_getElem? hj)
      rw [hitB_iff.2 ⟨ho, hf⟩] at this
      cases this
    · rw [hcount] at hc ⊢
      obtain ⟨c, g1, g2, g3, g4⟩ := h.keep (by omega)
      have hcm : c < m := by omega
      have hn := g2 hcm
      refine ⟨c + 1, by omega, fun hlt => ?_, fun j s hj hcj => ?_, fun q hq hok => ?_⟩
      · rw [hn, Int.emod_eq_of_lt (by omega) (by omega)]; push_cast; rfl
      · rcases set_get hj with ⟨rfl, rfl⟩ | ⟨nj, hj⟩
        · omega
        · exact g3 j s hj (by omega)
      · rcases List.mem_append.1 hq with hq | hq
        · obtain ⟨j, s, q1, q2, q3⟩ := g4 q hq hok
          have hjn : next.toNat ≠ j := fun e => by
            have := g3 j s q1 (by omega)
            rw [q2] at this; cases this
          exact ⟨j, s, by rw [List.getElem?_set_ne hjn]; exact q1, q2, q3⟩
        · rw [List.mem_singleton.1 hq]; exact ⟨_, p, hself, hp, rfl⟩
  · have hjl : j < l.length := (List.getElem?_eq_some_iff.1 h2).1
    have e : putX l next p = (l.set j p, next) := by
      unfold putX
      rw [if_pos (by omega), hcl, h1, Int.toNat_natCast]
    rw [e]
    obtain ⟨k1, k2⟩ := hitB_iff.1 h3
    have hself : (l.set j p)[j]? = some p := by rw [List.getElem?_set_self hjl]
    refine ⟨⟨by simp [hlen], fun _ => hnx, set_ap h.ap (fun i t hi ho hf => h.ap i j t s hi h2 ho k1 (hf.trans k2.symm)), fun hc => ?_⟩, j, hself⟩
    rw [hcount] at hc ⊢
    obtain ⟨c, g1, g2, g3, g4⟩ := h.keep (by omega)
    refine ⟨c, by omega, g2, fun i t hi hci => ?_, fun q hq hok => ?_⟩
    · rcases set_get hi with ⟨rfl, rfl⟩ | ⟨ni, hi⟩
      · have := g3 i s h2 hci
        rw [k1] at this; cases this
      · exact g3 i t hi hci
    · rcases List.mem_append.1 hq with hq | hq
      · obtain ⟨i, t, q1, q2, q3⟩ := g4 q hq hok
        by_cases hij : i = j
        · subst hij
          rw [h2] at q1; cases q1
          exact ⟨i, p, hself, hp, by rw [← q3, k2]⟩
        · exact ⟨i, t, by rw [List.getElem?_set_ne (fun e => hij e.symm)]; exact q1, q2, q3⟩
      · rw [List.mem_singleton.1 hq]; exact ⟨_, p, hself, hp, rfl⟩
/-- With addresses that are there once, an address' place is where it stands. -/
theorem at_place {l : List S26} (ap : ∀ (i j : Nat) (s t : S26), l[i]? = some s → l[j]? = some t → ok s = true → ok t = true → s.f0 = t.f0 → i = j) {j : Nat} {s : S26} (hj : l[j]? = some s) (ho : ok s = true) : atX l s.f0 = j := by
  rcases atX_spec l s.f0 with ⟨_, h2⟩ | ⟨i, t, h1, h2, h3⟩
  · have := h2 s (List.mem_of_getElem? hj)
    rw [hitB_iff.2 ⟨ho, rfl⟩] at this
    cases this
  · obtain ⟨k1, k2⟩ := hitB_iff.1 h3
    rw [h1, ap i j t s h2 hj k1 ho k2]
theorem find_place {l : List S26} (ap : ∀ (i j : Nat) (s t : S26), l[i]? = some s → l[j]? = some t → ok s = true → ok t = true → s.f0 = t.f0 → i = j) {j : Nat} {s : S26} (hj : l[j]? = some s) (ho : ok s = true) : findX l s.f0 = (s.f0, s.f1, s.f2, true) := by
  have e := at_place ap hj ho
  have hjl : j < l.length := (List.getElem?_eq_some_iff.1 hj).1
  have er : rd_T26 l (j : Int) = s := by rw [rd_at l j hjl]; exact (List.getElem?_eq_some_iff.1 hj).2
  unfold findX
  rw [if_pos (by omega), e, er]
theorem apart_loop {l : List S26} (hl : (l.length : Int) ≤ 1000) (ap : ∀ (i j : Nat) (s t : S26), l[i]? = some s → l[j]? = some t → ok s = true → ok t = true → s.f0 = t.f0 → i = j) : ∀ (d z : Nat), z + d = l.length → Ev (fun k => cotterelref19_Apart.l0 k l (z : Int)) true := by
  intro d
  induction d with
  | zero =>
    intro z hz
    exact Ev.step (f := fun _ => some true) (fun k => by simp only [cotterelref19_Apart.l0]; rw [if_neg (by omega)]) (Ev.now _)
  | succ d ih =>
    intro z hz
    have hzl : z < l.length := by omega
    have hn := ih (z + 1) (by omega)
    refine Ev.step (f := fun k => if okK (l[z]).f2 = true then ((cotterelref19_at.f k l (l[z]).f0).bind fun t => if t = (z : Int) then cotterelref19_Apart.l0 k l ((z + 1 : Nat) : Int) else some false) else cotterelref19_Apart.l0 k l ((z + 1 : Nat) : Int)) (fun k => by
      simp only [cotterelref19_Apart.l0]
      rw [if_pos (by omega), if_pos (by omega), is_is, rd_at l z hzl, w64 (by omega) (by omega)]
      rfl) ?_
    by_cases c : okK (l[z]).f2 = true
    · refine yes c (Ev.bind (rat_is l _ (by omega)) (yes ?_ hn))
      exact at_place ap (List.getElem?_eq_getElem hzl) c
    · exact no c hn
theorem apart_is {l : List S26} (hl : (l.length : Int) ≤ 1000) (ap : ∀ (i j : Nat) (s t : S26), l[i]? = some s → l[j]? = some t → ok s = true → ok t = true → s.f0 = t.f0 → i = j) : Ev (fun k => cotterelref19_Apart.f k l) true := by
  have := apart_loop hl ap l.length 0 (by omega)
  exact this
/-- All puts that there are, found. -/
theorem found_loop {l ps : List S26} {next : Int} {i m : Nat} (hl : (l.length : Int) ≤ 1000) (hpl : (ps.length : Int) ≤ 40) (hi : i < ps.length) (h : Inv l next (ps.take (i + 1)) m) (hc : ((ps.take (i + 1)).filter ok).length ≤ m)
    (hnext : Ev (fun k => cotterellaw19_BtbKeeps.l0 k ps l next ((i + 1 : Nat) : Int)) true) : ∀ (d z : Nat), z + d = i + 1 → Ev (fun k => cotterellaw19_BtbKeeps.l2 k ps l next (i : Int) (z : Int)) true := by
  intro d
  induction d with
  | zero =>
    intro z hz
    refine Ev.step (f := fun k => cotterellaw19_BtbKeeps.l0 k ps l next ((i + 1 : Nat) : Int)) (fun k => ?_) hnext
    simp only [cotterellaw19_BtbKeeps.l2]
    rw [if_neg (by omega), w64 (by omega) (by omega)]
    rfl
  | succ d ih =>
    intro z hz
    have hzl : z < ps.length := by omega
    have hn := ih (z + 1) (by omega)
    refine Ev.step (f := fun k => (btb_Find.f k l (ps[z]).f0).bind fun t => if (ps[z]).f2 ≥ 1 then (if (ps[z]).f2 ≤ 4 then (if t.2.2.2 = true then cotterellaw19_BtbKeeps.l2 k ps l next (i : Int) ((z + 1 : Nat) : Int) else some false) else cotterellaw19_BtbKeeps.l2 k ps l next (i : Int) ((z + 1 : Nat) : Int)) else cotterellaw19_BtbKeeps.l2 k ps l next (i : Int) ((z + 1 : Nat) : Int)) (fun k => by
      simp only [cotterellaw19_BtbKeeps.l2]
      rw [if_pos (by omega), if_pos (by omega), if_pos (by omega), rd_at ps z hzl, w64 (by omega) (by omega)]
      rfl) ?_
    refine Ev.bind (find_is l _ (by omega)) ?_
    by_cases c1 : (ps[z]).f2 ≥ 1
    · refine yes c1 ?_
      by_cases c2 : (ps[z]).f2 ≤ 4
      · refine yes c2 (yes ?_ hn)
        obtain ⟨c, _, _, _, g4⟩ := h.keep hc
        obtain ⟨j, s, q1, q2, q3⟩ := g4 ps[z] (List.mem_of_getElem? (i := z) (by rw [List.getElem?_take, if_pos (by omega), List.getElem?_eq_getElem hzl])) (by unfold ok okK; simp; omega)
        rw [← q3, find_place h.ap q1 q2]
      · exact no c2 hn
    · exact no c1 hn
theorem count_loop {l ps : List S26} {next : Int} {i m : Nat} (hl : (l.length : Int) ≤ 1000) (hpl : (ps.length : Int) ≤ 40) (hi : i < ps.length) (h : Inv l next (ps.take (i + 1)) m)
    (hnext : Ev (fun k => cotterellaw19_BtbKeeps.l0 k ps l next ((i + 1 : Nat) : Int)) true) : ∀ (z : Nat), z ≤ i → Ev (fun k => cotterellaw19_BtbKeeps.l1 k ps l next (i : Int) (((((ps.take i).drop z).filter ok).length : Nat) : Int) ((z : Int) - 1)) true := by
  have fin : ∀ (x : Int) (z : Int) , (x < (l.length : Int) - 1 → ((ps.take (i + 1)).filter ok).length ≤ m) → Ev (fun k => cotterellaw19_BtbKeeps.j4 k ps l next (i : Int) x z false) true := fun x z hx => by
    refine Ev.step (f := fun k => if x < (l.length : Int) - 1 then cotterellaw19_BtbKeeps.l2 k ps l next (i : Int) 0 else cotterellaw19_BtbKeeps.l0 k ps l next ((i + 1 : Nat) : Int)) (fun k => by
      simp only [cotterellaw19_BtbKeeps.j4, Bool.false_eq_true, if_false]
      rw [w64 (by omega) (by omega), w64 (by omega) (by omega)]
      rfl) ?_
    by_cases c : x < (l.length : Int) - 1
    · exact yes c (found_loop hl hpl hi h (hx c) hnext (i + 1) 0 (by omega))
    · exact no c hnext
  intro z
  induction z with
  | zero =>
    intro hz
    refine Ev.step (f := fun k => cotterellaw19_BtbKeeps.j4 k ps l next (i : Int) (((((ps.take i).drop 0).filter ok).length : Nat) : Int) (((0 : Nat) : Int) - 1) false) (fun k => by
      simp only [cotterellaw19_BtbKeeps.l1]; rw [if_neg (by omega)]) (fin _ _ fun hx => ?_)
    have e : ((ps.take (i + 1)).filter ok).length ≤ ((ps.take i).filter ok).length + 1 := by
      rw [List.take_succ_eq_append_getElem hi, List.filter_append, List.length_append]
      have := List.length_filter_le ok [ps[i]]
      simp at this ⊢
      omega
    rw [List.drop_zero] at hx
    have := h.len
    omega
  | succ z ih =>
    intro hz
    have hzl : z < ps.length := by omega
    have hn := ih (by omega)
    have hd : (ps.take i).drop z = ps[z] :: (ps.take i).drop (z + 1) := by
      rw [List.drop_eq_getElem_cons (by rw [List.length_take]; omega), List.getElem_take]
    refine Ev.step (f := fun k => cotterellaw19_BtbKeeps.j4 k ps l next (i : Int) (((((ps.take i).drop (z + 1)).filter ok).length : Nat) : Int) ((((z + 1 : Nat)) : Int) - 1) (decide ((((((ps.take i).drop (z + 1)).filter ok).length : Nat) : Int) < (l.length : Int) - 1))) (fun k => by
      simp only [cotterellaw19_BtbKeeps.l1]; rw [if_pos (by omega), w64 (by omega) (by omega)]) ?_
    have hcnt : (((ps.take i).drop (z + 1)).filter ok).length ≤ 40 := by
      have := List.length_filter_le ok ((ps.take i).drop (z + 1))
      rw [List.length_drop, List.length_take] at this
      omega
    by_cases c : (((((ps.take i).drop (z + 1)).filter ok).length : Nat) : Int) < (l.length : Int) - 1
    · rw [decide_eq_true c]
      rw [hd] at hn
      refine Ev.step (f := fun k => if (ps[z]).f2 < 1 then cotterellaw19_BtbKeeps.l1 k ps l next (i : Int) (((((ps.take i).drop (z + 1)).filter ok).length : Nat) : Int) ((z : Int) - 1) else if (ps[z]).f2 > 4 then cotterellaw19_BtbKeeps.l1 k ps l next (i : Int) (((((ps.take i).drop (z + 1)).filter ok).length : Nat) : Int) ((z : Int) - 1) else cotterellaw19_BtbKeeps.l1 k ps l next (i : Int) ((((((ps.take i).drop (z + 1)).filter ok).length : Nat) : Int) + 1) ((z : Int) - 1)) (fun k => by
        simp only [cotterellaw19_BtbKeeps.j4, if_true]
        rw [show (((z + 1 : Nat)) : Int) - 1 = (z : Int) by omega, if_pos (by omega), if_pos (by omega), rd_at ps z hzl, w64 (show -9223372036854775808 ≤ (z : Int) - 1 by omega) (by omega), w64 (by omega) (by omega)]) ?_
      by_cases c1 : (ps[z]).f2 < 1
      · rw [List.filter_cons_of_neg (by unfold ok okK; simp; omega)] at hn
        exact yes c1 hn
      · by_cases c2 : (ps[z]).f2 > 4
        · rw [List.filter_cons_of_neg (by unfold ok okK; simp; omega)] at hn
          exact no c1 (yes c2 hn)
        · rw [List.filter_cons_of_pos (by unfold ok okK; simp; omega), List.length_cons] at hn
          exact no c1 (no c2 hn)
    · rw [decide_eq_false c]
      exact fin _ _ fun hx => absurd hx c
theorem keeps_loop (ps : List S26) (hpl : (ps.length : Int) ≤ 40) (m : Nat) (hm : m ≤ 1000) : ∀ (d i : Nat) (l : List S26) (next : Int), i + d = ps.length → Inv l next (ps.take i) m → Ev (fun k => cotterellaw19_BtbKeeps.l0 k ps l next (i : Int)) true := by
  intro d
  induction d with
  | zero =>
    intro i l next hi h
    refine Ev.step (f := fun k => (cotterellaw19_awake.f k).bind fun t => some t) (fun k => by simp only [cotterellaw19_BtbKeeps.l0]; rw [if_neg (by omega)]) awake_is
  | succ d ih =>
    intro i l next hi h
    have hil : i < ps.length := by omega
    have hll := h.len
    have ht : ps.take (i + 1) = ps.take i ++ [ps[i]] := List.take_succ_eq_append_getElem hil
    have skip : ok ps[i] = false → Ev (fun k => cotterellaw19_BtbKeeps.j1 k ps l next (i : Int) true) true := fun hk => by
      refine Ev.step (f := fun k => cotterellaw19_BtbKeeps.l0 k ps l next ((i + 1 : Nat) : Int)) (fun k => ?_) (ih (i + 1) l next (by omega) (by rw [ht]; exact inv_skip h hk))
      simp only [cotterellaw19_BtbKeeps.j1, if_true]
      rw [w64 (by omega) (by omega)]
      rfl
    refine Ev.step (f := fun k => if (ps[i]).f2 < 1 then cotterellaw19_BtbKeeps.j1 k ps l next (i : Int) true else cotterellaw19_BtbKeeps.j1 k ps l next (i : Int) (decide ((ps[i]).f2 > 4))) (fun k => by
      simp only [cotterellaw19_BtbKeeps.l0]
      rw [if_pos (by omega), if_pos (by omega), rd_at ps i hil]) ?_
    by_cases c1 : (ps[i]).f2 < 1
    · exact yes c1 (skip (by unfold ok okK; simp; omega))
    · refine no c1 ?_
      by_cases c2 : (ps[i]).f2 > 4
      · rw [decide_eq_true c2]; exact skip (by unfold ok okK; simp; omega)
      · rw [decide_eq_false c2]
        have hok : ok ps[i] = true := by unfold ok okK; simp; omega
        have e1 : rd_T26 ps (i : Int) = ps[i] := rd_at ps i hil
        rcases Nat.eq_zero_or_pos m with hm0 | hmp
        · -- no place at all
          obtain rfl : l = [] := List.eq_nil_of_length_eq_zero (by omega)
          have hinv : Inv ([] : List S26) next (ps.take (i + 1)) m := by
            refine ⟨hll, fun h => by omega, fun i j s t h1 => by simp at h1, fun hc => ?_⟩
            have : 1 ≤ ((ps.take (i + 1)).filter ok).length := by
              rw [ht, List.filter_append, List.length_append]; simp [hok]
            omega
          refine Ev.step (f := fun k => (btb_Put.f k [] next (ps[i]).f0 (ps[i]).f1 (ps[i]).f2).bind fun a => (btb_Find.f k a.1 (ps[i]).f0).bind fun b => if (a.1.length : Int) > 0 then (if (!(b.1 == (ps[i]).f0) || (!(b.2.1 == (ps[i]).f1) || (!(b.2.2.1 == (ps[i]).f2)))) = true then cotterellaw19_BtbKeeps.j2 k ps a.1 a.2 (i : Int) true else (if b.2.2.2 = true then ((cotterelref19_Apart.f k a.1).bind fun c => cotterellaw19_BtbKeeps.j2 k ps a.1 a.2 (i : Int) (!c)) else cotterellaw19_BtbKeeps.j2 k ps a.1 a.2 (i : Int) true)) else ((cotterelref19_Apart.f k a.1).bind fun c => cotterellaw19_BtbKeeps.j2 k ps a.1 a.2 (i : Int) (!c))) (fun k => by
            simp only [cotterellaw19_BtbKeeps.j1, Bool.false_eq_true, if_false]
            rw [if_pos (by omega), if_pos (by omega), e1]) ?_
          refine Ev.bind (a := (([] : List S26), next)) ?_ (Ev.bind (find_is [] _ (by simp)) (no (by simp) (Ev.bind (apart_is (l := []) (by simp) (fun i j s t h1 => by simp at h1)) ?_)))
          · unfold btb_Put.f
            rw [there_is, show okK (ps[i]).f2 = true from hok]
            refine Ev.bind (Ev.now _) (yes rfl ?_)
            exact Ev.step (f := fun _ => some (([] : List S26), next)) (fun k => by simp [btb_Put.j0]) (Ev.now _)
          · refine Ev.step (f := fun k => cotterellaw19_BtbKeeps.l1 k ps [] next (i : Int) 0 ((i : Int) - 1)) (fun k => by
              simp only [cotterellaw19_BtbKeeps.j2, Bool.not_true, Bool.false_eq_true, if_false]; rw [w64 (by omega) (by omega)]) ?_
            have hq := count_loop (l := []) (by simp) hpl hil hinv (ih (i + 1) [] next (by omega) hinv) i (Nat.le_refl _)
            rw [List.drop_eq_nil_of_le (by rw [List.length_take]; omega)] at hq
            exact hq
        · obtain ⟨hinv', j, hj⟩ := inv_put h hok hmp
          have hinv : Inv (putX l next ps[i]).1 (putX l next ps[i]).2 (ps.take (i + 1)) m := by rw [ht]; exact hinv'
          have hlen2 := hinv.len
          refine Ev.step (f := fun k => (btb_Put.f k l next (ps[i]).f0 (ps[i]).f1 (ps[i]).f2).bind fun a => (btb_Find.f k a.1 (ps[i]).f0).bind fun b => if (a.1.length : Int) > 0 then (if (!(b.1 == (ps[i]).f0) || (!(b.2.1 == (ps[i]).f1) || (!(b.2.2.1 == (ps[i]).f2)))) = true then cotterellaw19_BtbKeeps.j2 k ps a.1 a.2 (i : Int) true else (if b.2.2.2 = true then ((cotterelref19_Apart.f k a.1).bind fun c => cotterellaw19_BtbKeeps.j2 k ps a.1 a.2 (i : Int) (!c)) else cotterellaw19_BtbKeeps.j2 k ps a.1 a.2 (i : Int) true)) else ((cotterelref19_Apart.f k a.1).bind fun c => cotterellaw19_BtbKeeps.j2 k ps a.1 a.2 (i : Int) (!c))) (fun k => by
            simp only [cotterellaw19_BtbKeeps.j1, Bool.false_eq_true, if_false]
            rw [if_pos (by omega), if_pos (by omega), e1]) ?_
          refine Ev.bind (put_is l next ps[i] (by omega) (by omega) hok) (Ev.bind (find_is _ _ (by omega)) (yes (by omega) ?_))
          rw [find_place hinv.ap hj hok]
          refine no (by simp) (yes rfl (Ev.bind (apart_is (by omega) hinv.ap) ?_))
          refine Ev.step (f := fun k => cotterellaw19_BtbKeeps.l1 k ps (putX l next ps[i]).1 (putX l next ps[i]).2 (i : Int) 0 ((i : Int) - 1)) (fun k => by
            simp only [cotterellaw19_BtbKeeps.j2, Bool.not_true, Bool.false_eq_true, if_false]; rw [w64 (by omega) (by omega)]) ?_
          have hq := count_loop (by omega) hpl hil hinv (ih (i + 1) _ _ (by omega) hinv) i (Nat.le_refl _)
          rw [List.drop_eq_nil_of_le (by rw [List.length_take]; omega)] at hq
          exact hq
theorem keeps_pure (n : Int) (ps : List S26) : ∃ k, cotterellaw19_BtbKeeps.f k n ps = some true := by
  refine Ev.rounds ?_
  unfold cotterellaw19_BtbKeeps.f
  by_cases c : (ps.length : Int) > 40
  · exact yes c awake_is
  · refine no c ?_
    rw [new_is]
    have := newN_b n
    exact Ev.bind (Ev.now _) (keeps_loop ps (by omega) (newN n).toNat (by omega) ps.length 0 _ 0 (by omega) (inv_new _))
end Go.Proofs.Ytgacdbaegjnlfaa.PBtb
