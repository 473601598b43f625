/- What the functions of btb come to: plain lemmas, no program. The conditions are those that each names. -/
import Derived.Test.YtgacdbaegjnlfaaPBtbx4
import Derived.Test.YtgacdbaegjnlfaaBits
namespace Go.Proofs.Ytgacdbaegjnlfaa.PBtb
set_option linter.unusedVariables false
set_option linter.unusedSimpArgs false
open Go Go.Proofs Go.RowKit Go.Proofs.YtgacdbaegjnlfaaW.PrintWords Go.Proofs.Ytgacdbaegjnlfaa.Plain
theorem yes {α : Type} {c : Prop} [Decidable c] {f g : Nat → Option α} {r : α} (h : c) (k : Ev f r) : Ev (fun n => if c then f n else g n) r := Ev.congr (fun n => if_pos h) k
theorem no {α : Type} {c : Prop} [Decidable c] {f g : Nat → Option α} {r : α} (h : ¬ c) (k : Ev g r) : Ev (fun n => if c then f n else g n) r := Ev.congr (fun n => if_neg h) k
theorem w64 {x : Int} (h0 : -9223372036854775808 ≤ x) (h1 : x ≤ 9223372036854775807) : wrap64 x = x := by unfold wrap64; omega
def okK (c : Int) : Bool := decide (1 ≤ c) && decide (c ≤ 4)
def ok (s : S26) : Bool := okK s.f2
theorem there_is (a b c : Int) : btb_there.f a b c = some (okK c) := by
  unfold btb_there.f okK
  by_cases h1 : 1 ≤ c
  · have : ¬ c = 0 := by omega
    simp [h1, this]
  · simp [h1]
theorem is_is (a b c : Int) : cotterelref19_is.f a b c = some (okK c) := by
  unfold cotterelref19_is.f okK
  by_cases h1 : 1 ≤ c <;> simp [h1]
def hitB (pc : Int) (s : S26) : Bool := ok s && decide (s.f0 = pc)
def atF (pc : Int) : List S26 → Int → Int
  | [], _ => -1
  | s :: r, i => if hitB pc s = true then i else atF pc r (i + 1)
def atX (l : List S26) (pc : Int) : Int := atF pc l 0
theorem rd_at (l : List S26) (z : Nat) (h : z < l.length) : rd_T26 l (z : Int) = l[z] := by
  unfold rd_T26
  rw [Int.toNat_natCast, List.getD_eq_getElem?_getD, List.getElem?_eq_getElem h]
  rfl
theorem at_loop (l : List S26) (pc : Int) (hl : (l.length : Int) ≤ 9223372036854775807) : ∀ (d z : Nat), z + d = l.length → Ev (fun k => btb_at.l0 k l pc (l.length : Int) (z : Int)) (atF pc (l.drop z) z) := by
  intro d
  induction d with
  | zero =>
    intro z hz
    rw [List.drop_eq_nil_of_le (by omega)]
    exact Ev.step (f := fun _ => some (-1)) (fun k => by simp only [btb_at.l0]; rw [if_neg (by omega)]) (Ev.now _)
  | succ d ih =>
    intro z hz
    have hzl : z < l.length := by omega
    rw [List.drop_eq_getElem_cons hzl]
    refine Ev.step (f := fun k => if okK (l[z]).f2 = true then (if (l[z]).f0 = pc then some (z : Int) else btb_at.l0 k l pc (l.length : Int) ((z + 1 : Nat) : Int)) else btb_at.l0 k l pc (l.length : Int) ((z + 1 : Nat) : Int)) (fun k => by
      simp only [btb_at.l0]
      rw [if_pos (by omega), if_pos (by omega), if_pos (by omega), there_is, rd_at l z hzl, w64 (by omega) (by omega)]
      rfl) ?_
    have hn := ih (z + 1) (by omega)
    show Ev _ (if hitB pc l[z] = true then (z : Int) else atF pc (l.drop (z + 1)) ((z : Int) + 1))
    by_cases c : okK (l[z]).f2 = true
    · refine yes c ?_
      by_cases c2 : (l[z]).f0 = pc
      · rw [if_pos (by unfold hitB ok; simp [c, c2])]; exact yes c2 (Ev.now _)
      · rw [if_neg (by unfold hitB ok; simp [c2])]; exact no c2 hn
    · rw [if_neg (by unfold hitB ok; simp [c])]; exact no c hn
theorem at_is (l : List S26) (pc : Int) (hl : (l.length : Int) ≤ 9223372036854775807) : Ev (fun k => btb_at.f k l pc) (atX l pc) := by
  have := at_loop l pc hl l.length 0 (by omega)
  exact this
theorem rat_loop (l : List S26) (pc : Int) (hl : (l.length : Int) ≤ 9223372036854775807) : ∀ (d z : Nat), z + d = l.length → Ev (fun k => cotterelref19_at.l0 k l pc (z : Int)) (atF pc (l.drop z) z) := by
  intro d
  induction d with
  | zero =>
    intro z hz
    rw [List.drop_eq_nil_of_le (by omega)]
    exact Ev.step (f := fun _ => some (-1)) (fun k => by simp only [cotterelref19_at.l0]; rw [if_neg (by omega)]) (Ev.now _)
  | succ d ih =>
    intro z hz
    have hzl : z < l.length := by omega
    rw [List.drop_eq_getElem_cons hzl]
    refine Ev.step (f := fun k => if okK (l[z]).f2 = true then (if (l[z]).f0 = pc then some (z : Int) else cotterelref19_at.l0 k l pc ((z + 1 : Nat) : Int)) else cotterelref19_at.l0 k l pc ((z + 1 : Nat) : Int)) (fun k => by
      simp only [cotterelref19_at.l0]
      rw [if_pos (by omega), if_pos (by omega), is_is, rd_at l z hzl, w64 (by omega) (by omega)]
      rfl) ?_
    have hn := ih (z + 1) (by omega)
    show Ev _ (if hitB pc l[z] = true then (z : Int) else atF pc (l.drop (z + 1)) ((z : Int) + 1))
    by_cases c : okK (l[z]).f2 = true
    · refine yes c ?_
      by_cases c2 : (l[z]).f0 = pc
      · rw [if_pos (by unfold hitB ok; simp [c, c2])]; exact yes c2 (Ev.now _)
      · rw [if_neg (by unfold hitB ok; simp [c2])]; exact no c2 hn
    · rw [if_neg (by unfold hitB ok; simp [c])]; exact no c hn
theorem rat_is (l : List S26) (pc : Int) (hl : (l.length : Int) ≤ 9223372036854775807) : Ev (fun k => cotterelref19_at.f k l pc) (atX l pc) := by
  have := rat_loop l pc hl l.length 0 (by omega)
  exact this
theorem atF_spec (pc : Int) : ∀ (r : List S26) (i : Int), (atF pc r i = -1 ∧ ∀ s ∈ r, hitB pc s = false) ∨ ∃ (j : Nat) (s : S26), atF pc r i = i + j ∧ r[j]? = some s ∧ hitB pc s = true := by
  intro r
  induction r with
  | nil => intro i; exact .inl ⟨rfl, fun s hs => by simp at hs⟩
  | cons a r ih =>
    intro i
    unfold atF
    by_cases c : hitB pc a = true
    · rw [if_pos c]; exact .inr ⟨0, a, by omega, rfl, c⟩
    · rw [if_neg c]
      rcases ih (i + 1) with ⟨h1, h2⟩ | ⟨j, s, h1, h2, h3⟩
      · exact .inl ⟨h1, fun s hs => by
          rcases List.mem_cons.1 hs with rfl | hs
          · simpa using c
          · exact h2 s hs⟩
      · exact .inr ⟨j + 1, s, by rw [h1]; push_cast; omega, by simpa using h2, h3⟩
theorem atX_spec (l : List S26) (pc : Int) : (atX l pc = -1 ∧ ∀ s ∈ l, hitB pc s = false) ∨ ∃ (j : Nat) (s : S26), atX l pc = j ∧ l[j]? = some s ∧ hitB pc s = true := by
  rcases atF_spec pc l 0 with h | ⟨j, s, h1, h2⟩
  · exact .inl h
  · exact .inr ⟨j, s, by unfold atX; omega, h2⟩
def findX (l : List S26) (pc : Int) : Int × Int × Int × Bool := if 0 ≤ atX l pc then ((rd_T26 l (atX l pc)).f0, (rd_T26 l (atX l pc)).f1, (rd_T26 l (atX l pc)).f2, true) else (0, 0, 0, false)
theorem atX_lt (l : List S26) (pc : Int) : atX l pc < l.length := by
  rcases atX_spec l pc with ⟨h, _⟩ | ⟨j, s, h, h2, _⟩
  · omega
  · have := (List.getElem?_eq_some_iff.1 h2).1; omega
theorem find_is (l : List S26) (pc : Int) (hl : (l.length : Int) ≤ 9223372036854775807) : Ev (fun k => btb_Find.f k l pc) (findX l pc) := by
  unfold btb_Find.f
  refine Ev.bind (at_is l pc hl) ?_
  have := atX_lt l pc
  by_cases c : 0 ≤ atX l pc
  · rw [show findX l pc = ((rd_T26 l (atX l pc)).f0, (rd_T26 l (atX l pc)).f1, (rd_T26 l (atX l pc)).f2, true) from if_pos c]; exact yes c (yes c (yes this (Ev.now _)))
  · rw [show findX l pc = (0, 0, 0, false) from if_neg c]; exact no c (Ev.now _)
theorem rfind_is (l : List S26) (pc : Int) (hl : (l.length : Int) ≤ 9223372036854775807) : Ev (fun k => cotterelref19_Find.f k l pc) (findX l pc) := by
  unfold cotterelref19_Find.f
  refine Ev.bind (rat_is l pc hl) ?_
  have := atX_lt l pc
  by_cases c : 0 ≤ atX l pc
  · rw [show findX l pc = ((rd_T26 l (atX l pc)).f0, (rd_T26 l (atX l pc)).f1, (rd_T26 l (atX l pc)).f2, true) from if_pos c]; exact no (by omega) (yes c (yes this (Ev.now _)))
  · rw [show findX l pc = (0, 0, 0, false) from if_neg c]; exact yes (by omega) (Ev.now _)
theorem same_loop (l : List S26) (hl : (l.length : Int) ≤ 9223372036854775807) : ∀ (d z : Nat), z + d = l.length → Ev (fun k => cotterelsame_Btbs.l0 k l l (z : Int)) true := by
  intro d
  induction d with
  | zero =>
    intro z hz
    refine Ev.step (f := fun k => cotterelsame_Btbs.j1 k l l z false) (fun k => by simp only [cotterelsame_Btbs.l0]; rw [if_neg (by omega)]) ?_
    exact Ev.step (f := fun _ => some true) (fun k => by simp only [cotterelsame_Btbs.j1]; rfl) (Ev.now _)
  | succ d ih =>
    intro z hz
    refine Ev.step (f := fun k => cotterelsame_Btbs.j1 k l l z true) (fun k => by simp only [cotterelsame_Btbs.l0]; rw [if_pos (by omega), decide_eq_true (by omega)]) ?_
    refine Ev.step (f := fun k => cotterelsame_Btbs.l0 k l l ((z + 1 : Nat) : Int)) (fun k => ?_) (ih (z + 1) (by omega))
    simp only [cotterelsame_Btbs.j1, if_true]
    rw [if_pos (by omega), if_pos (by omega), if_pos (by omega), if_neg (by simp), w64 (by omega) (by omega)]
    rfl
theorem same_is (l : List S26) (hl : (l.length : Int) ≤ 9223372036854775807) : Ev (fun k => cotterelsame_Btbs.f k l l) true := by
  unfold cotterelsame_Btbs.f
  exact yes rfl (same_loop l hl l.length 0 (by omega))
def newN (n : Int) : Int := mn (mx n 0) 16
theorem newN_b (n : Int) : 0 ≤ newN n ∧ newN n ≤ 16 := by
  unfold newN mn mx
  constructor <;> (repeat' split) <;> omega
theorem new_is (n : Int) : btb_New.f n = some (List.replicate (newN n).toNat z26) := by
  have := newN_b n
  unfold btb_New.f
  rw [show mn (mx n 0) 16 = newN n from rfl, if_pos this.1, if_pos (by omega)]
theorem within_is (n : Int) : cotterelref19_within.f n 0 16 = some (newN n) := by
  unfold cotterelref19_within.f newN mn mx
  (repeat' split) <;> first | rfl | (exfalso; omega) | (congr 1; omega)
theorem rnew_is (n : Int) : cotterelref19_New.f n = some (List.replicate (newN n).toNat z26) := by
  have := newN_b n
  unfold cotterelref19_New.f
  rw [within_is]
  simp only [Option.bind_some]
  rw [if_pos this.1, if_pos (by omega)]
theorem awake_at : cotterellaw19_awake.f 40 = some true := by kernel_rfl
theorem awake_is : Ev (fun k => (cotterellaw19_awake.f k).bind fun t => some t) true :=
  Ev.bind (Ev.of (fun k => cotterellaw19_awake.mono k) awake_at) (Ev.now _)
theorem finds_pure (l : List S26) (pc n : Int) : ∃ k, cotterellaw19_BtbFinds.f k l pc n = some true := by
  refine Ev.rounds ?_
  unfold cotterellaw19_BtbFinds.f
  by_cases c : (l.length : Int) > 40
  · exact yes c awake_is
  · refine no c (Ev.bind (find_is l pc (by omega)) (Ev.bind (rfind_is l pc (by omega)) (yes (by simp) (yes (by simp) ?_))))
    rw [new_is, rnew_is]
    refine Ev.bind (Ev.now _) (Ev.bind (Ev.now _) (Ev.bind (same_is _ ?_) (yes rfl awake_is)))
    have := newN_b n
    rw [List.length_replicate]; omega
end Go.Proofs.Ytgacdbaegjnlfaa.PBtb
