/- The pure statements of FwdCuts, FwdFinds and FwdAligned: plain lemmas, no program. The conditions are those that each names. -/
import Derived.Test.YtaeglelhoenfgaaFwdP1
import Derived.Test.YtaeglelhoenfgaaPFwdx4
import Derived.Test.YtaeglelhoenfgaaPFwdx6
import Derived.Test.YtaeglelhoenfgaaPFwdx7
namespace Go.Proofs.Ytaeglelhoenfgaa.PFwd
set_option linter.unusedVariables false
set_option linter.unusedSimpArgs false
open Go Go.Proofs Go.RowKit Go.Proofs.YtaeglelhoenfgaaW.PrintWords Go.Proofs.Ytaeglelhoenfgaa.Plain
theorem awake_is (k : Nat) : cotterellaw34_awake.f k = some true := by
  unfold cotterellaw34_awake.f
  simp only [Option.bind_some]
  rfl
theorem covers_same (a n b m : Int) : cotterelref34_Covers.f a n b m = some (covB a n b m) := cov_is a n b m
theorem cuts_pure (a0 a1 a2 b0 b1 b2 d : Int) (hd : U d) : ∃ k, cotterellaw34_FwdCuts.f k a0 a1 a2 b0 b1 b2 d = some true := by
  refine ⟨6, ?_⟩
  unfold cotterellaw34_FwdCuts.f
  rw [cov_is, covers_same, cut_is, cut_same 6 (by decide) hd, awake_is]
  simp
def W37 (s : S37) : Prop := U s.f1 ∧ U s.f2
def W48 (s : S48) : Prop := U s.f0 ∧ U s.f1
theorem take_rev {α : Type} (l : List α) (d : α) {z : Int} (h0 : 0 ≤ z) (h1 : z < (l.length : Int)) : (l.take (z + 1).toNat).reverse = l.getD z.toNat d :: (l.take z.toNat).reverse := by
  have hk : z.toNat < l.length := by omega
  rw [show (z + 1).toNat = z.toNat + 1 by omega, List.take_succ_eq_append_getElem hk, List.reverse_append, List.getD_eq_getElem?_getD, List.getElem?_eq_getElem hk]
  rfl
theorem getD_mem {α : Type} (l : List α) (d : α) {z : Int} (h0 : 0 ≤ z) (h1 : z < (l.length : Int)) : l.getD z.toNat d ∈ l := by
  have hk : z.toNat < l.length := by omega
  rw [List.getD_eq_getElem?_getD, List.getElem?_eq_getElem hk]
  exact List.getElem_mem hk
theorem ref_l1 (b : List S48) (hb : ∀ s ∈ b, W48 s) (hl : (b.length : Int) ≤ 9223372036854775807) (a n : Int) (ha : U a) : ∀ (d : Nat) (z : Int), -1 ≤ z → z < (b.length : Int) → (z + 1).toNat = d →
    Ev (fun k => cotterelref34_Find.l1 k b a n z) (findX a n ((b.take (z + 1).toNat).reverse.map ofSb)) := by
  intro d
  induction d with
  | zero =>
    intro z h0 h1 hd
    obtain rfl : z = -1 := by omega
    refine Ev.step (f := fun _ => some (0, 0, 0)) (fun k => by simp only [cotterelref34_Find.l1]; rw [if_neg (by decide)]) ?_
    exact Ev.now _
  | succ d ih =>
    intro z h0 h1 hd
    have hz : 0 ≤ z := by omega
    obtain ⟨s, es⟩ : ∃ s, rd_T48 b z = s := ⟨_, rfl⟩
    have hs : W48 s := es ▸ hb _ (getD_mem b z48 hz h1)
    have ht : (b.take (z + 1).toNat).reverse.map ofSb = ofSb s :: (b.take z.toNat).reverse.map ofSb := by rw [take_rev b z48 hz h1, List.map_cons]; exact congrArg (fun x => ofSb x :: _) es
    rw [ht]
    refine Ev.step (f := fun k => (cotterelref33_Overlap.f k a n s.f0 s.f2).bind fun t => if t = true then (cotterelref34_Covers.f a n s.f0 s.f2).bind fun t2 => (if t2 = true then (cotterelref34_Cut.f k s.f1 s.f0 a n).bind fun t3 => some (1, t3, 0) else some (2, 0, 0)) else cotterelref34_Find.l1 k b a n (z - 1)) (fun k => by
      simp only [cotterelref34_Find.l1]
      rw [if_pos (by omega), if_pos hz, if_pos h1, es, wrap64_small (by omega) (by omega)]) ?_
    refine Ev.bind (ov_same ha hs.1 n s.f2) ?_
    show Ev _ (if ovB a n s.f0 s.f2 = true then hitX a n (ofSb s) else findX a n ((b.take z.toNat).reverse.map ofSb))
    by_cases c : ovB a n s.f0 s.f2 = true
    · rw [if_pos c]
      refine yes c ?_
      rw [covers_same]
      simp only [Option.bind_some]
      unfold hitX
      show Ev _ (if covB a n s.f0 s.f2 = true then (1, cutW s.f1 s.f0 a n, 0) else (2, 0, 0))
      by_cases c2 : covB a n s.f0 s.f2 = true
      · rw [if_pos c2]
        exact yes c2 ⟨6, fun k hk => by show (cotterelref34_Cut.f k _ _ _ _).bind _ = _; rw [cut_same k hk hs.2]; rfl⟩
      · rw [if_neg c2]
        exact no c2 (Ev.now _)
    · rw [if_neg c]
      refine no c ?_
      have := ih (z - 1) (by omega) (by omega) (by omega)
      rw [show z - 1 + 1 = z by omega] at this
      exact this
theorem ref_l0 (l : List S37) (b : List S48) (hw : ∀ s ∈ l, W37 s) (hb : ∀ s ∈ b, W48 s) (hl : (l.length : Int) ≤ 9223372036854775807) (hl' : (b.length : Int) ≤ 9223372036854775807) (q a n : Int) (ha : U a) : ∀ (d : Nat) (z : Int), -1 ≤ z → z < (l.length : Int) → (z + 1).toNat = d →
    Ev (fun k => cotterelref34_Find.l0 k l b q a n z) (findX a n (sqs q (l.take (z + 1).toNat).reverse ++ b.reverse.map ofSb)) := by
  intro d
  induction d with
  | zero =>
    intro z h0 h1 hd
    obtain rfl : z = -1 := by omega
    refine Ev.step (f := fun k => cotterelref34_Find.l1 k b a n ((b.length : Int) - 1)) (fun k => by simp only [cotterelref34_Find.l0]; rw [if_neg (by decide), wrap64_small (by omega) (by omega)]) ?_
    have := ref_l1 b hb hl' a n ha b.length ((b.length : Int) - 1) (by omega) (by omega) (by omega)
    rw [show ((b.length : Int) - 1 + 1).toNat = b.length by omega, List.take_length] at this
    exact this
  | succ d ih =>
    intro z h0 h1 hd
    have hz : 0 ≤ z := by omega
    obtain ⟨s, es⟩ : ∃ s, rd_T37 l z = s := ⟨_, rfl⟩
    have hs : W37 s := es ▸ hw _ (getD_mem l z37 hz h1)
    have hnext := ih (z - 1) (by omega) (by omega) (by omega)
    rw [show z - 1 + 1 = z by omega] at hnext
    have ht : sqs q (l.take (z + 1).toNat).reverse = (if sqOk q s = true then [ofSq s] else []) ++ sqs q (l.take z.toNat).reverse := by
      rw [take_rev l z37 hz h1, show l.getD z.toNat z37 = s from es]
      unfold sqs
      rw [List.filter_cons]
      by_cases c : sqOk q s = true <;> simp [c]
    rw [ht]
    have skip : ∀ x0 x1 x2 x3 x4, Ev (fun k => cotterelref34_Find.j1 k l b q a n z true x0 x1 x2 x3 x4) (findX a n (sqs q (l.take z.toNat).reverse ++ b.reverse.map ofSb)) := fun _ _ _ _ _ =>
      Ev.step (f := fun k => cotterelref34_Find.l0 k l b q a n (z - 1)) (fun k => by simp only [cotterelref34_Find.j1, if_true]; rw [wrap64_small (by omega) (by omega)]) hnext
    refine Ev.step (f := fun k => if s.f4 = true then (if s.f0 ≥ q then cotterelref34_Find.j1 k l b q a n z true s.f0 s.f1 s.f2 s.f3 s.f4 else (cotterelref33_Overlap.f k a n s.f1 s.f3).bind fun t => cotterelref34_Find.j1 k l b q a n z (!t) s.f0 s.f1 s.f2 s.f3 s.f4) else cotterelref34_Find.j1 k l b q a n z true s.f0 s.f1 s.f2 s.f3 s.f4) (fun k => by
      simp only [cotterelref34_Find.l0]
      rw [if_pos (by omega), if_pos hz, if_pos h1, es]) ?_
    by_cases c4 : s.f4 = true
    · refine yes c4 ?_
      by_cases cq : s.f0 ≥ q
      · refine yes cq ?_
        have : sqOk q s = false := by unfold sqOk; rw [decide_eq_false (by omega)]; simp
        rw [this]
        exact skip _ _ _ _ _
      · refine no cq ?_
        have hok : sqOk q s = true := by unfold sqOk; rw [c4, decide_eq_true (by omega)]; rfl
        rw [hok, if_pos rfl]
        refine Ev.bind (ov_same ha hs.1 n s.f3) ?_
        show Ev _ (if ovB a n s.f1 s.f3 = true then hitX a n (ofSq s) else findX a n (sqs q (l.take z.toNat).reverse ++ b.reverse.map ofSb))
        cases c : ovB a n s.f1 s.f3 with
        | true =>
          refine Ev.step (f := fun k => (cotterelref34_Covers.f a n s.f1 s.f3).bind fun t => if t = true then (cotterelref34_Cut.f k s.f2 s.f1 a n).bind fun t2 => some (1, t2, s.f0) else some (2, 0, s.f0)) (fun k => by simp only [cotterelref34_Find.j1, Bool.not_true, Bool.false_eq_true, if_false]) ?_
          rw [covers_same]
          simp only [Option.bind_some, if_true]
          unfold hitX
          show Ev _ (if covB a n s.f1 s.f3 = true then (1, cutW s.f2 s.f1 a n, s.f0) else (2, 0, s.f0))
          by_cases c2 : covB a n s.f1 s.f3 = true
          · rw [if_pos c2]
            exact yes c2 ⟨6, fun k hk => by show (cotterelref34_Cut.f k _ _ _ _).bind _ = _; rw [cut_same k hk hs.2]; rfl⟩
          · rw [if_neg c2]
            exact no c2 (Ev.now _)
        | false =>
          simp only [Bool.not_false, Bool.false_eq_true, if_false]
          exact skip _ _ _ _ _
    · refine no c4 ?_
      have : sqOk q s = false := by unfold sqOk; simp [c4]
      rw [this]
      exact skip _ _ _ _ _
theorem find_same (l : List S37) (b : List S48) (hw : ∀ s ∈ l, W37 s) (hb : ∀ s ∈ b, W48 s) (hl : (l.length : Int) ≤ 9223372036854775807) (hl' : (b.length : Int) ≤ 9223372036854775807) (q a n : Int) (ha : U a) :
    Ev (fun k => cotterelref34_Find.f k l b q a n) (findX a n (old q l b)) := by
  have := ref_l0 l b hw hb hl hl' q a n ha l.length ((l.length : Int) - 1) (by omega) (by omega) (by omega)
  rw [show ((l.length : Int) - 1 + 1).toNat = l.length by omega, List.take_length] at this
  refine Ev.congr (fun k => ?_) this
  unfold cotterelref34_Find.f
  rw [wrap64_small (by omega) (by omega)]
theorem finds_pure (l : List S37) (b : List S48) (hw : ∀ s ∈ l, W37 s) (hb : ∀ s ∈ b, W48 s) (q a n : Int) (ha : U a) : ∃ k, cotterellaw34_FwdFinds.f k l b q a n = some true := by
  refine Ev.rounds ?_
  have aw : ∀ (g : Nat → Option Bool), (∀ k, g k = (cotterellaw34_awake.f k).bind fun t => some t) → Ev g true := fun g hg => Ev.congr (fun k => (hg k).trans (by rw [awake_is]; rfl)) (Ev.now true)
  have out : Ev (fun k => cotterellaw34_FwdFinds.j0 k l b true q a n) true :=
    Ev.step (f := fun k => (cotterellaw34_awake.f k).bind fun t => some t) (fun k => by simp only [cotterellaw34_FwdFinds.j0, if_true]) (aw _ fun _ => rfl)
  unfold cotterellaw34_FwdFinds.f
  by_cases c0 : (l.length : Int) > 40
  · exact yes c0 out
  · refine no c0 ?_
    by_cases c1 : (b.length : Int) > 40
    · rw [decide_eq_true c1]; exact out
    · rw [decide_eq_false c1]
      refine Ev.step (f := fun k => (fwd_Find.f k l b q a n).bind fun x => (cotterelref34_Find.f k l b q a n).bind fun y => if x.1 = y.1 then (if x.2.1 = y.2.1 then (if x.2.2 = y.2.2 then (cotterellaw34_awake.f k).bind fun t => some t else some false) else some false) else some false) (fun k => by simp only [cotterellaw34_FwdFinds.j0, Bool.false_eq_true, if_false]) ?_
      refine Ev.bind (a := findX a n (old q l b)) (Ev.now _) (Ev.bind (find_same l b hw hb (by omega) (by omega) q a n ha) ?_)
      exact yes rfl (yes rfl (yes rfl (aw _ fun _ => rfl)))
end Go.Proofs.Ytaeglelhoenfgaa.PFwd
