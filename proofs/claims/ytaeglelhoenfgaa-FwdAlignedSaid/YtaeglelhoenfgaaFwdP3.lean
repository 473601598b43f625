/- The pure statement of FwdAligned: plain lemmas, no program. The conditions are those that each names. -/
import Derived.Test.YtaeglelhoenfgaaFwdP2
namespace Go.Proofs.Ytaeglelhoenfgaa.PFwd
set_option linter.unusedVariables false
set_option linter.unusedSimpArgs false
open Go Go.Proofs Go.RowKit Go.Proofs.YtaeglelhoenfgaaW.PrintWords Go.Proofs.Ytaeglelhoenfgaa.Plain
def Sz (n : Int) : Prop := n = 1 ∨ n = 2 ∨ n = 4
theorem size_is (n : Int) : (cotterelref34_Size.f n = some true ∧ Sz n) ∨ cotterelref34_Size.f n = some false := by
  unfold cotterelref34_Size.f Sz
  by_cases h1 : n = 1
  · left; simp [h1]
  · by_cases h2 : n = 2
    · left; simp [h2]
    · by_cases h4 : n = 4
      · left; simp [h4]
      · right; simp [h1, h2, h4]
theorem fr_sz {n : Int} (h : Sz n) : fr n = n := by
  rcases h with rfl | rfl | rfl <;> decide
theorem ov_sz {a b n m : Int} (ha : U a) (hb : U b) (hn : Sz n) (hm : Sz m) : ovB a n b m = decide (a < b + m ∧ b < a + n) := by
  rw [ov_nat ha hb, fr_sz hn, fr_sz hm]
  congr 1
  unfold mx mn
  rw [eq_iff_iff]
  rcases hn with rfl | rfl | rfl <;> rcases hm with rfl | rfl | rfl <;> (repeat' split) <;> omega
theorem share_sz {a b n m : Int} (ha : U a) (hb : U b) (hn : Sz n) (hm : Sz m) (q q' : Int) : cotterellaw34_share.f q a n q' b m = some (ovB a n b m) := by
  rw [ov_sz ha hb hn hm]
  unfold cotterellaw34_share.f
  obtain ⟨h0, h1⟩ := ha
  obtain ⟨h2, h3⟩ := hb
  have e : ∀ x : Int, 0 ≤ x → x < 8589934592 → IntKind.u64.wrap x = x := fun x g0 g1 => by rw [wrap_u64]; omega
  have gn : 1 ≤ n ∧ n ≤ 4 := by rcases hn with rfl | rfl | rfl <;> omega
  have gm : 1 ≤ m ∧ m ≤ 4 := by rcases hm with rfl | rfl | rfl <;> omega
  rw [e a (by omega) (by omega), e b (by omega) (by omega), e n (by omega) (by omega), e m (by omega) (by omega), e (b + m) (by omega) (by omega), e (a + n) (by omega) (by omega)]
  by_cases c : a < b + m
  · rw [if_pos c]; simp [c]
  · rw [if_neg c]; simp [c]
theorem cov_sz {a b n m : Int} (ha : U a) (hb : U b) (hn : Sz n) (hm : Sz m) : covB a n b m = decide (b ≤ a ∧ a + n ≤ b + m) := by
  obtain ⟨h0, h1⟩ := ha
  obtain ⟨h2, h3⟩ := hb
  have e : ∀ x : Int, 0 ≤ x → x < 8589934592 → IntKind.u64.wrap x = x := fun x g0 g1 => by rw [wrap_u64]; omega
  have gn : 1 ≤ n ∧ n ≤ 4 := by rcases hn with rfl | rfl | rfl <;> omega
  have gm : 1 ≤ m ∧ m ≤ 4 := by rcases hm with rfl | rfl | rfl <;> omega
  unfold covB
  by_cases c : b > a
  · rw [dif_pos (by omega)]; simp; omega
  · rw [dif_neg (by omega), e a (by omega) (by omega), e b (by omega) (by omega), e n (by omega) (by omega), e m (by omega) (by omega), e (b + m) (by omega) (by omega), e (a + n) (by omega) (by omega)]
    congr 1
    rw [eq_iff_iff]
    omega
theorem ov_cov {a b n m : Int} (ha : U a) (hb : U b) (hn : Sz n) (hm : Sz m) (h1 : Int.tmod a (n % 4294967296) = 0) (h2 : Int.tmod b (m % 4294967296) = 0) (hle : m ≥ n) (ho : ovB a n b m = true) : covB a n b m = true := by
  rw [ov_sz ha hb hn hm, decide_eq_true_eq] at ho
  rw [cov_sz ha hb hn hm, decide_eq_true_eq]
  rw [Int.tmod_eq_emod_of_nonneg ha.1] at h1
  rw [Int.tmod_eq_emod_of_nonneg hb.1] at h2
  rcases hn with rfl | rfl | rfl <;> rcases hm with rfl | rfl | rfl <;> simp only [show (1 : Int) % 4294967296 = 1 by decide, show (2 : Int) % 4294967296 = 2 by decide, show (4 : Int) % 4294967296 = 4 by decide] at h1 h2 <;> omega
theorem aligned_pure (a0 a1 a2 b0 b1 b2 d : Int) (ha : U a1) (hb : U b1) (hd : U d) : ∃ k, cotterellaw34_FwdAligned.f k a0 a1 a2 b0 b1 b2 d = some true := by
  refine Ev.rounds ?_
  have aw : ∀ (g : Nat → Option Bool), (∀ k, g k = (cotterellaw34_awake.f k).bind fun t => some t) → Ev g true := fun g hg => Ev.congr (fun k => (hg k).trans (by rw [awake_is]; rfl)) (Ev.now true)
  have out : Ev (fun k => cotterellaw34_FwdAligned.j0 k d true a0 a1 a2 b0 b1 b2) true :=
    Ev.step (f := fun k => (cotterellaw34_awake.f k).bind fun t => some t) (fun k => by simp only [cotterellaw34_FwdAligned.j0, if_true]) (aw _ fun _ => rfl)
  unfold cotterellaw34_FwdAligned.f
  rcases size_is a2 with ⟨e1, hn⟩ | e1
  · rcases size_is b2 with ⟨e2, hm⟩ | e2
    · rw [e1, e2]
      simp only [Option.bind_some, if_true]
      have gn : ¬ a2 % 4294967296 = 0 := by rcases hn with rfl | rfl | rfl <;> decide
      have gm : ¬ b2 % 4294967296 = 0 := by rcases hm with rfl | rfl | rfl <;> decide
      refine no gn ?_
      by_cases c1 : Int.tmod a1 (a2 % 4294967296) = 0
      · refine yes c1 (no gm ?_)
        by_cases c2 : Int.tmod b1 (b2 % 4294967296) = 0
        · rw [c2]
          have ho : old 2 [(⟨1, b1, d, b2, true⟩ : S37)] [] = [⟨b1, d, b2, 1⟩] := by unfold old sqs; rfl
          have last : ∀ x : Int, (x != 0) = ovB a1 a2 b1 b2 → Ev (fun k => cotterellaw34_FwdAligned.j1 k x false a0 a1 a2 b0 b1 b2) true := fun x hx => by
            refine Ev.step (f := fun k => (cotterellaw34_awake.f k).bind fun t => some t) (fun k => ?_) (aw _ fun _ => rfl)
            simp only [cotterellaw34_FwdAligned.j1, Bool.false_eq_true, if_false]
            rw [share_sz ha hb hn hm, hx]
            simp
          refine Ev.step (f := fun k => (fwd_Find.f k [(⟨1, b1, d, b2, true⟩ : S37)] [] 2 a1 a2).bind fun t => (if b2 ≥ a2 then (if t.1 = 2 then cotterellaw34_FwdAligned.j1 k t.1 true a0 a1 a2 b0 b1 b2 else (if t.1 = 1 then ((fwd_Covers.f a1 a2 b1 b2).bind fun u => if u = true then (if t.2.2 = 1 then ((fwd_Cut.f d b1 a1 a2).bind fun v => cotterellaw34_FwdAligned.j1 k t.1 (t.2.1 != v) a0 a1 a2 b0 b1 b2) else cotterellaw34_FwdAligned.j1 k t.1 true a0 a1 a2 b0 b1 b2) else cotterellaw34_FwdAligned.j1 k t.1 true a0 a1 a2 b0 b1 b2) else cotterellaw34_FwdAligned.j1 k t.1 false a0 a1 a2 b0 b1 b2)) else (if t.1 = 1 then ((fwd_Covers.f a1 a2 b1 b2).bind fun u => if u = true then (if t.2.2 = 1 then ((fwd_Cut.f d b1 a1 a2).bind fun v => cotterellaw34_FwdAligned.j1 k t.1 (t.2.1 != v) a0 a1 a2 b0 b1 b2) else cotterellaw34_FwdAligned.j1 k t.1 true a0 a1 a2 b0 b1 b2) else cotterellaw34_FwdAligned.j1 k t.1 true a0 a1 a2 b0 b1 b2) else cotterellaw34_FwdAligned.j1 k t.1 false a0 a1 a2 b0 b1 b2))) (fun k => by
            simp only [cotterellaw34_FwdAligned.j0]; rfl) ?_
          refine Ev.bind (a := findX a1 a2 [⟨b1, d, b2, 1⟩]) (ho ▸ Ev.now _) ?_
          cases co : ovB a1 a2 b1 b2 with
          | false =>
            have ef : findX a1 a2 [⟨b1, d, b2, 1⟩] = (0, 0, 0) := by unfold findX; rw [show ovB a1 a2 b1 b2 = false from co]; rfl
            rw [ef]
            by_cases c3 : b2 ≥ a2
            · refine yes c3 (no (by decide) (no (by decide) (last 0 (by rw [co]; rfl))))
            · refine no c3 (no (by decide) (last 0 (by rw [co]; rfl)))
          | true =>
            cases cc : covB a1 a2 b1 b2 with
            | true =>
              have ef : findX a1 a2 [⟨b1, d, b2, 1⟩] = (1, cutW d b1 a1 a2, 1) := by unfold findX; rw [show ovB a1 a2 b1 b2 = true from co]; unfold hitX; rw [show covB a1 a2 b1 b2 = true from cc]; rfl
              rw [ef]
              have fin : Ev (fun k => (fwd_Covers.f a1 a2 b1 b2).bind fun u => if u = true then (if (1 : Int) = 1 then ((fwd_Cut.f d b1 a1 a2).bind fun v => cotterellaw34_FwdAligned.j1 k 1 (cutW d b1 a1 a2 != v) a0 a1 a2 b0 b1 b2) else cotterellaw34_FwdAligned.j1 k 1 true a0 a1 a2 b0 b1 b2) else cotterellaw34_FwdAligned.j1 k 1 true a0 a1 a2 b0 b1 b2) true := by
                rw [cov_is, cc, cut_is]
                refine Ev.bind (a := true) (Ev.now _) (yes rfl (yes rfl (Ev.bind (a := cutW d b1 a1 a2) (Ev.now _) ?_)))
                rw [show (cutW d b1 a1 a2 != cutW d b1 a1 a2) = false by simp]
                exact last 1 (by rw [co]; rfl)
              by_cases c3 : b2 ≥ a2
              · exact yes c3 (no (show ¬ (1 : Int) = 2 by decide) (yes rfl fin))
              · exact no c3 (yes rfl fin)
            | false =>
              have ef : findX a1 a2 [⟨b1, d, b2, 1⟩] = (2, 0, 1) := by unfold findX; rw [show ovB a1 a2 b1 b2 = true from co]; unfold hitX; rw [show covB a1 a2 b1 b2 = false from cc]; rfl
              rw [ef]
              have c3 : ¬ b2 ≥ a2 := fun h => by rw [ov_cov ha hb hn hm c1 c2 h co] at cc; cases cc
              exact no c3 (no (by decide) (last 2 (by rw [co]; rfl)))
        · rw [show (Int.tmod b1 (b2 % 4294967296) != 0) = true by simpa using c2]
          exact out
      · exact no c1 out
    · rw [e1, e2]; exact Ev.bind (a := true) (Ev.now _) (yes rfl (Ev.bind (a := false) (Ev.now _) (no (by decide) out)))
  · rw [e1]; exact Ev.bind (a := false) (Ev.now _) (no (by decide) out)
end Go.Proofs.Ytaeglelhoenfgaa.PFwd
