/- The law UnitDone: a walk of the code. The conditions are those that each theorem names. -/
import Derived.Test.YtbkjdikiepnhbaaFlL
import Derived.Test.YtbkjdikiepnhbaaFlJ
namespace Go.Proofs.Ytbkjdikiepnhbaa.Fl
open Go Go.Proofs Go.RowKit Go.Proofs.YtbkjdikiepnhbaaW.PrintWords Go.Proofs.YtbkjdikiepnhbaaW.PrintLast Go.Proofs.YtbkjdikiepnhbaaW.PrintMore Go.Proofs.Ytbkjdikiepnhbaa.Boxes
attribute [local go_sem] max2_int min2_int max_two min_two max_three min_three max_four min_four   -- for this text's walks alone
set_option linter.unusedVariables false
set_option linter.unusedSimpArgs false

set_option maxHeartbeats 8000000 in
set_option maxRecDepth 100000 in
theorem unitDone (A0 : Option Addr) (c0 : Nat) (l : List S44) (s : Int) (w : World) (hr0 : Kd.C k44 w A0 l.length l) (hc0 : l.length ≤ c0) :
    Calls Try.prog 6 #[.slice A0 l.length c0, .int .u64 s] w fun e w' => e = .returned (.bool true) ∧ Below w.heap.size w w' := by
  have HR0 := Aside0.mk hr0
  have HC0 := Aside0.mk hc0
  clear hr0 hc0
  have S1 := St.start w
  by_cases c : (l.length : Int) > 60
  · have cb : decide (60 < (l.length : Int)) = true := decide_eq_true c
    clear c
    go_enter Try.func6, Try.ntmps6
    go_wp2_with (first | (go_at_call 7; (with_reducible refine (awake _).mono ?_); rintro e_ w2 ⟨rfl, hB_⟩; have S2 := S1.call hB_; clear hB_; clear S1))
    go_ret
    exact ⟨rfl, S2.below⟩
  · have cb : decide (60 < (l.length : Int)) = false := decide_eq_false c
    have HL := Aside0.mk (show l.length ≤ 1000 by omega)
    have HD := Aside0.mk (show (doneX l).length ≤ 1001 by unfold doneX; rw [srtX_len]; have := List.length_filter_le (fun x : S44 => decide (x.f2 ≤ 0)) l; omega)
    have HT := Aside0.mk (show (takeX l s).length ≤ 1001 by have := takeX_len s l; omega)
    have HCT := Aside0.mk (show (cutX l s).length ≤ 1001 by unfold cutX; have := List.length_filter_le (fun x : S44 => decide (x.f0.f1 ≤ s)) l; omega)
    clear c
    go_enter Try.func6, Try.ntmps6
    go_wp2_with (first | (go_at_call 18; (with_reducible refine (done A0 c0 l _ (Kd.C_below HR0.out S1.below) HC0.out HL.out).mono ?_); rintro e_ w2 ⟨va, rfl, hR_, hB_⟩; have S2 := S1.call hB_; have HOa := Aside0.mk (Kd.R_lower hR_ (below_size S1.below)); obtain ⟨Aa, ca, ea⟩ := Kd.R_slice HOa.out; subst ea; clear hR_ hB_; clear S1) | (go_at_call 19; (with_reducible refine (rdone A0 c0 l _ (Kd.C_below HR0.out S2.below) HC0.out HL.out).mono ?_); rintro e_ w3 ⟨vb, rfl, hR_, hB_⟩; have S3 := S2.call hB_; have HOb := Aside0.mk (Kd.R_lower hR_ (below_size S2.below)); obtain ⟨Ab, cb, eb⟩ := Kd.R_slice HOb.out; subst eb; have HOa2 := Aside0.mk (Kd.R_below HOa.out hB_); clear hR_ hB_; clear S2) | (go_at_call 14; (with_reducible refine (flights _ _ _ _ (doneX l) _ (Kd.R_reads' HOa2.out).2.2 (Kd.R_reads' HOb.out).2.2 HD.out).mono ?_); rintro e_ w4 ⟨rfl, hB_⟩; have S4 := S3.call hB_; clear hB_; clear S3) | (go_at_call 20; (with_reducible refine (take A0 c0 l s _ (Kd.C_below HR0.out S4.below) HC0.out HL.out).mono ?_); rintro e_ w5 ⟨⟨Ac, cc, rfl, hC_⟩, hB_⟩; have S5 := S4.call hB_; have HCc := Aside0.mk hC_; clear hC_ hB_; clear S4) | (go_at_call 21; (with_reducible refine (rtake A0 c0 l s _ (Kd.C_below HR0.out S5.below) HC0.out HL.out).mono ?_); rintro e_ w6 ⟨vd, rfl, hR_, hB_⟩; have S6 := S5.call hB_; have HOd := Aside0.mk (Kd.R_lower hR_ (below_size S5.below)); obtain ⟨Ad, cd, ed⟩ := Kd.R_slice HOd.out; subst ed; have HCc2 := Aside0.mk (Kd.C_below HCc.out hB_); clear hR_ hB_; clear S5) | (go_at_call 14; (with_reducible refine (flights _ _ _ _ (takeX l s) _ HCc2.out (Kd.R_reads' HOd.out).2.2 HT.out).mono ?_); rintro e_ w7 ⟨rfl, hB_⟩; have S7 := S6.call hB_; clear hB_; clear S6) | (go_at_call 22; (with_reducible refine (cut A0 c0 l s _ (Kd.C_below HR0.out S7.below) HC0.out HL.out).mono ?_); rintro e_ w8 ⟨ve, rfl, hR_, hB_⟩; have S8 := S7.call hB_; have HOe := Aside0.mk (Kd.R_lower hR_ (below_size S7.below)); obtain ⟨Ae, ce, ee⟩ := Kd.R_slice HOe.out; subst ee; clear hR_ hB_; clear S7) | (go_at_call 23; (with_reducible refine (rcut A0 c0 l s _ (Kd.C_below HR0.out S8.below) HC0.out HL.out).mono ?_); rintro e_ w9 ⟨vf, rfl, hR_, hB_⟩; have S9 := S8.call hB_; have HOf := Aside0.mk (Kd.R_lower hR_ (below_size S8.below)); obtain ⟨Af, cf, ef⟩ := Kd.R_slice HOf.out; subst ef; have HOe2 := Aside0.mk (Kd.R_below HOe.out hB_); clear hR_ hB_; clear S8) | (go_at_call 14; (with_reducible refine (flights _ _ _ _ (cutX l s) _ (Kd.R_reads' HOe2.out).2.2 (Kd.R_reads' HOf.out).2.2 HCT.out).mono ?_); rintro e_ w10 ⟨rfl, hB_⟩; have S10 := S9.call hB_; clear hB_; clear S9) | (go_at_call 7; (with_reducible refine (awake _).mono ?_); rintro e_ w11 ⟨rfl, hB_⟩; have S11 := S10.call hB_; clear hB_; clear S10))
    go_ret
    exact ⟨rfl, S11.below⟩

end Go.Proofs.Ytbkjdikiepnhbaa.Fl
