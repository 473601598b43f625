/- Walks of loads and stores. The conditions are those that each theorem names. -/
import Derived.Test.YtmpnnppgppoliaaEaM1
namespace Go.Proofs.Ytmpnnppgppoliaa.Ea
open Go.Proofs.Ytmpnnppgppoliaa.Ld Go Go.Proofs Go.RowKit Go.Proofs.YtmpnnppgppoliaaW.PrintWords Go.Proofs.YtmpnnppgppoliaaW.PrintLast Go.Proofs.YtmpnnppgppoliaaW.PrintMore Go.Proofs.Ytmpnnppgppoliaa.Boxes Go.Proofs.Ytmpnnppgppoliaa.PFwd
attribute [local go_sem] max2_int min2_int max_two min_two max_three min_three max_four min_four   -- for this text's walks alone
set_option linter.unusedVariables false
set_option linter.unusedSimpArgs false

/-- What is under way: the variable that holds three rows, and what it had. -/
structure ES (w0 W : World) (g nh : Nat) (Aq Al : Option Addr) (cq cl ch : Nat) (q : List S37) (l : List S79) (h : List Int) (L : List Bx) : Prop where
  st : St w0 W (⟨g, #[.slice Aq q.length cq, .slice Al l.length cl, .slice (some ⟨nh, 0, none⟩) h.length ch], 31⟩ :: ⟨nh, (h.map (Value.int .u32)).toArray, 32⟩ :: L)
  rq : Kd.R k37 56 W w0.heap.size (fun _ => True) (.slice Aq q.length cq) q
  rl : Kd.R k79 79 W w0.heap.size (fun _ => True) (.slice Al l.length cl) l

theorem had_at {h : List Int} {k : Int} (h0 : 0 ≤ k) (h1 : k < (h.length : Int)) : (h.map (Value.int .u32)).toArray[k.toNat]? = some (.int .u32 (rd h k)) := by
  have hk : k.toNat < h.length := by omega
  unfold rd
  simp [hk]
theorem had_set {h : List Int} {k v : Int} (h0 : 0 ≤ k) (h1 : k < (h.length : Int)) : (h.map (Value.int .u32)).toArray.setIfInBounds k.toNat (.int .u32 v) = ((h.set k.toNat v).map (Value.int .u32)).toArray := by
  rw [List.setIfInBounds_toArray, List.map_set]
theorem k37_E : k37.E = [] := rfl
theorem k79_E : k79.E = [] := rfl
theorem cSetL {l l1 : List S79} {k a f : Int} (hl : l.length ≤ 200) (h1 : setL l ⟨k + 1, 0, a, 4, true, true, f, false⟩ = l1) {A : Option Addr} {c : Nat} {w : World} (hC : Kd.C k79 w A l.length l) :
    Calls Try.prog 28 #[.slice A l.length c, .agg #[.int .u64 (k + 1), .int .u32 0, .int .u32 a, .int .i64 4, .bool true, .bool true, .int .u64 f, .bool false]] w fun e w' => ∃ A c, e = .returned (.slice A l1.length c) ∧ Kd.R k79 79 w' w.heap.size (fun _ => True) (.slice A l1.length c) l1 ∧ Below w.heap.size w w' := by
  subst h1
  refine (lqSet A c l ⟨k + 1, 0, a, 4, true, true, f, false⟩ w hC hl).mono ?_
  rintro e w' ⟨r, rfl, hR, hB⟩
  obtain ⟨A, c, rfl⟩ := Kd.R_slice hR
  exact ⟨A, c, rfl, hR, hB⟩
theorem cFindL {q : List S37} {Aq : Option Addr} {cq : Nat} {k a kd v fr : Int} {w : World} {base : Nat} (h : findX a 4 (old (k + 1) q []) = (kd, v, fr)) (hR : Kd.R k37 56 w base (fun _ => True) (.slice Aq q.length cq) q) :
    Calls Try.prog 14 #[.slice Aq q.length cq, .slice none 0 0, .int .u64 (k + 1), .int .u32 a, .int .i64 4] w fun e w' => e = .returned (.tuple #[.int .i64 kd, .int .u32 v, .int .u64 fr]) ∧ Below w.heap.size w w' :=
  fwd_Find.calls 0 Aq cq q none 0 [] (k + 1) a 4 kd v fr w (Kd.R_reads' hR).2.2 (Kd.R_reads' hR).2.1 (Kd.R_reads' (Kd.R_nil k48 64 w 0 (fun _ => True))).2.2 (Nat.le_refl _) (by unfold fwd_Find.f; rw [h])
/-- The place of an access. -/
def plA (a : Ac) : Int := 4 * (a.f1 % 8)
theorem plA_ok (a : Ac) : Okm 64 (plA a) 4 := by unfold Okm plA; omega
/-- What a load has now, and from which store. -/
def hasX (q : List S37) (a : Ac) (k : Int) (m : List Int) : Int × Int := let r := findX (plA a) 4 (old (k + 1) q []); if r.1 = 0 then (rdX m (plA a) 4, 0) else (r.2.1, r.2.2)
set_option maxHeartbeats 16000000 in
set_option maxRecDepth 100000 in
theorem loadsW (a : Ac) (ha : 0 ≤ a.f1) (k : Int) (w0 w : World) (g nh : Nat) (Aq Al Ap : Option Addr) (cq cl ch cp : Nat) (q : List S37) (l : List S79) (h m : List Int) (L : List Bx) (hE : ES w0 w g nh Aq Al cq cl ch q l h L) (hk : 0 ≤ k ∧ k < (h.length : Int) ∧ k ≤ 1000) (hll : l.length ≤ 200) (hm : m.length = 64) (hmc : m.length ≤ cp) (hC : Kd.C (Kd.int .u8) w Ap m.length m) :
    Calls Try.prog 12 #[.pointer (some ⟨g, 0, none⟩), .agg #[.bool a.f0, .int .u8 a.f1, .int .u32 a.f2], .int .i64 k, .slice Ap m.length cp] w fun e_ w' => e_ = .returned (.tuple #[]) ∧ ∃ Al' cl', ES w0 w' g nh Aq Al' cq cl' ch q (setL l ⟨k + 1, 0, plA a, 4, true, true, (hasX q a k m).2, false⟩) (h.set k.toNat (hasX q a k m).1) L := by
  have HOK := Aside0.mk (show Okm m.length (plA a) 4 by rw [hm]; exact plA_ok a)
  have hp1 : a.f1.tmod 8 = a.f1 % 8 := Int.tmod_eq_emod_of_nonneg ha
  unfold hasX
  obtain ⟨p4, hp4⟩ : ∃ p_, plA a = p_ := ⟨_, rfl⟩
  obtain ⟨p, hp⟩ : ∃ p_, a.f1 % 8 = p_ := ⟨_, rfl⟩
  have hp2 : p % 4294967296 = p := by omega
  have hp3 : 4 * p % 4294967296 = p4 := by rw [← hp4, ← hp]; unfold plA; omega
  rw [hp] at hp1
  rw [hp4] at HOK ⊢
  obtain ⟨a0, a1, a2⟩ := a
  have hp1' : a1.tmod 8 = p := hp1
  clear hp hp1 hp4 ha
  obtain ⟨kd, v, fr, hf⟩ : ∃ kd_ v_ fr_, findX p4 4 (old (k + 1) q []) = (kd_, v_, fr_) := ⟨_, _, _, rfl⟩
  rw [hf]
  have HF := Aside0.mk hf
  have hx1 : IntKind.u64.wrap k = k := wrap_u hk.1 (by omega)
  have hx2 : IntKind.u64.wrap (k + 1) = k + 1 := wrap_u (by omega) (by omega)
  have HK := Aside0.mk hk
  have k1 := eq_true hk.1
  have k2 := eq_true hk.2.1
  have k1' := decide_eq_true hk.1
  have k2' := decide_eq_true hk.2.1
  have HL1l := Aside0.mk hll
  have HCP := Aside0.mk hmc
  have HMm := Aside0.mk hC
  have S0 := hE.st
  have HQ := Aside0.mk hE.rq
  have HL := Aside0.mk hE.rl
  clear hk hll hm hmc hC hE hf
  obtain ⟨rm, hrm⟩ : ∃ p_, rdX m p4 4 = p_ := ⟨_, rfl⟩
  have HRD := Aside0.mk hrm
  cases e0 : (kd == 0) with
  | true =>
    have e1 : kd = 0 := by simpa using e0
    simp only [if_pos e1, hrm]
    clear e1 hrm
    obtain ⟨l1, hl1⟩ : ∃ p_, setL l ⟨k + 1, 0, p4, 4, true, true, 0, false⟩ = p_ := ⟨_, rfl⟩
    rw [hl1]
    go_enter Try.func12, Try.ntmps12
    go_wp2_with (first | ((with_reducible refine gate_dst (N := 5) rfl ?_); refine box_event ?hg (N := 5) ?hd (cs := #[.bool a0, .int .u8 a1, .int .u32 a2]) (t := 34) ?hr ?_; (case hd => rfl); (case hg => rfl); (case hr => first | (go_simp; done) | (go_simp; rfl)); intro ga hg w1 hbox hb; have S1 := S0.box hg hbox hb; have hb0_ := hb; clear hg hbox hb; clear S0; have a1_ := S1.cell (b := ⟨ga, #[.bool a0, .int .u8 a1, .int .u32 a2], 34⟩) (by simp) (j := 1) (v := .int .u8 a1) rfl; have b0_ := S1.cell (b := ⟨g, #[.slice Aq q.length cq, .slice Al l.length cl, .slice (some ⟨nh, 0, none⟩) h.length ch], 31⟩) (by simp) (j := 0) (v := .slice Aq q.length cq) rfl; have b1_ := S1.cell (b := ⟨g, #[.slice Aq q.length cq, .slice Al l.length cl, .slice (some ⟨nh, 0, none⟩) h.length ch], 31⟩) (by simp) (j := 1) (v := .slice Al l.length cl) rfl; have b2_ := S1.cell (b := ⟨g, #[.slice Aq q.length cq, .slice Al l.length cl, .slice (some ⟨nh, 0, none⟩) h.length ch], 31⟩) (by simp) (j := 2) (v := .slice (some ⟨nh, 0, none⟩) h.length ch) rfl; have HQ1 := Aside0.mk (Kd.R_below HQ.out hb0_); have HL1 := Aside0.mk (Kd.R_below HL.out hb0_); have HM1 := Aside0.mk (Kd.C_below HMm.out hb0_)) | (go_at_call 14; (with_reducible refine (cFindL HF.out HQ1.out).mono ?_); rintro e_ w2 ⟨rfl, hB_⟩; have S2 := S1.call hB_; clear S1; have HQ2 := Aside0.mk (Kd.R_below HQ1.out hB_); have HL2 := Aside0.mk (Kd.R_below HL1.out hB_); have HM2 := Aside0.mk (Kd.C_below HM1.out hB_); clear hB_; have b0_ := S2.cell (b := ⟨g, #[.slice Aq q.length cq, .slice Al l.length cl, .slice (some ⟨nh, 0, none⟩) h.length ch], 31⟩) (by simp) (j := 0) (v := .slice Aq q.length cq) rfl; have b1_ := S2.cell (b := ⟨g, #[.slice Aq q.length cq, .slice Al l.length cl, .slice (some ⟨nh, 0, none⟩) h.length ch], 31⟩) (by simp) (j := 1) (v := .slice Al l.length cl) rfl; have b2_ := S2.cell (b := ⟨g, #[.slice Aq q.length cq, .slice Al l.length cl, .slice (some ⟨nh, 0, none⟩) h.length ch], 31⟩) (by simp) (j := 2) (v := .slice (some ⟨nh, 0, none⟩) h.length ch) rfl; have n_ : _ := S2.cell (b := ⟨nh, (h.map (Value.int .u32)).toArray, 32⟩) (by simp) (j := k.toNat) (v := .int .u32 (rd h k)) (had_at HK.out.1 HK.out.2.1); have hz_ := S2.frozen (b := ⟨nh, (h.map (Value.int .u32)).toArray, 32⟩) (by simp) k.toNat) | (go_at_call 6; (with_reducible refine (cRead HOK.out HRD.out HM2.out HCP.out).mono ?_); rintro e_ w3 ⟨rfl, hB_⟩; have S3 := S2.call hB_; clear S2; have HQ3 := Aside0.mk (Kd.R_below HQ2.out hB_); have HL3 := Aside0.mk (Kd.R_below HL2.out hB_); have HM3 := Aside0.mk (Kd.C_below HM2.out hB_); clear hB_; have b0_ := S3.cell (b := ⟨g, #[.slice Aq q.length cq, .slice Al l.length cl, .slice (some ⟨nh, 0, none⟩) h.length ch], 31⟩) (by simp) (j := 0) (v := .slice Aq q.length cq) rfl; have b1_ := S3.cell (b := ⟨g, #[.slice Aq q.length cq, .slice Al l.length cl, .slice (some ⟨nh, 0, none⟩) h.length ch], 31⟩) (by simp) (j := 1) (v := .slice Al l.length cl) rfl; have b2_ := S3.cell (b := ⟨g, #[.slice Aq q.length cq, .slice Al l.length cl, .slice (some ⟨nh, 0, none⟩) h.length ch], 31⟩) (by simp) (j := 2) (v := .slice (some ⟨nh, 0, none⟩) h.length ch) rfl; have n_ : _ := S3.cell (b := ⟨nh, (h.map (Value.int .u32)).toArray, 32⟩) (by simp) (j := k.toNat) (v := .int .u32 (rd h k)) (had_at HK.out.1 HK.out.2.1); have hz_ := S3.frozen (b := ⟨nh, (h.map (Value.int .u32)).toArray, 32⟩) (by simp) k.toNat) | ((with_reducible refine gate_store (t := 32) (p := 46) rfl ?_); refine store_event (t := 32) (p := 46) (v := ?vo_46) (w1 := w3.setCell ⟨nh, k.toNat, none⟩ (.int .u32 rm)) ?hg ?ho ?hn ?hr ?_; (case ho => rfl); (case hg => rfl); (case hn => rfl); (case hr => first | (go_simp; done) | (go_simp; rfl)); intro w5 hw; have n_ : St w0 w5 (⟨ga, #[.bool a0, .int .u8 a1, .int .u32 a2], 34⟩ :: ⟨g, #[.slice Aq q.length cq, .slice Al l.length cl, .slice (some ⟨nh, 0, none⟩) h.length ch], 31⟩ :: ⟨nh, ((h.map (Value.int .u32)).toArray.setIfInBounds k.toNat (.int .u32 rm)), 32⟩ :: L) := (by rw [hw]; exact St.set (L1 := [⟨ga, #[.bool a0, .int .u8 a1, .int .u32 a2], 34⟩, ⟨g, #[.slice Aq q.length cq, .slice Al l.length cl, .slice (some ⟨nh, 0, none⟩) h.length ch], 31⟩]) (L2 := L) (b := ⟨nh, (h.map (Value.int .u32)).toArray, 32⟩) S3 (k.toNat) (.int .u32 rm)); have HQ5 := Aside0.mk (show Kd.R k37 56 w5 w0.heap.size (fun _ => True) (.slice Aq q.length cq) q by rw [hw]; exact Kd.R_set HQ3.out (S3.heap ⟨nh, (h.map (Value.int .u32)).toArray, 32⟩ (by simp)) (by simp [k37_E]) _ _); have HL5 := Aside0.mk (show Kd.R k79 79 w5 w0.heap.size (fun _ => True) (.slice Al l.length cl) l by rw [hw]; exact Kd.R_set HL3.out (S3.heap ⟨nh, (h.map (Value.int .u32)).toArray, 32⟩ (by simp)) (by simp [k79_E]) _ _); have b1_ := n_.cell (b := ⟨g, #[.slice Aq q.length cq, .slice Al l.length cl, .slice (some ⟨nh, 0, none⟩) h.length ch], 31⟩) (by simp) (j := 1) (v := .slice Al l.length cl) rfl; clear hw; clear S3; have S5 := n_; clear n_) | (go_at_call 28; (with_reducible refine (cSetL HL1l.out hl1 (Kd.R_reads' HL5.out).2.2).mono ?_); rintro e_ w6 ⟨A6, c6_, rfl, hR_, hB_⟩; have S6 := S5.call hB_; have HL6 := Aside0.mk (Kd.R_lower hR_ (below_size S5.below)); clear S5; have HQ6 := Aside0.mk (Kd.R_below HQ5.out hB_); clear hR_ hB_; have b1_ := S6.cell (b := ⟨g, #[.slice Aq q.length cq, .slice Al l.length cl, .slice (some ⟨nh, 0, none⟩) h.length ch], 31⟩) (by simp) (j := 1) (v := .slice Al l.length cl) rfl; have z1_ := S6.frozen (b := ⟨g, #[.slice Aq q.length cq, .slice Al l.length cl, .slice (some ⟨nh, 0, none⟩) h.length ch], 31⟩) (by simp) 1) | ((with_reducible refine gate_store (t := 29) (p := 58) rfl ?_); refine store_event (t := 29) (p := 58) (v := ?vo_58) (w1 := w6.setCell ⟨g, 1, none⟩ (.slice A6 l1.length c6_)) ?hg ?ho ?hn ?hr ?_; (case ho => rfl); (case hg => rfl); (case hn => rfl); (case hr => first | (go_simp; done) | (go_simp; rfl)); intro w7 hw; have n_ : St w0 w7 (⟨ga, #[.bool a0, .int .u8 a1, .int .u32 a2], 34⟩ :: ⟨g, #[.slice Aq q.length cq, .slice A6 l1.length c6_, .slice (some ⟨nh, 0, none⟩) h.length ch], 31⟩ :: ⟨nh, ((h.map (Value.int .u32)).toArray.setIfInBounds k.toNat (.int .u32 rm)), 32⟩ :: L) := (by rw [hw]; exact St.set (L1 := [⟨ga, #[.bool a0, .int .u8 a1, .int .u32 a2], 34⟩]) (L2 := ⟨nh, ((h.map (Value.int .u32)).toArray.setIfInBounds k.toNat (.int .u32 rm)), 32⟩ :: L) (b := ⟨g, #[.slice Aq q.length cq, .slice Al l.length cl, .slice (some ⟨nh, 0, none⟩) h.length ch], 31⟩) S6 (1) (.slice A6 l1.length c6_)); have HQ7 := Aside0.mk (show Kd.R k37 56 w7 w0.heap.size (fun _ => True) (.slice Aq q.length cq) q by rw [hw]; exact Kd.R_set HQ6.out (S6.heap ⟨g, #[.slice Aq q.length cq, .slice Al l.length cl, .slice (some ⟨nh, 0, none⟩) h.length ch], 31⟩ (by simp)) (by simp [k37_E]) _ _); have HL7 := Aside0.mk (show Kd.R k79 79 w7 w0.heap.size (fun _ => True) (.slice A6 l1.length c6_) l1 by rw [hw]; exact Kd.R_set HL6.out (S6.heap ⟨g, #[.slice Aq q.length cq, .slice Al l.length cl, .slice (some ⟨nh, 0, none⟩) h.length ch], 31⟩ (by simp)) (by simp [k79_E]) _ _); clear hw; clear S6; have S7 := n_; clear n_))
    refine bodyPost_end (v := .tuple #[]) (results_list (rs := []) (vs := []) rfl (by simp) .nil) rfl ?_
    refine ⟨rfl, A6, c6_, ⟨?_, HQ7.out, HL7.out⟩⟩
    have h_ := S7.tail
    rw [had_set HK.out.1 HK.out.2.1] at h_
    simpa using h_
  | false =>
    have e1 : ¬ kd = 0 := by simpa using e0
    simp only [if_neg e1]
    clear e1 hrm
    obtain ⟨l1, hl1⟩ : ∃ p_, setL l ⟨k + 1, 0, p4, 4, true, true, fr, false⟩ = p_ := ⟨_, rfl⟩
    rw [hl1]
    go_enter Try.func12, Try.ntmps12
    go_wp2_with (first | ((with_reducible refine gate_dst (N := 5) rfl ?_); refine box_event ?hg (N := 5) ?hd (cs := #[.bool a0, .int .u8 a1, .int .u32 a2]) (t := 34) ?hr ?_; (case hd => rfl); (case hg => rfl); (case hr => first | (go_simp; done) | (go_simp; rfl)); intro ga hg w1 hbox hb; have S1 := S0.box hg hbox hb; have hb0_ := hb; clear hg hbox hb; clear S0; have a1_ := S1.cell (b := ⟨ga, #[.bool a0, .int .u8 a1, .int .u32 a2], 34⟩) (by simp) (j := 1) (v := .int .u8 a1) rfl; have b0_ := S1.cell (b := ⟨g, #[.slice Aq q.length cq, .slice Al l.length cl, .slice (some ⟨nh, 0, none⟩) h.length ch], 31⟩) (by simp) (j := 0) (v := .slice Aq q.length cq) rfl; have b1_ := S1.cell (b := ⟨g, #[.slice Aq q.length cq, .slice Al l.length cl, .slice (some ⟨nh, 0, none⟩) h.length ch], 31⟩) (by simp) (j := 1) (v := .slice Al l.length cl) rfl; have b2_ := S1.cell (b := ⟨g, #[.slice Aq q.length cq, .slice Al l.length cl, .slice (some ⟨nh, 0, none⟩) h.length ch], 31⟩) (by simp) (j := 2) (v := .slice (some ⟨nh, 0, none⟩) h.length ch) rfl; have HQ1 := Aside0.mk (Kd.R_below HQ.out hb0_); have HL1 := Aside0.mk (Kd.R_below HL.out hb0_); have HM1 := Aside0.mk (Kd.C_below HMm.out hb0_)) | (go_at_call 14; (with_reducible refine (cFindL HF.out HQ1.out).mono ?_); rintro e_ w2 ⟨rfl, hB_⟩; have S2 := S1.call hB_; clear S1; have HQ2 := Aside0.mk (Kd.R_below HQ1.out hB_); have HL2 := Aside0.mk (Kd.R_below HL1.out hB_); have HM2 := Aside0.mk (Kd.C_below HM1.out hB_); clear hB_; have b0_ := S2.cell (b := ⟨g, #[.slice Aq q.length cq, .slice Al l.length cl, .slice (some ⟨nh, 0, none⟩) h.length ch], 31⟩) (by simp) (j := 0) (v := .slice Aq q.length cq) rfl; have b1_ := S2.cell (b := ⟨g, #[.slice Aq q.length cq, .slice Al l.length cl, .slice (some ⟨nh, 0, none⟩) h.length ch], 31⟩) (by simp) (j := 1) (v := .slice Al l.length cl) rfl; have b2_ := S2.cell (b := ⟨g, #[.slice Aq q.length cq, .slice Al l.length cl, .slice (some ⟨nh, 0, none⟩) h.length ch], 31⟩) (by simp) (j := 2) (v := .slice (some ⟨nh, 0, none⟩) h.length ch) rfl; have n_ : _ := S2.cell (b := ⟨nh, (h.map (Value.int .u32)).toArray, 32⟩) (by simp) (j := k.toNat) (v := .int .u32 (rd h k)) (had_at HK.out.1 HK.out.2.1); have hz_ := S2.frozen (b := ⟨nh, (h.map (Value.int .u32)).toArray, 32⟩) (by simp) k.toNat) | ((with_reducible refine gate_store (t := 32) (p := 46) rfl ?_); refine store_event (t := 32) (p := 46) (v := ?vo_46) (w1 := w2.setCell ⟨nh, k.toNat, none⟩ (.int .u32 v)) ?hg ?ho ?hn ?hr ?_; (case ho => rfl); (case hg => rfl); (case hn => rfl); (case hr => first | (go_simp; done) | (go_simp; rfl)); intro w5 hw; have n_ : St w0 w5 (⟨ga, #[.bool a0, .int .u8 a1, .int .u32 a2], 34⟩ :: ⟨g, #[.slice Aq q.length cq, .slice Al l.length cl, .slice (some ⟨nh, 0, none⟩) h.length ch], 31⟩ :: ⟨nh, ((h.map (Value.int .u32)).toArray.setIfInBounds k.toNat (.int .u32 v)), 32⟩ :: L) := (by rw [hw]; exact St.set (L1 := [⟨ga, #[.bool a0, .int .u8 a1, .int .u32 a2], 34⟩, ⟨g, #[.slice Aq q.length cq, .slice Al l.length cl, .slice (some ⟨nh, 0, none⟩) h.length ch], 31⟩]) (L2 := L) (b := ⟨nh, (h.map (Value.int .u32)).toArray, 32⟩) S2 (k.toNat) (.int .u32 v)); have HQ5 := Aside0.mk (show Kd.R k37 56 w5 w0.heap.size (fun _ => True) (.slice Aq q.length cq) q by rw [hw]; exact Kd.R_set HQ2.out (S2.heap ⟨nh, (h.map (Value.int .u32)).toArray, 32⟩ (by simp)) (by simp [k37_E]) _ _); have HL5 := Aside0.mk (show Kd.R k79 79 w5 w0.heap.size (fun _ => True) (.slice Al l.length cl) l by rw [hw]; exact Kd.R_set HL2.out (S2.heap ⟨nh, (h.map (Value.int .u32)).toArray, 32⟩ (by simp)) (by simp [k79_E]) _ _); have b1_ := n_.cell (b := ⟨g, #[.slice Aq q.length cq, .slice Al l.length cl, .slice (some ⟨nh, 0, none⟩) h.length ch], 31⟩) (by simp) (j := 1) (v := .slice Al l.length cl) rfl; clear hw; clear S2; have S5 := n_; clear n_) | (go_at_call 28; (with_reducible refine (cSetL HL1l.out hl1 (Kd.R_reads' HL5.out).2.2).mono ?_); rintro e_ w6 ⟨A6, c6_, rfl, hR_, hB_⟩; have S6 := S5.call hB_; have HL6 := Aside0.mk (Kd.R_lower hR_ (below_size S5.below)); clear S5; have HQ6 := Aside0.mk (Kd.R_below HQ5.out hB_); clear hR_ hB_; have b1_ := S6.cell (b := ⟨g, #[.slice Aq q.length cq, .slice Al l.length cl, .slice (some ⟨nh, 0, none⟩) h.length ch], 31⟩) (by simp) (j := 1) (v := .slice Al l.length cl) rfl; have z1_ := S6.frozen (b := ⟨g, #[.slice Aq q.length cq, .slice Al l.length cl, .slice (some ⟨nh, 0, none⟩) h.length ch], 31⟩) (by simp) 1) | ((with_reducible refine gate_store (t := 29) (p := 58) rfl ?_); refine store_event (t := 29) (p := 58) (v := ?vo_58) (w1 := w6.setCell ⟨g, 1, none⟩ (.slice A6 l1.length c6_)) ?hg ?ho ?hn ?hr ?_; (case ho => rfl); (case hg => rfl); (case hn => rfl); (case hr => first | (go_simp; done) | (go_simp; rfl)); intro w7 hw; have n_ : St w0 w7 (⟨ga, #[.bool a0, .int .u8 a1, .int .u32 a2], 34⟩ :: ⟨g, #[.slice Aq q.length cq, .slice A6 l1.length c6_, .slice (some ⟨nh, 0, none⟩) h.length ch], 31⟩ :: ⟨nh, ((h.map (Value.int .u32)).toArray.setIfInBounds k.toNat (.int .u32 v)), 32⟩ :: L) := (by rw [hw]; exact St.set (L1 := [⟨ga, #[.bool a0, .int .u8 a1, .int .u32 a2], 34⟩]) (L2 := ⟨nh, ((h.map (Value.int .u32)).toArray.setIfInBounds k.toNat (.int .u32 v)), 32⟩ :: L) (b := ⟨g, #[.slice Aq q.length cq, .slice Al l.length cl, .slice (some ⟨nh, 0, none⟩) h.length ch], 31⟩) S6 (1) (.slice A6 l1.length c6_)); have HQ7 := Aside0.mk (show Kd.R k37 56 w7 w0.heap.size (fun _ => True) (.slice Aq q.length cq) q by rw [hw]; exact Kd.R_set HQ6.out (S6.heap ⟨g, #[.slice Aq q.length cq, .slice Al l.length cl, .slice (some ⟨nh, 0, none⟩) h.length ch], 31⟩ (by simp)) (by simp [k37_E]) _ _); have HL7 := Aside0.mk (show Kd.R k79 79 w7 w0.heap.size (fun _ => True) (.slice A6 l1.length c6_) l1 by rw [hw]; exact Kd.R_set HL6.out (S6.heap ⟨g, #[.slice Aq q.length cq, .slice Al l.length cl, .slice (some ⟨nh, 0, none⟩) h.length ch], 31⟩ (by simp)) (by simp [k79_E]) _ _); clear hw; clear S6; have S7 := n_; clear n_))
    refine bodyPost_end (v := .tuple #[]) (results_list (rs := []) (vs := []) rfl (by simp) .nil) rfl ?_
    refine ⟨rfl, A6, c6_, ⟨?_, HQ7.out, HL7.out⟩⟩
    have h_ := S7.tail
    rw [had_set HK.out.1 HK.out.2.1] at h_
    simpa using h_

end Go.Proofs.Ytmpnnppgppoliaa.Ea

namespace Go.Proofs.Ytmpnnppgppoliaa.Ea
open Go.Proofs.Ytmpnnppgppoliaa.Ld Go Go.Proofs Go.RowKit Go.Proofs.YtmpnnppgppoliaaW.PrintWords Go.Proofs.YtmpnnppgppoliaaW.PrintLast Go.Proofs.YtmpnnppgppoliaaW.PrintMore Go.Proofs.Ytmpnnppgppoliaa.Boxes Go.Proofs.Ytmpnnppgppoliaa.PFwd
attribute [local go_sem] max2_int min2_int max_two min_two max_three min_three max_four min_four   -- for this text's walks alone
set_option linter.unusedVariables false
set_option linter.unusedSimpArgs false

theorem step_store {P : Program} {o : Oper} {a : Act} {ops : Array Oper} {K : Act → World → Prop} {Q : Exit → Act → World → Prop} {W w1 : World} (hw : Region.wanted o (yielded ops a.tmps) = true) (hN : o.dst = none)
    (hrun : (execOp a.eval o).run P W = .ok .skip w1) (h : K a w1) : if Region.wanted o (yielded ops a.tmps) = true then Oper.wp P o a W K Q else K (a.put none undef) W := by
  rw [if_pos hw]
  unfold Oper.wp
  rw [hrun]
  show K (a.put o.dst undef) w1
  rw [hN]
  exact h
theorem St.far {w W : World} {L : List Bx} (h : St w W L) {gl : Nat} (hg : w.heap.size ≤ gl) (hn : ∀ b ∈ L, b.g ≠ gl) (j : Nat) (u : Value) : St w (W.setCell ⟨gl, j, none⟩ u) L :=
  ⟨below_set h.below hg, h.ge, fun b hb => (heap_setCell_other W ⟨gl, j, none⟩ b.g u (hn b hb)).trans (h.heap b hb), h.dist⟩
theorem St.ne {w W : World} {L : List Bx} (h : St w W L) {gl t : Nat} {cells : Array Value} (hc : W.heap[gl]? = some (.cells cells t (0, 0))) (ht : ∀ b ∈ L, b.t ≠ t) : ∀ b ∈ L, b.g ≠ gl := fun b hb e => by
  have h1 := h.heap b hb
  rw [e, hc] at h1
  injection h1 with h1
  injection h1 with _ h1
  exact ht b hb h1.symm
/-- A field of an element of a row of the call's own is written. -/
theorem R79_fld {W : World} {base n cap : Nat} {ad : Addr} {xs : List S79} (h : Kd.R k79 79 W base (fun _ => True) (.slice (some ad) n cap) xs) (i : Int) (h0 : 0 ≤ i) (h1 : i < (xs.length : Int)) (j : Nat) (hj : j < 8) (u : Value) (x' : S79)
    (hx : cs79 x' = (cs79 (rd_T79 xs i)).take j ++ [u] ++ (cs79 (rd_T79 xs i)).drop (j + 1)) :
    W.frozen? ⟨(ad.add (i.toNat * 8)).block, (ad.add (i.toNat * 8)).off + j, none⟩ = false ∧ base ≤ (ad.add (i.toNat * 8)).block ∧ (∃ cells, W.heap[(ad.add (i.toNat * 8)).block]? = some (.cells cells 79 (0, 0))) ∧
      Kd.R k79 79 (W.setCell ⟨(ad.add (i.toNat * 8)).block, (ad.add (i.toNat * 8)).off + j, none⟩ u) base (fun _ => True) (.slice (some ad) n cap) (xs.set i.toNat x') := by
  obtain ⟨g, cap', e, hb, hl, cells, hc⟩ := Kd.R_form h (by omega)
  injection e with ea en ec
  injection ea with ea
  subst ea
  subst en
  have hn : i < xs.length := h1
  obtain ⟨c, hcl, hMc, hcc, hfr⟩ := Kd.R_elem h z79 i h0 hn
  have hcs : c = cs79 (rd_T79 xs i) := k79_open (k79.K_of_M hMc)
  have e1 : ((⟨g, 0, none⟩ : Addr).add (i.toNat * 8)).block = g := by unfold Addr.add; split <;> rfl
  have e2 : ((⟨g, 0, none⟩ : Addr).add (i.toNat * 8)).off = i.toNat * 8 := by unfold Addr.add; split <;> simp <;> omega
  rw [e1, e2]
  refine ⟨hfr j, hb, ⟨cells, hc⟩, ?_⟩
  have hs := (Kd.R_seg h i h0 hn (c := c) (seg := [u]) (j := j) hcl hcc (by show j + 1 ≤ 8; omega) (x' := x') (okp := fun k => True ∧ k ≠ g) (by rw [hcs]; exact hx ▸ k79_mkM _ _ _ _) (fun _ hk => hk)).1
  exact hs
theorem rd_set79 (xs : List S79) (x1 : S79) {i : Int} (h0 : 0 ≤ i) (h1 : i < (xs.length : Int)) : rd_T79 (xs.set i.toNat x1) i = x1 := by
  have hk : i.toNat < xs.length := by omega
  unfold rd_T79
  rw [List.getD_eq_getElem?_getD, List.getElem?_set_self hk]
  rfl
theorem c5_of {W : World} {base n cap : Nat} {ad : Addr} {xs : List S79} (h : Kd.R k79 79 W base (fun _ => True) (.slice (some ad) n cap) xs) {i : Int} {y : S79} (h0 : 0 ≤ i) (h1 : i < (xs.length : Int)) (hy : rd_T79 xs i = y) : W.cell? ⟨(ad.add (i.toNat * 8)).block, (ad.add (i.toNat * 8)).off + 5, none⟩ = some (.bool y.f5) := by
  obtain ⟨A, c, e, _⟩ := Kd.R_reads h
  injection e with ea en _
  subst en
  obtain ⟨ad', e1, _, _, _, _, _, h5, _⟩ := at_T79 (Kd.R_reads' h).2.2 i h0 h1
  cases e1
  rw [← hy]
  exact h5
/-- What goes again. -/
def un (n : Int) (e : S79) : S79 := if n ≤ e.f0 then {e with f4 := false, f5 := false} else e
def redo (n : Int) (l : List S79) : List S79 := if n = 0 then l else l.map (un n)
theorem redo_len (n : Int) (l : List S79) : (redo n l).length = l.length := by
  unfold redo
  split
  · rfl
  · simp
theorem ES.of {w0 W : World} {g nh : Nat} {Aq Al : Option Addr} {cq cl ch : Nat} {q : List S37} {l l1 : List S79} {h : List Int} {L : List Bx} (hl : l1.length = l.length) (hS : St w0 W (⟨g, #[.slice Aq q.length cq, .slice Al l.length cl, .slice (some ⟨nh, 0, none⟩) h.length ch], 31⟩ :: ⟨nh, (h.map (Value.int .u32)).toArray, 32⟩ :: L))
    (hq : Kd.R k37 56 W w0.heap.size (fun _ => True) (.slice Aq q.length cq) q) (hR : Kd.R k79 79 W w0.heap.size (fun _ => True) (.slice Al l.length cl) l1) : ES w0 W g nh Aq Al cq cl ch q l1 h L := ⟨by rw [hl]; exact hS, hq, by rw [hl]; exact hR⟩
theorem rd_mid (n : Int) (l : List S79) {x : Int} (h0 : 0 ≤ x) (h1 : x < (l.length : Int)) : rd_T79 ((l.take x.toNat).map (un n) ++ l.drop x.toNat) x = rd_T79 l x := by
  have hk : x.toNat < l.length := by omega
  unfold rd_T79
  rw [List.getD_eq_getElem?_getD, List.getD_eq_getElem?_getD, List.getElem?_append_right (by simp; omega)]
  simp [Nat.min_eq_left (Nat.le_of_lt hk)]
theorem set_mid (n : Int) (l : List S79) {x : Int} (h0 : 0 ≤ x) (h1 : x < (l.length : Int)) : ((l.take x.toNat).map (un n) ++ l.drop x.toNat).set x.toNat (un n (rd_T79 l x)) = (l.take (x + 1).toNat).map (un n) ++ l.drop (x + 1).toNat := by
  have hk : x.toNat < l.length := by omega
  have e : (x + 1).toNat = x.toNat + 1 := by omega
  rw [e, List.take_succ_eq_append_getElem hk, List.map_append, List.set_append_right _ _ (by simp; omega)]
  have e2 : l.drop x.toNat = l[x.toNat] :: l.drop (x.toNat + 1) := List.drop_eq_getElem_cons hk
  have e3 : rd_T79 l x = l[x.toNat] := by
    unfold rd_T79
    rw [List.getD_eq_getElem?_getD, List.getElem?_eq_getElem hk]
    rfl
  rw [e2, e3]
  simp [Nat.min_eq_left (Nat.le_of_lt hk)]
  rw [e2]
  rfl
theorem len_mid (n : Int) (l : List S79) (x : Nat) : ((l.take x).map (un n) ++ l.drop x).length = l.length := by simp; omega
theorem keep_mid (n : Int) (l : List S79) {x : Int} (h0 : 0 ≤ x) (h1 : x < (l.length : Int)) (hn : ¬ n ≤ (rd_T79 l x).f0) : (l.take x.toNat).map (un n) ++ l.drop x.toNat = (l.take (x + 1).toNat).map (un n) ++ l.drop (x + 1).toNat := by
  rw [← set_mid n l h0 h1]
  have hk : x.toNat < l.length := by omega
  have e : un n (rd_T79 l x) = rd_T79 l x := by unfold un; rw [if_neg hn]
  rw [e]
  have e2 : l.drop x.toNat = l[x.toNat] :: l.drop (x.toNat + 1) := List.drop_eq_getElem_cons hk
  have e3 : rd_T79 l x = l[x.toNat] := by
    unfold rd_T79
    rw [List.getD_eq_getElem?_getD, List.getElem?_eq_getElem hk]
    rfl
  rw [e2, e3, List.set_append_right _ _ (by simp; omega)]
  simp [Nat.min_eq_left (Nat.le_of_lt hk)]
  rw [e2]
  rfl
theorem cSetQ {q q1 : List S37} {k a v : Int} (hl : q.length ≤ 200) (h1 : setX q ⟨k + 1, a, v, 4, true⟩ = q1) {A : Option Addr} {c : Nat} {w : World} (hC : Kd.C k37 w A q.length q) :
    Calls Try.prog 13 #[.slice A q.length c, .agg #[.int .u64 (k + 1), .int .u32 a, .int .u32 v, .int .i64 4, .bool true]] w fun e w' => ∃ A c, e = .returned (.slice A q1.length c) ∧ Kd.R k37 56 w' w.heap.size (fun _ => True) (.slice A q1.length c) q1 ∧ Below w.heap.size w w' := by
  subst h1
  refine (sqSet A c q ⟨k + 1, a, v, 4, true⟩ w hC hl).mono ?_
  rintro e w' ⟨r, rfl, hR, hB⟩
  obtain ⟨A, c, rfl⟩ := Kd.R_slice hR
  exact ⟨A, c, rfl, hR, hB⟩
theorem cEarly {l : List S79} {k a v n : Int} (hl : l.length ≤ 200) (h1 : earlyX l ⟨k + 1, a, v, 4, true⟩ = n) {A : Option Addr} {c : Nat} {w : World} (hC : Kd.C k79 w A l.length l) :
    Calls Try.prog 21 #[.slice A l.length c, .agg #[.int .u64 (k + 1), .int .u32 a, .int .u32 v, .int .i64 4, .bool true]] w fun e w' => e = .returned (.int .u64 n) ∧ Below w.heap.size w w' := by
  subst h1
  exact lqEarly A c l ⟨k + 1, a, v, 4, true⟩ w hC hl


theorem R_setRow {α : Type} {d : Kd α} {e : Nat} {W : World} {base : Nat} {v : Value} {xs : List α} (h : d.R e W base (fun _ => True) v xs) {g t : Nat} {cells : Array Value} (hb : W.heap[g]? = some (.cells cells t (0, 0))) (ht : some g ≠ v.ownBlock) (hE : d.E = []) (cs : Array Value) : d.R e (W.setRow g cs) base (fun _ => True) v xs :=
  Kd.R_mono (Kd.R_step (Kd.R_far1 h hE ht) (fun k ho _ => heap_setRow_far W g cs k ho.2)) (fun _ _ => trivial)

set_option maxHeartbeats 16000000 in
set_option maxRecDepth 100000 in
theorem storesW (a : Ac) (ha : 0 ≤ a.f1) (k : Int) (w0 w : World) (g nh : Nat) (Aq Al : Option Addr) (cq cl ch : Nat) (q : List S37) (l : List S79) (h : List Int) (L : List Bx) (hE : ES w0 w g nh Aq Al cq cl ch q l h L) (hL : ∀ b ∈ L, b.t ≠ 79) (hk : 0 ≤ k ∧ k ≤ 1000) (hlq : q.length ≤ 200) (hll : l.length ≤ 200) :
    Calls Try.prog 11 #[.pointer (some ⟨g, 0, none⟩), .agg #[.bool a.f0, .int .u8 a.f1, .int .u32 a.f2], .int .i64 k] w fun e_ w' => e_ = .returned (.tuple #[]) ∧ ∃ Aq' cq', ES w0 w' g nh Aq' Al cq' cl ch (setX q ⟨k + 1, plA a, a.f2, 4, true⟩) (redo (earlyX l ⟨k + 1, plA a, a.f2, 4, true⟩) l) h L := by
  have hp1 : a.f1.tmod 8 = a.f1 % 8 := Int.tmod_eq_emod_of_nonneg ha
  obtain ⟨p4, hp4⟩ : ∃ p_, plA a = p_ := ⟨_, rfl⟩
  obtain ⟨p, hp⟩ : ∃ p_, a.f1 % 8 = p_ := ⟨_, rfl⟩
  have hp2 : p % 4294967296 = p := by omega
  have hp3 : 4 * p % 4294967296 = p4 := by rw [← hp4, ← hp]; unfold plA; omega
  rw [hp] at hp1
  rw [hp4]
  obtain ⟨a0, a1, a2⟩ := a
  have hp1' : a1.tmod 8 = p := hp1
  clear hp hp1 hp4 ha
  show Calls Try.prog 11 #[.pointer (some ⟨g, 0, none⟩), .agg #[.bool a0, .int .u8 a1, .int .u32 a2], .int .i64 k] w fun e_ w' => e_ = .returned (.tuple #[]) ∧ ∃ Aq' cq', ES w0 w' g nh Aq' Al cq' cl ch (setX q ⟨k + 1, p4, a2, 4, true⟩) (redo (earlyX l ⟨k + 1, p4, a2, 4, true⟩) l) h L
  obtain ⟨q1, hq1⟩ : ∃ q_, setX q ⟨k + 1, p4, a2, 4, true⟩ = q_ := ⟨_, rfl⟩
  obtain ⟨n, hn⟩ : ∃ n_, earlyX l ⟨k + 1, p4, a2, 4, true⟩ = n_ := ⟨_, rfl⟩
  rw [hq1, hn]
  have hx1 : IntKind.u64.wrap k = k := wrap_u hk.1 (by omega)
  have hx2 : IntKind.u64.wrap (k + 1) = k + 1 := wrap_u (by omega) (by omega)
  have HLq := Aside0.mk hlq
  have HLl := Aside0.mk hll
  have HLb := Aside0.mk hL
  have S0 := hE.st
  have HQ := Aside0.mk hE.rq
  have HL := Aside0.mk hE.rl
  clear hk hlq hll hL hE
  go_enter Try.func11, Try.ntmps11
  go_wp2_with (first | ((with_reducible refine gate_dst (N := 4) rfl ?_); refine box_event ?hg (N := 4) ?hd (cs := #[.bool a0, .int .u8 a1, .int .u32 a2]) (t := 34) ?hr ?_; (case hd => rfl); (case hg => rfl); (case hr => first | (go_simp; done) | (go_simp; rfl)); intro ga hg w1 hbox hb; have S1 := S0.box hg hbox hb; have hb0_ := hb; clear hg hbox hb; clear S0; have a1_ := S1.cell (b := ⟨ga, #[.bool a0, .int .u8 a1, .int .u32 a2], 34⟩) (by simp) (j := 1) (v := .int .u8 a1) rfl; have a2_ := S1.cell (b := ⟨ga, #[.bool a0, .int .u8 a1, .int .u32 a2], 34⟩) (by simp) (j := 2) (v := .int .u32 a2) rfl; have HQ1 := Aside0.mk (Kd.R_below HQ.out hb0_); have HL1 := Aside0.mk (Kd.R_below HL.out hb0_)) | ((with_reducible refine gate_dst (N := 6) rfl ?_); refine box_event ?hg (N := 6) ?hd (cs := #[.int .u64 0, .int .u32 0, .int .u32 0, .int .i64 0, .bool false]) (t := 56) ?hr ?_; (case hd => rfl); (case hg => rfl); (case hr => first | (go_simp; done) | (go_simp; rfl)); intro gs hg w2 hbox hb; have S2 := S1.box hg hbox hb; have hb0_ := hb; have HNg := Aside0.mk (show some gs ≠ (Value.slice Aq q.length cq).ownBlock from fun e_ => absurd (Kd.R_lt HQ1.out gs e_.symm) (by omega)); clear hg hbox hb; clear S1; have HQ2 := Aside0.mk (Kd.R_below HQ1.out hb0_); have HL2 := Aside0.mk (Kd.R_below HL1.out hb0_)) | ((with_reducible refine gate_store (t := 56) (p := 6) rfl ?_); refine wpList_store_row rfl 56 _ _ rfl gs _ rfl rfl 56 _ (S2.heap ⟨gs, #[.int .u64 0, .int .u32 0, .int .u32 0, .int .i64 0, .bool false], 56⟩ (by simp)) (by kernel_rfl) rfl (by simp [Value.oneCell']) ?_; have n_ : St w0 _ (⟨gs, #[.int .u64 (k + 1), .int .u32 p4, .int .u32 a2, .int .i64 4, .bool true], 56⟩ :: [⟨ga, #[.bool a0, .int .u8 a1, .int .u32 a2], 34⟩, ⟨g, #[.slice Aq q.length cq, .slice Al l.length cl, .slice (some ⟨nh, 0, none⟩) h.length ch], 31⟩, ⟨nh, (h.map (Value.int .u32)).toArray, 32⟩] ++ L) := St.row (L1 := []) (L2 := [⟨ga, #[.bool a0, .int .u8 a1, .int .u32 a2], 34⟩, ⟨g, #[.slice Aq q.length cq, .slice Al l.length cl, .slice (some ⟨nh, 0, none⟩) h.length ch], 31⟩, ⟨nh, (h.map (Value.int .u32)).toArray, 32⟩] ++ L) (b := ⟨gs, #[.int .u64 0, .int .u32 0, .int .u32 0, .int .i64 0, .bool false], 56⟩) S2 #[.int .u64 (k + 1), .int .u32 p4, .int .u32 a2, .int .i64 4, .bool true]; have HL3 := Aside0.mk (R_setRow HL2.out (S2.heap ⟨gs, #[.int .u64 0, .int .u32 0, .int .u32 0, .int .i64 0, .bool false], 56⟩ (by simp)) (Kd.R_ne HL2.out (S2.heap ⟨gs, #[.int .u64 0, .int .u32 0, .int .u32 0, .int .i64 0, .bool false], 56⟩ (by simp)) (show (79 : Nat) ≠ 56 by decide)) rfl #[.int .u64 (k + 1), .int .u32 p4, .int .u32 a2, .int .i64 4, .bool true]); have HQ3 := Aside0.mk (R_setRow HQ2.out (S2.heap ⟨gs, #[.int .u64 0, .int .u32 0, .int .u32 0, .int .i64 0, .bool false], 56⟩ (by simp)) HNg.out rfl #[.int .u64 (k + 1), .int .u32 p4, .int .u32 a2, .int .i64 4, .bool true]); clear S2; have S3 := n_; clear n_; generalize World.setRow _ _ _ = w3 at S3 HQ3 HL3 ⊢))
  refine start_ (n := 10) (S := fun w_ => w_.cell? ⟨g, 0, none⟩ = some (.slice Aq q.length cq) ∧ w_.heap[gs]? = some (.cells #[.int .u64 (k + 1), .int .u32 p4, .int .u32 a2, .int .i64 4, .bool true] 56 (0, 0))) (ds := [6, 9]) #[false, false, false, false, false, false, false, false, false, false] (by kernel_rfl) rfl rfl (⟨(S3.drew.cell (b := ⟨g, #[.slice Aq q.length cq, .slice Al l.length cl, .slice (some ⟨nh, 0, none⟩) h.length ch], 31⟩) (by simp) (j := 0) (v := .slice Aq q.length cq) rfl), S3.drew.heap ⟨gs, #[.int .u64 (k + 1), .int .u32 p4, .int .u32 a2, .int .i64 4, .bool true], 56⟩ (by simp)⟩) (fun hHeld => ?_)
  have S4 := S3.drew
  have HQ4 := Aside0.mk (Kd.R_below HQ3.out (below_drew (Below.refl _ _)))
  have HL4 := Aside0.mk (Kd.R_below HL3.out (below_drew (Below.refl _ _)))
  clear S3
  generalize World.drew _ = w4 at S4 HQ4 HL4 hHeld ⊢
  refine pure_ (i := 0) (N := some 20) (v := ?_) (a' := ?_) #[true, false, false, false, false, false, false, false, false, false] rfl rfl (by kernel_rfl) (fun _ _ _ h => h) (Or.inl ⟨by rfl, ?_⟩) ?_ ?_
  rotate_left
  · intro w'
    go_simp
    with_reducible rfl
  rotate_left
  · simp only [Act.put, List.setIfInBounds_toArray, List.set_cons_zero, List.set_cons_succ]
    rfl
  refine pure_ (i := 1) (N := some 21) (v := ?_) (a' := ?_) #[true, true, false, false, false, false, false, false, false, false] rfl rfl (by kernel_rfl) (fun _ _ _ h => h) (Or.inl ⟨by rfl, ?_⟩) ?_ ?_
  rotate_left
  · intro w'
    go_simp
    with_reducible rfl
  rotate_left
  · simp only [Act.put, List.setIfInBounds_toArray, List.set_cons_zero, List.set_cons_succ]
    rfl
  refine pure_ (i := 2) (N := some 22) (v := ?_) (a' := ?_) #[true, true, true, false, false, false, false, false, false, false] rfl rfl (by kernel_rfl) (fun _ _ _ h => h) (Or.inl ⟨by rfl, ?_⟩) ?_ ?_
  rotate_left
  · intro w'
    go_simp
    with_reducible rfl
  rotate_left
  · simp only [Act.put, List.setIfInBounds_toArray, List.set_cons_zero, List.set_cons_succ]
    rfl
  refine pure_ (i := 3) (N := some 23) (v := ?_) (a' := ?_) #[true, true, true, true, false, false, false, false, false, false] rfl rfl (by kernel_rfl) (fun _ _ _ h => h) (Or.inl ⟨by rfl, ?_⟩) ?_ ?_
  rotate_left
  · intro w'
    go_simp
    with_reducible rfl
  rotate_left
  · simp only [Act.put, List.setIfInBounds_toArray, List.set_cons_zero, List.set_cons_succ]
    rfl
  refine take_ (i := 4) (N := some 24) (v := .slice Aq q.length cq) (a' := ?_) #[true, true, true, true, true, false, false, false, false, false] rfl rfl (by kernel_rfl) (fun _ _ _ h => h) (Or.inl ⟨by rfl, fun w_ hw_ => exec_load_cell 28 _ rfl g 0 rfl _ _ hw_.1 Try.underlying28 rfl⟩) hHeld ?_ ?_
  rotate_left
  · simp only [Act.put, List.setIfInBounds_toArray, List.set_cons_zero, List.set_cons_succ]
    rfl
  refine take_ (i := 5) (N := some 25) (v := .agg #[.int .u64 (k + 1), .int .u32 p4, .int .u32 a2, .int .i64 4, .bool true]) (a' := ?_) #[true, true, true, true, true, true, false, false, false, false] rfl rfl (by kernel_rfl) (fun _ _ _ h => h) (Or.inl ⟨by rfl, fun w_ hw_ => exec_load_row 56 _ rfl gs rfl 56 _ _ hw_.2 Try.underlying56 rfl (by kernel_rfl)⟩) hHeld ?_ ?_
  rotate_left
  · simp only [Act.put, List.setIfInBounds_toArray, List.set_cons_zero, List.set_cons_succ]
    rfl
  refine last_ (i := 6) (N := some 26) #[true, true, true, true, true, true, true, false, false, false] rfl rfl (by kernel_rfl) (by decide) (fun K hK => ?_)
  refine goes_ Try.func13 (by kernel_rfl) rfl #[.slice Aq q.length cq, .agg #[.int .u64 (k + 1), .int .u32 p4, .int .u32 a2, .int .i64 4, .bool true]] rfl rfl rfl (by (try simp only [List.map_toArray, List.map_cons, List.map_nil]); first | done | rfl) ?_
  refine (cSetQ HLq.out hq1 (Kd.R_reads' HQ4.out).2.2).mono ?_
  rintro e_ w5 ⟨A6, c6_, rfl, hR_, hB_⟩
  refine ⟨_, rfl, ?_⟩
  have HQ5 := Aside0.mk (Kd.R_lower hR_ (below_size S4.below))
  have S5 := S4.call hB_
  have HL5 := Aside0.mk (Kd.R_below HL4.out hB_)
  have b0_ := S5.cell (b := ⟨g, #[.slice Aq q.length cq, .slice Al l.length cl, .slice (some ⟨nh, 0, none⟩) h.length ch], 31⟩) (by simp) (j := 0) (v := .slice Aq q.length cq) rfl
  have z0_ := S5.frozen (b := ⟨g, #[.slice Aq q.length cq, .slice Al l.length cl, .slice (some ⟨nh, 0, none⟩) h.length ch], 31⟩) (by simp) 0
  clear hR_ hB_ S4
  refine hK.out _ _ ?_
  clear hK K
  simp only [Act.put, List.setIfInBounds_toArray, List.set_cons_zero, List.set_cons_succ]
  refine pure_ (i := 7) (N := some 27) (v := ?_) (a' := ?_) #[true, true, true, true, true, true, true, true, false, false] rfl rfl (by kernel_rfl) (fun _ _ _ h => h) (Or.inl ⟨by rfl, ?_⟩) ?_ ?_
  rotate_left
  · intro w'
    go_simp
    with_reducible rfl
  rotate_left
  · simp only [Act.put, List.setIfInBounds_toArray, List.set_cons_zero, List.set_cons_succ]
    rfl
  refine pure_ (i := 8) (N := some 28) (v := ?_) (a' := ?_) #[true, true, true, true, true, true, true, true, true, false] rfl rfl (by kernel_rfl) (fun _ _ _ h => h) (Or.inl ⟨by rfl, ?_⟩) ?_ ?_
  rotate_left
  · intro w'
    go_simp
    with_reducible rfl
  rotate_left
  · simp only [Act.put, List.setIfInBounds_toArray, List.set_cons_zero, List.set_cons_succ]
    rfl
  refine last_ (i := 9) (N := none) #[true, true, true, true, true, true, true, true, true, true] rfl rfl (by kernel_rfl) (by decide) (fun K hK => ?_)
  refine step_store (w1 := w5.setCell ⟨g, 0, none⟩ (.slice A6 q1.length c6_)) (by first | rfl | kernel_rfl) rfl ?hr ?_
  case hr => first | (go_simp; done) | (go_simp; rfl)
  refine hK.out _ _ ?_
  clear hK K
  have S6 : St w0 (w5.setCell ⟨g, 0, none⟩ (.slice A6 q1.length c6_)) (⟨gs, #[.int .u64 (k + 1), .int .u32 p4, .int .u32 a2, .int .i64 4, .bool true], 56⟩ :: ⟨ga, #[.bool a0, .int .u8 a1, .int .u32 a2], 34⟩ :: ⟨g, #[.slice A6 q1.length c6_, .slice Al l.length cl, .slice (some ⟨nh, 0, none⟩) h.length ch], 31⟩ :: ⟨nh, (h.map (Value.int .u32)).toArray, 32⟩ :: L) := St.set (L1 := [⟨gs, #[.int .u64 (k + 1), .int .u32 p4, .int .u32 a2, .int .i64 4, .bool true], 56⟩, ⟨ga, #[.bool a0, .int .u8 a1, .int .u32 a2], 34⟩]) (b := ⟨g, #[.slice Aq q.length cq, .slice Al l.length cl, .slice (some ⟨nh, 0, none⟩) h.length ch], 31⟩) S5 0 _
  have HQ6 := Aside0.mk (Kd.R_set HQ5.out (S5.heap ⟨g, #[.slice Aq q.length cq, .slice Al l.length cl, .slice (some ⟨nh, 0, none⟩) h.length ch], 31⟩ (by simp)) (by simp [k37_E]) 0 (.slice A6 q1.length c6_))
  have HL6 := Aside0.mk (Kd.R_set HL5.out (S5.heap ⟨g, #[.slice Aq q.length cq, .slice Al l.length cl, .slice (some ⟨nh, 0, none⟩) h.length ch], 31⟩ (by simp)) (by simp [k79_E]) 0 (.slice A6 q1.length c6_))
  clear S5 b0_ z0_
  generalize World.setCell _ _ _ = w6 at S6 HQ6 HL6 ⊢
  refine done_ (by kernel_rfl) ?_
  go_wp2
  refine start_ (n := 7) (S := fun w_ => w_.cell? ⟨g, 1, none⟩ = some (.slice Al l.length cl) ∧ w_.heap[gs]? = some (.cells #[.int .u64 (k + 1), .int .u32 p4, .int .u32 a2, .int .i64 4, .bool true] 56 (0, 0))) (ds := [5]) #[false, false, false, false, false, false, false] (by kernel_rfl) rfl rfl (⟨(S6.drew.cell (b := ⟨g, #[.slice A6 q1.length c6_, .slice Al l.length cl, .slice (some ⟨nh, 0, none⟩) h.length ch], 31⟩) (by simp) (j := 1) (v := .slice Al l.length cl) rfl), S6.drew.heap ⟨gs, #[.int .u64 (k + 1), .int .u32 p4, .int .u32 a2, .int .i64 4, .bool true], 56⟩ (by simp)⟩) (fun hHeld => ?_)
  have S7 := S6.drew
  have HQ7 := Aside0.mk (Kd.R_below HQ6.out (below_drew (Below.refl _ _)))
  have HL7 := Aside0.mk (Kd.R_below HL6.out (below_drew (Below.refl _ _)))
  clear S6
  generalize World.drew _ = w7 at S7 HQ7 HL7 hHeld ⊢
  refine pure_ (i := 0) (N := some 29) (v := ?_) (a' := ?_) #[true, false, false, false, false, false, false] rfl rfl (by kernel_rfl) (fun _ _ _ h => h) (Or.inl ⟨by rfl, ?_⟩) ?_ ?_
  rotate_left
  · intro w'
    go_simp
    with_reducible rfl
  rotate_left
  · simp only [Act.put, List.setIfInBounds_toArray, List.set_cons_zero, List.set_cons_succ]
    rfl
  refine pure_ (i := 1) (N := some 30) (v := ?_) (a' := ?_) #[true, true, false, false, false, false, false] rfl rfl (by kernel_rfl) (fun _ _ _ h => h) (Or.inl ⟨by rfl, ?_⟩) ?_ ?_
  rotate_left
  · intro w'
    go_simp
    with_reducible rfl
  rotate_left
  · simp only [Act.put, List.setIfInBounds_toArray, List.set_cons_zero, List.set_cons_succ]
    rfl
  refine pure_ (i := 2) (N := some 31) (v := ?_) (a' := ?_) #[true, true, true, false, false, false, false] rfl rfl (by kernel_rfl) (fun _ _ _ h => h) (Or.inl ⟨by rfl, ?_⟩) ?_ ?_
  rotate_left
  · intro w'
    go_simp
    with_reducible rfl
  rotate_left
  · simp only [Act.put, List.setIfInBounds_toArray, List.set_cons_zero, List.set_cons_succ]
    rfl
  refine take_ (i := 3) (N := some 32) (v := .slice Al l.length cl) (a' := ?_) #[true, true, true, true, false, false, false] rfl rfl (by kernel_rfl) (fun _ _ _ h => h) (Or.inl ⟨by rfl, fun w_ hw_ => exec_load_cell 29 _ rfl g 1 rfl _ _ hw_.1 Try.underlying29 rfl⟩) hHeld ?_ ?_
  rotate_left
  · simp only [Act.put, List.setIfInBounds_toArray, List.set_cons_zero, List.set_cons_succ]
    rfl
  refine take_ (i := 4) (N := some 33) (v := .agg #[.int .u64 (k + 1), .int .u32 p4, .int .u32 a2, .int .i64 4, .bool true]) (a' := ?_) #[true, true, true, true, true, false, false] rfl rfl (by kernel_rfl) (fun _ _ _ h => h) (Or.inl ⟨by rfl, fun w_ hw_ => exec_load_row 56 _ rfl gs rfl 56 _ _ hw_.2 Try.underlying56 rfl (by kernel_rfl)⟩) hHeld ?_ ?_
  rotate_left
  · simp only [Act.put, List.setIfInBounds_toArray, List.set_cons_zero, List.set_cons_succ]
    rfl
  refine last_ (i := 5) (N := some 34) #[true, true, true, true, true, true, false] rfl rfl (by kernel_rfl) (by decide) (fun K hK => ?_)
  refine goes_ Try.func21 (by kernel_rfl) rfl #[.slice Al l.length cl, .agg #[.int .u64 (k + 1), .int .u32 p4, .int .u32 a2, .int .i64 4, .bool true]] rfl rfl rfl (by (try simp only [List.map_toArray, List.map_cons, List.map_nil]); first | done | rfl) ?_
  refine (cEarly HLl.out hn (Kd.R_reads' HL7.out).2.2).mono ?_
  rintro e_ w8 ⟨rfl, hB_⟩
  refine ⟨_, rfl, ?_⟩
  have S8 := S7.call hB_
  have HQ8 := Aside0.mk (Kd.R_below HQ7.out hB_)
  have HL8 := Aside0.mk (Kd.R_below HL7.out hB_)
  clear hB_ S7
  refine hK.out _ _ ?_
  clear hK K
  simp only [Act.put, List.setIfInBounds_toArray, List.set_cons_zero, List.set_cons_succ]
  refine pure_ (i := 6) (N := some 7) (v := ?_) (a' := ?_) #[true, true, true, true, true, true, true] rfl rfl (by kernel_rfl) (fun _ _ _ h => h) (Or.inl ⟨by rfl, ?_⟩) ?_ ?_
  rotate_left
  · intro w'
    go_simp
    with_reducible rfl
  rotate_left
  · simp only [Act.put, List.setIfInBounds_toArray, List.set_cons_zero, List.set_cons_succ]
    rfl
  refine done_ (by kernel_rfl) ?_
  cases e0 : (n == 0) with
  | true =>
    have E0 := Aside0.mk e0
    go_wp2
    (try simp only [Exit.inBlock, Exit.then])
    refine bodyPost_ret (v := .tuple #[]) (results_list (rs := []) (vs := []) rfl (by simp) .nil) rfl ?_
    refine ⟨rfl, A6, c6_, ES.of (redo_len n l) S8.tail.tail HQ8.out ?_⟩
    unfold redo
    rw [if_pos (by simpa using E0.out)]
    exact HL8.out
  | false =>
    have E0 := Aside0.mk e0
    have S9 : St w0 w8 (⟨g, #[.slice A6 q1.length c6_, .slice Al l.length cl, .slice (some ⟨nh, 0, none⟩) h.length ch], 31⟩ :: ⟨nh, (h.map (Value.int .u32)).toArray, 32⟩ :: L) := S8.tail.tail
    clear S8
    go_wp2
    go_loopg [8] l.length (fun kq v8 w' => ∃ (x : Int), v8 = .int .i64 x ∧ Aside0 (0 ≤ x ∧ x + kq = (l.length : Int)) ∧ Aside0 (St w0 w' (⟨g, #[.slice A6 q1.length c6_, .slice Al l.length cl, .slice (some ⟨nh, 0, none⟩) h.length ch], 31⟩ :: ⟨nh, (h.map (Value.int .u32)).toArray, 32⟩ :: L)) ∧ Aside0 (Kd.R k37 56 w' w0.heap.size (fun _ => True) (.slice A6 q1.length c6_) q1) ∧ Aside0 (Kd.R k79 79 w' w0.heap.size (fun _ => True) (.slice Al l.length cl) ((l.take x.toNat).map (un n) ++ l.drop x.toNat)))
    case atStart => exact ⟨0, (by first | rfl | (simp; done)), ⟨by simp⟩, ⟨S9⟩, HQ8, ⟨by simpa using HL8.out⟩⟩
    case round =>
      clear S9 HQ8 HL8
      obtain ⟨x, rfl, HX, HS, HQr, HLr⟩ := hrel
      have Sr := HS.out
      by_cases c : x < (l.length : Int)
      · have cb : decide (x < (l.length : Int)) = true := decide_eq_true c
        have CC := Aside0.mk c
        have p1 : 0 ≤ x := HX.out.1
        have HR0 := HLr.out
        obtain ⟨l2, hl2⟩ : ∃ l_, (l.take x.toNat).map (un n) ++ l.drop x.toNat = l_ := ⟨_, rfl⟩
        have hlen : l2.length = l.length := by rw [← hl2]; exact len_mid n l x.toNat
        have hrd : rd_T79 l2 x = rd_T79 l x := by rw [← hl2]; exact rd_mid n l p1 c
        rw [hl2] at HR0
        obtain ⟨ad, e1, h0, _, _, _, h4, _⟩ := at_T79 (Kd.R_reads' HR0).2.2 x p1 (by omega)
        cases e1
        obtain ⟨y, hy⟩ : ∃ y_, rd_T79 l x = y_ := ⟨_, rfl⟩
        rw [hrd, hy] at h0 h4
        have HY := Aside0.mk hy
        have HL2 := Aside0.mk hl2
        have F4 := R79_fld HR0 x p1 (by omega) 4 (by decide) (.bool false) {y with f4 := false} (by rw [hrd, hy]; rfl)
        obtain ⟨f4, FG4_, ⟨gc4, FC4_⟩, FR4_⟩ := F4
        have FG4 := Aside0.mk FG4_
        have FC4 := Aside0.mk FC4_
        have FR4 := Aside0.mk FR4_
        have FB4 := Aside0.mk (St.ne Sr FC4_ (by simpa using HLb.out))
        have HN := Aside0.mk (wrap_i (x := x + 1) (by omega) (by have := HLl.out; omega))
        have p1' := decide_eq_true p1
        have HL20 := Aside0.mk hlen
        have HR20 := Aside0.mk hrd
        have b1_ := Sr.cell (b := ⟨g, #[.slice A6 q1.length c6_, .slice (some ad) l.length cl, .slice (some ⟨nh, 0, none⟩) h.length ch], 31⟩) (by simp) (j := 1) (v := .slice (some ad) l.length cl) rfl
        clear hy hl2 hlen hrd FG4_ FC4_ FR4_ HR0
        replace p1 := eq_true p1
        replace c := eq_true c
        cases d : decide (n ≤ y.f0) with
        | true =>
          have DD := Aside0.mk (of_decide_eq_true d)
          go_wp2_with (first | ((with_reducible refine gate_store (t := 4) (p := 62) rfl ?_); refine store_event (t := 4) (p := 62) (v := ?vo_62) (w1 := wr.setCell ⟨(ad.add (x.toNat * 8)).block, (ad.add (x.toNat * 8)).off + 4, none⟩ (.bool false)) ?hg ?ho ?hn ?hr ?_; (case ho => rfl); (case hg => rfl); (case hn => rfl); (case hr => first | (go_simp; done) | (go_simp; rfl)); intro w2 hw; have n_ : St w0 w2 (⟨g, #[.slice A6 q1.length c6_, .slice (some ad) l.length cl, .slice (some ⟨nh, 0, none⟩) h.length ch], 31⟩ :: ⟨nh, (h.map (Value.int .u32)).toArray, 32⟩ :: L) := (by rw [hw]; exact St.far Sr FG4.out FB4.out _ _); have HRx := Aside0.mk (show Kd.R k79 79 w2 w0.heap.size (fun _ => True) (.slice (some ad) l.length cl) (l2.set x.toNat {y with f4 := false}) by rw [hw]; exact FR4.out); have HQ2 := Aside0.mk (show Kd.R k37 56 w2 w0.heap.size (fun _ => True) (.slice A6 q1.length c6_) q1 by rw [hw]; exact Kd.R_set HQr.out FC4.out (by simp [k37_E]) _ _); clear hw; clear Sr; have Sx := n_; clear n_; have b1_ := Sx.cell (b := ⟨g, #[.slice A6 q1.length c6_, .slice (some ad) l.length cl, .slice (some ⟨nh, 0, none⟩) h.length ch], 31⟩) (by simp) (j := 1) (v := .slice (some ad) l.length cl) rfl; have HIX := Aside0.mk (show x < ((l2.set x.toNat {y with f4 := false}).length : Int) by (rw [List.length_set, HL20.out]; exact CC.out)); have HRD := Aside0.mk (rd_set79 l2 ({y with f4 := false} : S79) HX.out.1 (by (rw [HL20.out]; exact CC.out))); obtain ⟨f5, FG5_, ⟨gc5, FC5_⟩, FR5_⟩ := R79_fld HRx.out x HX.out.1 HIX.out 5 (by decide) (.bool false) {y with f4 := false, f5 := false} (by (rw [HRD.out]; rfl)); have FG5 := Aside0.mk FG5_; have FC5 := Aside0.mk FC5_; have FR5 := Aside0.mk FR5_; have FB5 := Aside0.mk (St.ne Sx FC5_ (by simpa using HLb.out)); clear FG5_ FC5_ FR5_; have h5 : w2.cell? ⟨(ad.add (x.toNat * 8)).block, (ad.add (x.toNat * 8)).off + 5, none⟩ = some (.bool y.f5) := (c5_of (y := {y with f4 := false}) HRx.out HX.out.1 HIX.out HRD.out)) | ((with_reducible refine gate_store (t := 4) (p := 69) rfl ?_); refine store_event (t := 4) (p := 69) (v := ?vo_69) (w1 := w2.setCell ⟨(ad.add (x.toNat * 8)).block, (ad.add (x.toNat * 8)).off + 5, none⟩ (.bool false)) ?hg ?ho ?hn ?hr ?_; (case ho => rfl); (case hg => rfl); (case hn => rfl); (case hr => first | (go_simp; done) | (go_simp; rfl)); intro w3 hw; have n_ : St w0 w3 (⟨g, #[.slice A6 q1.length c6_, .slice (some ad) l.length cl, .slice (some ⟨nh, 0, none⟩) h.length ch], 31⟩ :: ⟨nh, (h.map (Value.int .u32)).toArray, 32⟩ :: L) := (by rw [hw]; exact St.far Sx FG5.out FB5.out _ _); have HRy := Aside0.mk (show Kd.R k79 79 w3 w0.heap.size (fun _ => True) (.slice (some ad) l.length cl) ((l2.set x.toNat {y with f4 := false}).set x.toNat {y with f4 := false, f5 := false}) by rw [hw]; exact FR5.out); have HQ3 := Aside0.mk (show Kd.R k37 56 w3 w0.heap.size (fun _ => True) (.slice A6 q1.length c6_) q1 by rw [hw]; exact Kd.R_set HQ2.out FC5.out (by simp [k37_E]) _ _); clear hw; clear Sx; have Sy := n_; clear n_; have b1_ := Sy.cell (b := ⟨g, #[.slice A6 q1.length c6_, .slice (some ad) l.length cl, .slice (some ⟨nh, 0, none⟩) h.length ch], 31⟩) (by simp) (j := 1) (v := .slice (some ad) l.length cl) rfl))
          go_roundg (gk - 1)
          case measure => have := HX.out; have := CC.out; omega
          case rel => exact ⟨x + 1, (by first | rfl | (simp; done) | (simp [HN.out]; done)), ⟨by have := HX.out; have := CC.out; omega⟩, ⟨Sy⟩, HQ3, ⟨by have h_ := HRy.out; rw [List.set_set, show ({y with f4 := false, f5 := false} : S79) = un n (rd_T79 l x) from by rw [HY.out]; unfold un; rw [if_pos DD.out], ← HL2.out, set_mid n l HX.out.1 CC.out] at h_; exact h_⟩⟩
        | false =>
          have DD := Aside0.mk (of_decide_eq_false d)
          go_wp2
          go_roundg (gk - 1)
          case measure => have := HX.out; have := CC.out; omega
          case rel => exact ⟨x + 1, (by first | rfl | (simp; done) | (simp [HN.out]; done)), ⟨by have := HX.out; have := CC.out; omega⟩, ⟨Sr⟩, HQr, ⟨by have h_ := HLr.out; rw [keep_mid n l HX.out.1 CC.out (by rw [HY.out]; have := DD.out; omega)] at h_; exact h_⟩⟩
      · have cb : decide (x < (l.length : Int)) = false := decide_eq_false c
        have e : x.toNat = l.length := by have := HX.out; omega
        have hi := HLr.out
        rw [e, List.take_length, List.drop_length, List.append_nil] at hi
        have HI1 := Aside0.mk hi
        have b1_ := Sr.cell (b := ⟨g, #[.slice A6 q1.length c6_, .slice Al l.length cl, .slice (some ⟨nh, 0, none⟩) h.length ch], 31⟩) (by simp) (j := 1) (v := .slice Al l.length cl) rfl
        clear c e hi
        go_wp2
        refine bodyPost_end (v := .tuple #[]) (results_list (rs := []) (vs := []) rfl (by simp) .nil) rfl ?_
        refine ⟨rfl, A6, c6_, ES.of (redo_len n l) Sr HQr.out ?_⟩
        unfold redo
        rw [if_neg (by simpa using E0.out)]
        exact HI1.out

end Go.Proofs.Ytmpnnppgppoliaa.Ea
