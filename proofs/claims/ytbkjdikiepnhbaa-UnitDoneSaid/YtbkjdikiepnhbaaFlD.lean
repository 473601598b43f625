/- A row of the call's own whose elements are written, and what Tick comes to: a walk of the code. The conditions are those that each theorem names. -/
import Derived.Test.YtbkjdikiepnhbaaFlC
namespace Go.Proofs.Ytbkjdikiepnhbaa.Fl
open Go Go.Proofs Go.RowKit Go.Proofs.YtbkjdikiepnhbaaW.PrintWords Go.Proofs.YtbkjdikiepnhbaaW.PrintLast Go.Proofs.YtbkjdikiepnhbaaW.PrintMore Go.Proofs.Ytbkjdikiepnhbaa.Boxes
attribute [local go_sem] max2_int min2_int max_two min_two max_three min_three max_four min_four   -- for this text's walks alone
set_option linter.unusedVariables false
set_option linter.unusedSimpArgs false

section
variable {W : World} {base g n cap : Nat} {ok : Nat → Prop} {xs : List S44}
theorem own_elt (h : Kd.R k44 44 W base ok (.slice (some ⟨g, 0, none⟩) n cap) xs) (i : Int) (h0 : 0 ≤ i) (h1 : i < n) : Elt W ⟨g, i.toNat * 35, none⟩ (rd_T44 xs i) ∧ (∀ j, j < 35 → (W.cell? ⟨g, i.toNat * 35 + j, none⟩).isSome = true) ∧ ∀ j, W.frozen? ⟨g, i.toNat * 35 + j, none⟩ = false := by
  obtain ⟨c, hcl, hM, hcc, hfr⟩ := Kd.R_elem h z44 i h0 h1
  obtain rfl := k44_openM hM
  have hcc' : ∀ j u, (cs44 (rd_T44 xs i))[j]? = some u → W.cell? ⟨g, i.toNat * 35 + j, none⟩ = some u := hcc
  refine ⟨fun j v hv => ?_, fun j hj => ?_, hfr⟩
  · have := hcc' j v hv
    unfold Addr.add
    split
    · rename_i e; subst e; exact this
    · exact this
  · have hk : j < (cs44 (rd_T44 xs i)).length := hj
    rw [hcc' j _ (List.getElem?_eq_getElem hk)]
    rfl
theorem own_left (h : Kd.R k44 44 W base ok (.slice (some ⟨g, 0, none⟩) n cap) xs) (i : Int) (h0 : 0 ≤ i) (h1 : i < n) (v : Int) :
    Kd.R k44 44 (W.setCell ⟨g, i.toNat * 35 + 30, none⟩ (.int .i64 v)) base ok (.slice (some ⟨g, 0, none⟩) n cap) (xs.set i.toNat {rd_T44 xs i with f2 := v}) ∧
    W.cell? ⟨g, i.toNat * 35 + 30, none⟩ = some (.int .i64 (rd_T44 xs i).f2) ∧ W.frozen? ⟨g, i.toNat * 35 + 30, none⟩ = false := by
  obtain ⟨c, hcl, hM, hcc, hfr⟩ := Kd.R_elem h z44 i h0 h1
  obtain rfl := k44_openM hM
  have := Kd.R_seg h i h0 h1 (seg := [.int .i64 v]) (j := 30) hcl hcc (show 30 + 1 ≤ 35 by decide) (x' := {rd_T44 xs i with f2 := v}) (cs_m44 _ _ _ {rd_T44 xs i with f2 := v}) (fun _ hk => hk)
  exact ⟨this.1, hcc 30 _ rfl, hfr 30⟩
theorem own_put (h : Kd.R k44 44 W base ok (.slice (some ⟨g, 0, none⟩) n cap) xs) (i : Int) (h0 : 0 ≤ i) (h1 : i < n) (x : S44) :
    Kd.R k44 44 (W.setCells g (i.toNat * 35) (cs44 x)) base ok (.slice (some ⟨g, 0, none⟩) n cap) (xs.set i.toNat x) ∧ W.grownBy (W.setCells g (i.toNat * 35) (cs44 x)) (some g) := by
  obtain ⟨c, hcl, hM, hcc, hfr⟩ := Kd.R_elem h z44 i h0 h1
  obtain rfl := k44_openM hM
  exact Kd.R_seg h i h0 h1 (seg := cs44 x) (j := 0) hcl hcc (show 0 + 35 ≤ 35 by decide) (x' := x) (cs_m44 _ _ _ x) (fun _ hk => hk)
end
theorem tick_step (f : S44 → S44) (l : List S44) {i : Int} (h0 : 0 ≤ i) (h1 : i < (l.length : Int)) : ((l.take i.toNat).map f ++ l.drop i.toNat).set i.toNat (f (rd_T44 l i)) = (l.take (i + 1).toNat).map f ++ l.drop (i + 1).toNat := by
  rw [take_succ' l h0 h1, drop_at' l h0 h1, List.map_append, List.set_append_right _ _ (by rw [List.length_map, List.length_take]; omega)]
  have : i.toNat - ((l.take i.toNat).map f).length = 0 := by rw [List.length_map, List.length_take]; omega
  rw [this]
  simp
theorem rd_mid (f : S44 → S44) (l : List S44) {i : Int} (h0 : 0 ≤ i) (h1 : i < (l.length : Int)) : rd_T44 ((l.take i.toNat).map f ++ l.drop i.toNat) i = rd_T44 l i := by
  have hl : ((l.take i.toNat).map f).length = i.toNat := by rw [List.length_map, List.length_take]; omega
  have e := drop_at' l h0 h1
  unfold rd_T44 at e ⊢
  rw [List.getD_eq_getElem?_getD, List.getElem?_append_right (by omega), hl, Nat.sub_self, e]
  rfl

set_option maxHeartbeats 8000000 in
set_option maxRecDepth 100000 in
theorem tick (A0 : Option Addr) (c0 : Nat) (l : List S44) (w : World) (hr0 : Kd.C k44 w A0 l.length l) (hc0 : l.length ≤ c0) (hl : l.length ≤ 1000) :
    Calls Try.prog 15 #[.slice A0 l.length c0] w fun e w' => ∃ v, e = .returned v ∧ Kd.R k44 44 w' w.heap.size (fun _ => True) v (tickX l) ∧ Below w.heap.size w w' := by
  have HR0 := Aside0.mk hr0
  have HL := Aside0.mk hl
  clear hr0 hl
  have HB := Aside0.mk (Below.refl w.heap.size w)
  go_enter Try.func15, Try.ntmps15
  go_wp2_with (first | ((with_reducible refine gate_dst (N := 6) rfl ?_); refine AppKd.wpList_app_nil (d := k44) rfl _ _ 24 rfl (by decide) 44 256 _ Try.underlying24 info44 rfl k44_KM (l := l) rfl rfl HR0.out ?sm ?sb ?_; (case sm => have := HL.out; simp only [maxLen]; omega); (case sb => have := HL.out; omega); intro v6 w6 hR_ hB_; have HO := Aside0.mk (Kd.R_lower hR_ (below_size HB.out)); have HB1 := Aside0.mk (below_step HB.out hB_); clear HB hR_ hB_; have HB := HB1; clear HB1; obtain ⟨Ao, co, eo⟩ := Kd.R_slice HO.out; subst eo))
  go_loopg [9] l.length (fun kq v9 w' => ∃ (x : Int) (xs : List S44), v9 = .int .i64 x ∧ Aside0 (0 ≤ x ∧ x + kq = (l.length : Int)) ∧ Aside0 (xs = (l.take x.toNat).map tick1 ++ l.drop x.toNat) ∧ Aside0 (Kd.R k44 44 w' w.heap.size (fun _ => True) (.slice Ao l.length co) xs) ∧ Aside0 (Below w.heap.size w w'))
  case atStart => exact ⟨0, l, (by first | rfl | (simp; done)), ⟨by simp⟩, ⟨by simp⟩, HO, HB⟩
  case round =>
    clear HO HB
    obtain ⟨x, xs, rfl, HX, HXS, HO, HB⟩ := hrel
    have hlx := (Kd.R_reads' HO.out).1
    have HLX := Aside0.mk hlx
    by_cases c : x < (l.length : Int)
    · have cb : decide (x < (l.length : Int)) = true := decide_eq_true c
      have p1 : 0 ≤ x := HX.out.1
      obtain ⟨go, cap, eo, gb, gl, cells, hG⟩ := Kd.R_form HO.out (by omega)
      injection eo with ea en ec
      subst ea
      clear en ec hG gl cap
      have GB := Aside0.mk gb
      have cS := c
      obtain ⟨y, hy⟩ : ∃ y_, rd_T44 l x = y_ := ⟨_, rfl⟩
      have hy2 : rd_T44 xs x = y := by rw [HXS.out, rd_mid tick1 l p1 c]; exact hy
      have HN : wrap64 (x + 1) = x + 1 := wrap_i (by omega) (by have := HL.out; omega)
      have HS := tick_step tick1 l p1 c
      rw [hy] at HS
      have HM := Aside0.mk (And.intro HN (And.intro rfl HS : (1 = 1) ∧ _))
      have CC := Aside0.mk c
      have p1' := decide_eq_true p1
      have cx : x < (xs.length : Int) := by omega
      clear hy HN HS gb hlx
      by_cases d : y.f2 > 0
      · have db : decide (0 < y.f2) = true := decide_eq_true d
        have DD := Aside0.mk d
        have HOL := Aside0.mk (own_left HO.out x p1 cS (wrap64 (y.f2 - 1)))
        rw [hy2] at HOL
        have HX3 := Aside0.mk hy2
        have c30 := HOL.out.2.1
        have f30 := HOL.out.2.2
        clear d hy2 cS
        replace p1 := eq_true p1
        replace c := eq_true c
        replace cx := eq_true cx
        go_wp2_with (first | ((with_reducible refine gate_store (t := 3) (p := 25) rfl ?_); refine store_event (t := 3) (p := 25) (v := ?vo25_) (w1 := wr.setCell ⟨go, x.toNat * 35 + 30, none⟩ (.int .i64 (wrap64 (y.f2 - 1)))) ?hg ?ho ?hn ?hr ?_; (case ho => rfl); (case hg => rfl); (case hn => rfl); (case hr => first | (go_simp; done) | (go_simp; rfl)); intro w11 hw; have HO2 := Aside0.mk ((by rw [hw]; exact HOL.out.1 : Kd.R k44 44 w11 w.heap.size (fun _ => True) (.slice (some ⟨go, 0, none⟩) l.length co) (xs.set x.toNat {y with f2 := wrap64 (y.f2 - 1)}))); have HB2 := Aside0.mk ((by rw [hw]; exact below_set HB.out GB.out : Below w.heap.size w w11)); clear hw))
        go_roundg (gk - 1)
        case measure => have := HX.out; have := CC.out; omega
        case rel => exact ⟨x + 1, xs.set x.toNat {y with f2 := wrap64 (y.f2 - 1)}, (by first | rfl | (simp; done) | (simp [HM.out.1]; done)), ⟨by have := HX.out; have := CC.out; omega⟩, ⟨by have e_ : tick1 y = {y with f2 := wrap64 (y.f2 - 1)} := (by unfold tick1; rw [if_neg (by have := DD.out; omega)]); rw [← e_, HXS.out]; exact HM.out.2.2⟩, HO2, HB2⟩
      · have db : decide (0 < y.f2) = false := decide_eq_false d
        have DD := Aside0.mk d
        have HOL := Aside0.mk (own_left HO.out x p1 cS (0))
        rw [hy2] at HOL
        have HX3 := Aside0.mk hy2
        have c30 := HOL.out.2.1
        have f30 := HOL.out.2.2
        clear d hy2 cS
        replace p1 := eq_true p1
        replace c := eq_true c
        replace cx := eq_true cx
        go_wp2_with (first | ((with_reducible refine gate_store (t := 3) (p := 29) rfl ?_); refine store_event (t := 3) (p := 29) (v := ?vo29_) (w1 := wr.setCell ⟨go, x.toNat * 35 + 30, none⟩ (.int .i64 (0))) ?hg ?ho ?hn ?hr ?_; (case ho => rfl); (case hg => rfl); (case hn => rfl); (case hr => first | (go_simp; done) | (go_simp; rfl)); intro w11 hw; have HO2 := Aside0.mk ((by rw [hw]; exact HOL.out.1 : Kd.R k44 44 w11 w.heap.size (fun _ => True) (.slice (some ⟨go, 0, none⟩) l.length co) (xs.set x.toNat {y with f2 := 0}))); have HB2 := Aside0.mk ((by rw [hw]; exact below_set HB.out GB.out : Below w.heap.size w w11)); clear hw))
        go_roundg (gk - 1)
        case measure => have := HX.out; have := CC.out; omega
        case rel => exact ⟨x + 1, xs.set x.toNat {y with f2 := 0}, (by first | rfl | (simp; done) | (simp [HM.out.1]; done)), ⟨by have := HX.out; have := CC.out; omega⟩, ⟨by have e_ : tick1 y = {y with f2 := 0} := (by unfold tick1; rw [if_pos (by have := DD.out; omega)]); rw [← e_, HXS.out]; exact HM.out.2.2⟩, HO2, HB2⟩
    · have cb : decide (x < (l.length : Int)) = false := decide_eq_false c
      have CC := Aside0.mk c
      clear c hlx
      go_wp2
      go_ret
      refine ⟨_, rfl, ?_, HB.out⟩
      have e : x.toNat = l.length := by have := HX.out; have := CC.out; omega
      have := HO.out
      rw [HXS.out, e, List.take_length, List.drop_length, List.append_nil] at this
      exact this

end Go.Proofs.Ytbkjdikiepnhbaa.Fl
