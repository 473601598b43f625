/- What bytes of a number, a clone of bytes, and reads of memory come to: walks of the code. The conditions are those that each theorem names. -/
import Derived.Test.YtmpnnppgppoliaaLdA
namespace Go.Proofs.Ytmpnnppgppoliaa.Ld
open Go Go.Proofs Go.RowKit Go.Proofs.YtmpnnppgppoliaaW.PrintWords Go.Proofs.YtmpnnppgppoliaaW.PrintLast Go.Proofs.YtmpnnppgppoliaaW.PrintMore Go.Proofs.Ytmpnnppgppoliaa.Boxes Go.Proofs.Ytmpnnppgppoliaa.PFwd
attribute [local go_sem] max2_int min2_int max_two min_two max_three min_three max_four min_four   -- for this text's walks alone
set_option linter.unusedVariables false
set_option linter.unusedSimpArgs false

theorem KM_5 : ∀ (w w1 : World) (base : Nat) (ok : Nat → Prop) (x : Int) (cs : List Value), (Kd.int .u8).K w x cs → (Kd.int .u8).M w1 base ok x cs := fun _ _ _ _ _ _ h => h
/-- append(row of the call's own, l...) for any elements. -/
theorem app_row {α : Type} (d : Kd α) {ops : Array Oper} {rest : List Oper} {o : Oper} {a : Act} {Q : Exit → Act → World → Prop} {w w0 : World} {N : Tmp} (hg : o.guard = none) (hN : o.dst = some N) (s x : Operand) (t e : TypeId) (ho : o.op = .call { callee := .builtin .append, args := #[s, x], argTypes := #[t, t] })
    (bytes : Nat) (z : Value) (hu : Try.prog.underlying t = some (.slice e)) (hinfo : (Try.prog.info? e).map (fun i => (i.zero, i.size, i.bytes)) = some (some z, d.sz, bytes)) (hz : z.cells.size = d.sz) (h0k : 0 < d.sz)
    (hKM : ∀ w w1 base ok x cs, d.K w x cs → d.M w1 base ok x cs) {v : Value} {xs l : List α} {A : Option Addr} {c : Nat} (hs : a.eval s = v) (hx : a.eval x = .slice A l.length c) (HR : d.R e w w0.heap.size (fun _ => True) v xs) (HC : d.C w A l.length l) (HB : Below w0.heap.size w0 w)
    (hm : xs.length + l.length ≤ maxLen) (hb : (xs.length + l.length) * bytes ≤ 140737488355328)
    (h : ∀ v' w', d.R e w' w0.heap.size (fun _ => True) v' (xs ++ l) → Below w0.heap.size w0 w' → wpList Try.prog ops Q rest (a.put (some N) v') w') : wpList Try.prog ops Q (o :: rest) a w := by
  obtain ⟨v', w', hrun, hR, hgr⟩ := AppKd.appended (P := Try.prog) (d := d) (c := c) h0k t o.type e bytes z hu hinfo hz (w0 := w0) HB.size HR HC hKM hm hb
  rw [← hN] at h
  refine wpList_plain hg fun K hK => ?_
  unfold Oper.wp
  simp [execOp, ho, resolve, invoke, builtin, hs, hx, hrun, Result.andThen]
  refine hK _ _ (h _ _ hR ⟨hgr.os.trans HB.os, hgr.tape.trans HB.tape, hgr.output.trans HB.output, Nat.le_trans HB.size hgr.size, fun k hk => ?_⟩)
  exact (hgr.block k (Nat.lt_of_lt_of_le hk HB.size) (fun e_ => by have := ((Kd.R_bound HR).1 k e_.symm).2.1; omega)).trans (HB.block k hk)
/-- The bytes of a number. -/
def by8 (v : Int) (i : Nat) : Int := v / 2 ^ min (8 * i) 32 % 256
def bytX (v n : Int) : List Int := (List.range n.toNat).map (by8 v)
theorem bytX_len (v n : Int) : (bytX v n).length = n.toNat := by simp [bytX]
theorem fill_step (v n : Int) {x : Int} (h0 : 0 ≤ x) (h1 : x < n) : ((List.range x.toNat).map (by8 v) ++ List.replicate (n - x).toNat 0).set x.toNat (by8 v x.toNat) = (List.range (x + 1).toNat).map (by8 v) ++ List.replicate (n - (x + 1)).toNat 0 := by
  rw [show (n - x).toNat = (n - (x + 1)).toNat + 1 by omega, List.replicate_succ, show (x + 1).toNat = x.toNat + 1 by omega, List.range_succ, List.map_append, List.set_append_right _ _ (by simp)]
  simp

set_option maxHeartbeats 8000000 in
set_option maxRecDepth 100000 in
theorem byts (v n : Int) (h0 : 0 ≤ n) (h1 : n ≤ 4) (w : World) : Calls Try.prog 25 #[.int .u32 v, .int .i64 n] w fun e w' => ∃ r, e = .returned r ∧ Kd.R (Kd.int .u8) 5 w' w.heap.size (fun _ => True) r (bytX v n) ∧ Below w.heap.size w w' := by
  obtain ⟨kn, hkn⟩ : ∃ k_ : Nat, n = (k_ : Int) := ⟨n.toNat, by omega⟩
  have HKN := Aside0.mk (show n.toNat = kn by omega)
  have HN0 := Aside0.mk (And.intro h0 h1)
  have HB := Aside0.mk (Below.refl w.heap.size w)
  have n0 : decide (n < 0) = false := decide_eq_false (by omega)
  have HKI := Aside0.mk hkn
  clear h0 h1 hkn
  go_enter Try.func25, Try.ntmps25
  go_wp2_with (first | (go_at_call 35; (with_reducible refine (clamp n HN0.out.1 HN0.out.2 _).mono ?_); rintro e_ w2 ⟨rfl, hB_⟩; have HB1 := Aside0.mk (below_step HB.out hB_); clear HB; have HB := HB1; clear HB1 hB_) | ((with_reducible refine gate_dst (N := 9) rfl ?_); refine Kd.R_make (Kd.int .u8) _ 5 rfl (N := 9) rfl 23 _ _ rfl (n) rfl rfl Try.underlying23 (.int .u8 0) 1 info5 rfl (by decide) (by omega) 0 (ok := fun _ => True) (okp := fun _ => True) ?hz (fun _ hk => hk) trivial (HN0.out.1) (by have := HN0.out; omega) HB.out (HB.out).size ?_; (case hz => rfl); intro v9 w9 hR_ hB_ hg_ hn_; have HO := Aside0.mk hR_; have HB1 := Aside0.mk hB_; clear HB hR_ hg_ hn_ hB_; have HB := HB1; clear HB1; obtain ⟨Ao, co, eo⟩ := Kd.R_slice HO.out; (have ln_ : (List.replicate n.toNat (0 : Int)).length = n.toNat := List.length_replicate ..); rw [ln_, HKN.out] at eo; clear ln_; subst eo))
  go_loopg [12] kn (fun kq v12 w' => ∃ (x : Int) (xs : List Int), v12 = .int .i64 x ∧ Aside0 (0 ≤ x ∧ x + kq = n) ∧ Aside0 (xs = (List.range x.toNat).map (by8 v) ++ List.replicate (n - x).toNat 0) ∧ Aside0 (Kd.R (Kd.int .u8) 5 w' w.heap.size (fun _ => True) (.slice Ao kn co) xs) ∧ Aside0 (Below w.heap.size w w'))
  case atStart => exact ⟨0, List.replicate n.toNat 0, (by first | rfl | (simp; done)), ⟨by have := HKI.out; omega⟩, ⟨by simp⟩, HO, HB⟩
  case round =>
    clear HO HB
    obtain ⟨x, xs, rfl, HX, HXS, HO, HB⟩ := hrel
    have hxn : (kn : Int) = n := HKI.out.symm
    have hlx := (Kd.R_reads' HO.out).1
    by_cases c : x < (kn : Int)
    · have cb : decide (x < (kn : Int)) = true := decide_eq_true c
      have CC := Aside0.mk (show x < n by omega)
      have p1 : 0 ≤ x := HX.out.1
      obtain ⟨go, cap, eo, gb, gl, cells, hG⟩ := Kd.R_form HO.out (by omega)
      injection eo with ea en ec
      subst ea
      clear en ec hG gl cap
      have GB := Aside0.mk gb
      have HN := Aside0.mk (wrap_i (x := x + 1) (by omega) (by have := HN0.out; omega))
      obtain ⟨j, hj⟩ : ∃ j_ : Int, wrap64 (8 * x) = j_ := ⟨_, rfl⟩
      have hjw : IntKind.i64.wrap (8 * x) = j := (i64_w _).trans hj
      have hjv : j = 8 * x := by rw [← hj]; exact wrap_i (by omega) (by have := HN0.out; omega)
      have HJ := Aside0.mk (show v / 2 ^ min j.toNat 32 % 256 = by8 v x.toNat by unfold by8; rw [hjv, show (8 * x).toNat = 8 * x.toNat by omega])
      have j0 : 0 ≤ j := by omega
      have HP := Aside0.mk (Kd.R_putg HO.out x (v / 2 ^ min j.toNat 32 % 256))
      obtain ⟨hx8, hf8⟩ := Kd.R_celln 0 HO.out x p1 c
      have p1' := decide_eq_true p1
      have j0' := decide_eq_true j0
      clear hj hjv gb hlx hxn
      replace p1 := eq_true p1
      replace c := eq_true c
      replace j0 := eq_true j0
      go_wp2_with (first | ((with_reducible refine gate_store (t := 5) (p := 22) rfl ?_); refine store_event (t := 5) (p := 22) (v := ?vo22_) (w1 := wr.setCell ⟨go, x.toNat, none⟩ (.int .u8 (v / 2 ^ min j.toNat 32 % 256))) ?hg ?ho ?hn ?hr ?_; (case ho => rfl); (case hg => rfl); (case hn => rfl); (case hr => first | (go_simp; done) | (go_simp; rfl)); intro w12 hw; have HO2 := Aside0.mk ((by rw [hw]; exact HP.out.1 : Kd.R (Kd.int .u8) 5 w12 w.heap.size (fun _ => True) (.slice (some ⟨go, 0, none⟩) kn co) (xs.set x.toNat (v / 2 ^ min j.toNat 32 % 256)))); have HB2 := Aside0.mk ((by rw [hw]; exact below_set HB.out GB.out : Below w.heap.size w w12)); clear hw))
      go_roundg (gk - 1)
      case measure => have := HX.out; have := CC.out; omega
      case rel => exact ⟨x + 1, _, (by first | rfl | (simp; done) | (simp [HN.out]; done)), ⟨by have := HX.out; have := CC.out; omega⟩, ⟨by rw [HJ.out, HXS.out]; exact fill_step v n HX.out.1 CC.out⟩, HO2, HB2⟩
    · have cb : decide (x < (kn : Int)) = false := decide_eq_false c
      have hx : x = n := by have := HX.out; omega
      have hR_ := HO.out
      rw [HXS.out, hx, Int.sub_self] at hR_
      have HR := Aside0.mk (show Kd.R (Kd.int .u8) 5 wr w.heap.size (fun _ => True) (.slice Ao kn co) (bytX v n) by simpa [bytX] using hR_)
      clear c hx hlx hR_ hxn
      go_wp2
      go_ret
      exact ⟨_, rfl, HR.out, HB.out⟩

theorem eqnil {t e : TypeId} (hu : Try.prog.underlying t = some (.slice e)) (d : Nat) (w : World) (A : Option Addr) (n c : Nat) : (Op.equalIn (d + 1) t (.slice A n c) (.slice none 0 0)).run Try.prog w = .ok A.isNone w := by
  rw [Op.equalIn]
  simp only [Sem.run_bind, run_underlying hu, Result.andThen_ok]
  cases A <;> rfl
theorem bonil {t e : TypeId} (hu : Try.prog.underlying t = some (.slice e)) (w : World) (A : Option Addr) (n c : Nat) : (binOp .eql t (Value.slice A n c) (Value.slice none 0 0)).run Try.prog w = .ok (.bool A.isNone) w := by
  unfold binOp
  simp only [Op.equal, Sem.run_bind]
  rw [show Op.maxDepth = 9999 + 1 from rfl, eqnil hu]
  rfl
theorem eqnil23 (w : World) (A : Option Addr) (n c : Nat) : (binOp .eql 23 (Value.slice A n c) (Value.slice none 0 0)).run Try.prog w = .ok (.bool A.isNone) w := bonil Try.underlying23 w A n c
theorem eqnil28 (w : World) (A : Option Addr) (n c : Nat) : (binOp .eql 28 (Value.slice A n c) (Value.slice none 0 0)).run Try.prog w = .ok (.bool A.isNone) w := bonil Try.underlying28 w A n c
attribute [local go_sem high] eqnil23 eqnil28
set_option maxHeartbeats 8000000 in
set_option maxRecDepth 100000 in
theorem clone8 (A0 : Option Addr) (c0 : Nat) (m : List Int) (w : World) (hr0 : Kd.C (Kd.int .u8) w A0 m.length m) (hp : 0 < m.length) (hl : m.length ≤ 64) :
    Calls Try.prog 24 #[.slice A0 m.length c0] w fun e w' => ∃ r, e = .returned r ∧ Kd.R (Kd.int .u8) 5 w' w.heap.size (fun _ => True) r m ∧ Below w.heap.size w w' := by
  have HR0 := Aside0.mk hr0
  have HL := Aside0.mk hl
  have HB := Aside0.mk (Below.refl w.heap.size w)
  obtain ⟨ad, rfl, _⟩ := hr0.2.2 hp
  clear hr0 hl hp
  go_enter Try.func24, Try.ntmps24
  go_wp2_with (first | ((with_reducible refine gate_dst (N := 5) rfl ?_); refine Kd.R_lit (Kd.int .u8) _ 5 ?hg (N := 5) ?hd (xs := ([] : List Int)) (inner := []) (ok := fun _ => True) (okp := fun _ => True) ?hr ?hp (fun _ hk => hk) trivial (Below.refl _ _) (Nat.le_refl _) (by simp) ?_; (case hd => rfl); (case hg => rfl); (case hr => first | (go_simp; done) | (go_simp; rfl)); (case hp => exact (Reps.none _ _)); intro v3 w3 ho4 hb hg_ hnew_; have HO := Aside0.mk (Kd.R_lower ho4 (below_size HB.out)); have HB1 := Aside0.mk (below_step HB.out hb); clear HB hg_ hnew_ hb ho4; have HB := HB1; clear HB1) | ((with_reducible refine gate_dst (N := 7) rfl ?_); refine app_row (Kd.int .u8) rfl rfl _ _ 23 5 rfl 1 _ Try.underlying23 info5 rfl (by decide) KM_5 (xs := ([] : List Int)) (l := m) rfl rfl HO.out (Kd.C_below HR0.out HB.out) HB.out (by have := HL.out; simp only [maxLen, List.length_nil]; omega) (by have := HL.out; simp only [maxLen, List.length_nil]; omega) ?_; intro v6 w6 hR_ hB_; have HO2 := Aside0.mk (show Kd.R (Kd.int .u8) 5 w6 w.heap.size (fun _ => True) v6 m from hR_); have HB2 := Aside0.mk hB_; clear hR_ hB_))
  go_ret
  exact ⟨_, rfl, HO2.out, HB2.out⟩

end Go.Proofs.Ytmpnnppgppoliaa.Ld
