/- The pure statement of FwdBytes: plain lemmas, no program. The conditions are those that each names. -/
import Derived.Test.YtaeglelhoenfgaaFwdP2
import Derived.Test.YtaeglelhoenfgaaPFwdx11
namespace Go.Proofs.Ytaeglelhoenfgaa.PFwd
set_option linter.unusedVariables false
set_option linter.unusedSimpArgs false
open Go Go.Proofs Go.RowKit Go.Proofs.YtaeglelhoenfgaaW.PrintWords Go.Proofs.Ytaeglelhoenfgaa.Plain
theorem and255 {z : Int} (h0 : 0 ≤ z) (h1 : z < 4294967296) : Go.bits .and .u64 (IntKind.u64.wrap z) 255 % 4294967296 % 256 = z % 256 := by
  obtain ⟨x, rfl⟩ := nat_of h0
  have hx : x < 4294967296 := by omega
  rw [wrap_u64, show ((255 : Int)) = ((255 : Nat) : Int) by rfl, show ((x : Int) % 18446744073709551616) = ((x : Nat) : Int) by omega, and64 _ _ (by omega) (by omega), show (255 : Nat) = 2 ^ 8 - 1 by rfl, Nat.and_two_pow_sub_one_eq_mod]
  have := Nat.mod_lt x (show 0 < 2 ^ 8 by decide)
  omega
theorem cut_byte {d : Int} (hd : U d) (b a : Int) (h : ¬ (a - b) % 4294967296 > 3) : cutW d b a 1 % 256 = d / 2 ^ (8 * ((a - b) % 4294967296)).toNat % 256 := by
  unfold cutW
  rw [if_neg h]
  unfold cutV
  obtain ⟨hd0, hd1⟩ := hd
  have hp : (0 : Int) < 2 ^ (8 * ((a - b) % 4294967296)).toNat := Int.pow_pos (by decide)
  have e : (2 : Int) ^ (8 * mn (mx 1 0) 4).toNat - 1 = 255 := by decide
  rw [e]
  exact and255 (Int.ediv_nonneg hd0 (Int.le_of_lt hp)) (Int.lt_of_le_of_lt (Int.ediv_le_self _ hd0) hd1)
theorem has_is {d : Int} (hd : U d) (b n a : Int) (k : Nat) (hk : 6 ≤ k) : cotterelref34_has.f k d b n a = some (if byB a ⟨b, d, n, 0⟩ = true then (byV a ⟨b, d, n, 0⟩, true) else (0, false)) := by
  unfold cotterelref34_has.f
  rw [within_is]
  simp only [Option.bind_some]
  have hf := fr_cases n
  have hm : fr n % 4294967296 = fr n := by omega
  rw [hm]
  have hb : byB a ⟨b, d, n, 0⟩ = decide ((a - b) % 4294967296 < fr n) := rfl
  by_cases c : (a - b) % 4294967296 ≥ fr n
  · rw [if_pos c, hb, decide_eq_false (by omega)]; rfl
  · rw [if_neg c, hb, decide_eq_true (by omega), cut_same k hk hd]
    simp only [Option.bind_some]
    rw [cut_byte hd b a (by omega)]
    rfl
theorem byteX_cons (a v : Int) (x : SX) (r : List SX) : byteX a v (x :: r) = if byB a x = true then byV a x else byteX a v r := rfl
theorem one_l1 (b : List S48) (m : List Int) (hb : ∀ s ∈ b, W48 s) (hl : (b.length : Int) ≤ 9223372036854775807) (hm : (m.length : Int) ≤ 9223372036854775807) (a : Int) (ha : U a) : ∀ (d : Nat) (z : Int), -1 ≤ z → z < (b.length : Int) → (z + 1).toNat = d →
    Ev (fun k => cotterelref34_one.l1 k b m a z) (byteX a (memX m a) ((b.take (z + 1).toNat).reverse.map ofSb)) := by
  intro d
  induction d with
  | zero =>
    intro z h0 h1 hd
    obtain rfl : z = -1 := by omega
    obtain ⟨ha0, ha1⟩ := ha
    have w1 : IntKind.u64.wrap a = a := by rw [wrap_u64]; omega
    have w2 : IntKind.u64.wrap (m.length : Int) = m.length := by rw [wrap_u64]; omega
    refine Ev.step (f := fun k => if a < (m.length : Int) then (if 0 ≤ a then (if a < (m.length : Int) then some (rd m a) else none) else none) else some 0) (fun k => by simp only [cotterelref34_one.l1]; rw [if_neg (by decide), w1, w2]) ?_
    show Ev _ (memX m a)
    unfold memX
    by_cases c : a < (m.length : Int)
    · rw [show (if a < (m.length : Int) then rd m a else 0) = rd m a from if_pos c]
      exact yes c (yes ha0 (yes c (Ev.now _)))
    · rw [show (if a < (m.length : Int) then rd m a else 0) = 0 from if_neg c]
      exact no c (Ev.now _)
  | succ d ih =>
    intro z h0 h1 hd
    have hz : 0 ≤ z := by omega
    obtain ⟨s, es⟩ : ∃ s, rd_T48 b z = s := ⟨_, rfl⟩
    have hs : W48 s := es ▸ hb _ (getD_mem b z48 hz h1)
    have ht : (b.take (z + 1).toNat).reverse.map ofSb = ofSb s :: (b.take z.toNat).reverse.map ofSb := by rw [take_rev b z48 hz h1, List.map_cons]; exact congrArg (fun x => ofSb x :: _) es
    rw [ht, byteX_cons]
    have hn := ih (z - 1) (by omega) (by omega) (by omega)
    rw [show z - 1 + 1 = z by omega] at hn
    refine Ev.step (f := fun k => (cotterelref34_has.f k s.f1 s.f0 s.f2 a).bind fun t => if t.2 = true then some t.1 else cotterelref34_one.l1 k b m a (z - 1)) (fun k => by
      simp only [cotterelref34_one.l1]
      rw [if_pos (by omega), if_pos hz, if_pos h1, es, wrap64_small (by omega) (by omega)]) ?_
    refine Ev.bind (a := if byB a ⟨s.f0, s.f1, s.f2, 0⟩ = true then (byV a ⟨s.f0, s.f1, s.f2, 0⟩, true) else (0, false)) ⟨6, fun k hk => has_is hs.2 s.f0 s.f2 a k hk⟩ ?_
    show Ev _ (if byB a (ofSb s) = true then byV a (ofSb s) else byteX a (memX m a) ((b.take z.toNat).reverse.map ofSb))
    by_cases c : byB a (ofSb s) = true
    · rw [if_pos c, show (if byB a ⟨s.f0, s.f1, s.f2, 0⟩ = true then (byV a ⟨s.f0, s.f1, s.f2, 0⟩, true) else ((0 : Int), false)) = (byV a ⟨s.f0, s.f1, s.f2, 0⟩, true) from if_pos c]
      exact yes rfl (Ev.now _)
    · rw [if_neg c, show (if byB a ⟨s.f0, s.f1, s.f2, 0⟩ = true then (byV a ⟨s.f0, s.f1, s.f2, 0⟩, true) else ((0 : Int), false)) = ((0 : Int), false) from if_neg c]
      exact no (by decide) hn
theorem one_l0 (l : List S37) (b : List S48) (m : List Int) (hw : ∀ s ∈ l, W37 s) (hb : ∀ s ∈ b, W48 s) (hl : (l.length : Int) ≤ 9223372036854775807) (hl' : (b.length : Int) ≤ 9223372036854775807) (hm : (m.length : Int) ≤ 9223372036854775807) (q a : Int) (ha : U a) : ∀ (d : Nat) (z : Int), -1 ≤ z → z < (l.length : Int) → (z + 1).toNat = d →
    Ev (fun k => cotterelref34_one.l0 k l b m q a z) (byteX a (memX m a) (sqs q (l.take (z + 1).toNat).reverse ++ b.reverse.map ofSb)) := by
  intro d
  induction d with
  | zero =>
    intro z h0 h1 hd
    obtain rfl : z = -1 := by omega
    refine Ev.step (f := fun k => cotterelref34_one.l1 k b m a ((b.length : Int) - 1)) (fun k => by simp only [cotterelref34_one.l0]; rw [if_neg (by decide), wrap64_small (by omega) (by omega)]) ?_
    have := one_l1 b m hb hl' hm a ha b.length ((b.length : Int) - 1) (by omega) (by omega) (by omega)
    rw [show ((b.length : Int) - 1 + 1).toNat = b.length by omega, List.take_length] at this
    exact this
  | succ d ih =>
    intro z h0 h1 hd
    have hz : 0 ≤ z := by omega
    obtain ⟨s, es⟩ : ∃ s, rd_T37 l z = s := ⟨_, rfl⟩
    have hs : W37 s := es ▸ hw _ (getD_mem l z37 hz h1)
    have hnext := ih (z - 1) (by omega) (by omega) (by omega)
    rw [show z - 1 + 1 = z by omega] at hnext
    have ht : sqs q (l.take (z + 1).toNat).reverse = (if sqOk q s = true then [ofSq s] else []) ++ sqs q (l.take z.toNat).reverse := by
      rw [take_rev l z37 hz h1, show l.getD z.toNat z37 = s from es]
      unfold sqs
      rw [List.filter_cons]
      by_cases c : sqOk q s = true <;> simp [c]
    rw [ht]
    have skip : Ev (fun k => cotterelref34_one.j1 k l b m q a z false) (byteX a (memX m a) (sqs q (l.take z.toNat).reverse ++ b.reverse.map ofSb)) :=
      Ev.step (f := fun k => cotterelref34_one.l0 k l b m q a (z - 1)) (fun k => by simp only [cotterelref34_one.j1, Bool.false_eq_true, if_false]; rw [wrap64_small (by omega) (by omega)]) hnext
    refine Ev.step (f := fun k => if s.f4 = true then cotterelref34_one.j1 k l b m q a z (decide (s.f0 < q)) else cotterelref34_one.j1 k l b m q a z false) (fun k => by
      simp only [cotterelref34_one.l0]
      rw [if_pos (by omega), if_pos hz, if_pos h1, es]) ?_
    by_cases c4 : s.f4 = true
    · refine yes c4 ?_
      by_cases cq : s.f0 < q
      · rw [decide_eq_true cq]
        have hok : sqOk q s = true := by unfold sqOk; rw [c4, decide_eq_true cq]; rfl
        rw [hok, if_pos rfl]
        show Ev _ (if byB a (ofSq s) = true then byV a (ofSq s) else byteX a (memX m a) (sqs q (l.take z.toNat).reverse ++ b.reverse.map ofSb))
        refine Ev.step (f := fun k => (cotterelref34_has.f k s.f2 s.f1 s.f3 a).bind fun t => if t.2 = true then some t.1 else cotterelref34_one.l0 k l b m q a (z - 1)) (fun k => by
          simp only [cotterelref34_one.j1, if_true]
          rw [if_pos hz, if_pos h1, es, wrap64_small (by omega) (by omega)]) ?_
        refine Ev.bind (a := if byB a ⟨s.f1, s.f2, s.f3, 0⟩ = true then (byV a ⟨s.f1, s.f2, s.f3, 0⟩, true) else (0, false)) ⟨6, fun k hk => has_is hs.2 s.f1 s.f3 a k hk⟩ ?_
        by_cases c : byB a (ofSq s) = true
        · rw [if_pos c, show (if byB a ⟨s.f1, s.f2, s.f3, 0⟩ = true then (byV a ⟨s.f1, s.f2, s.f3, 0⟩, true) else ((0 : Int), false)) = (byV a ⟨s.f1, s.f2, s.f3, 0⟩, true) from if_pos c]
          exact yes rfl (Ev.now _)
        · rw [if_neg c, show (if byB a ⟨s.f1, s.f2, s.f3, 0⟩ = true then (byV a ⟨s.f1, s.f2, s.f3, 0⟩, true) else ((0 : Int), false)) = ((0 : Int), false) from if_neg c]
          exact no (by decide) hnext
      · rw [decide_eq_false cq]
        have : sqOk q s = false := by unfold sqOk; rw [decide_eq_false cq]; simp
        rw [this]
        exact skip
    · refine no c4 ?_
      have : sqOk q s = false := by unfold sqOk; simp [c4]
      rw [this]
      exact skip
theorem one_same (l : List S37) (b : List S48) (m : List Int) (hw : ∀ s ∈ l, W37 s) (hb : ∀ s ∈ b, W48 s) (hl : (l.length : Int) ≤ 9223372036854775807) (hl' : (b.length : Int) ≤ 9223372036854775807) (hm : (m.length : Int) ≤ 9223372036854775807) (q a : Int) (ha : U a) :
    Ev (fun k => cotterelref34_one.f k l b m q a) (byteX a (memX m a) (old q l b)) := by
  have := one_l0 l b m hw hb hl hl' hm q a ha l.length ((l.length : Int) - 1) (by omega) (by omega) (by omega)
  rw [show ((l.length : Int) - 1 + 1).toNat = l.length by omega, List.take_length] at this
  refine Ev.congr (fun k => ?_) this
  unfold cotterelref34_one.f
  rw [wrap64_small (by omega) (by omega)]
theorem rbytes_loop (l : List S37) (b : List S48) (m : List Int) (hw : ∀ s ∈ l, W37 s) (hb : ∀ s ∈ b, W48 s) (hl : (l.length : Int) ≤ 9223372036854775807) (hl' : (b.length : Int) ≤ 9223372036854775807) (hm : (m.length : Int) ≤ 9223372036854775807) (q a n : Int) : ∀ (d z : Nat), (z : Int) + d = fr n →
    Ev (fun k => cotterelref34_Bytes.l0 k l b m q a n (bytesX l b m q a z) (z : Int)) (bytesX l b m q a (fr n).toNat) := by
  have hf := fr_cases n
  intro d
  induction d with
  | zero =>
    intro z hz
    have e : (fr n).toNat = z := by omega
    rw [e]
    refine Ev.step (f := fun _ => some (bytesX l b m q a z)) (fun k => by simp only [cotterelref34_Bytes.l0]; rw [within_is]; simp only [Option.bind_some]; rw [if_neg (by omega)]) (Ev.now _)
  | succ d ih =>
    intro z hz
    have hn := ih (z + 1) (by omega)
    have hlen : (bytesX l b m q a z).length < 140737488355328 := by simp [bytesX]; omega
    have hbk : bytesX l b m q a (z + 1) = bytesX l b m q a z ++ [byteK l b m q a z] := by
      unfold bytesX
      rw [List.range_succ, List.map_append]
      rfl
    refine Ev.step (f := fun k => (cotterelref34_one.f k l b m q ((a + (z : Int)) % 4294967296)).bind fun t => cotterelref34_Bytes.l0 k l b m q a n (bytesX l b m q a z ++ [t]) (((z + 1 : Nat)) : Int)) (fun k => by
      simp only [cotterelref34_Bytes.l0]
      rw [within_is]
      simp only [Option.bind_some]
      rw [if_pos (by omega), wrap64_small (by omega) (by omega), show (z : Int) % 4294967296 = z by omega]
      simp only [hlen, if_true]
      rfl) ?_
    refine Ev.bind (a := byteK l b m q a z) (one_same l b m hw hb hl hl' hm q _ ⟨Int.emod_nonneg _ (by decide), Int.emod_lt_of_pos _ (by decide)⟩) ?_
    rw [hbk] at hn
    exact hn
theorem rbytes_same (l : List S37) (b : List S48) (m : List Int) (hw : ∀ s ∈ l, W37 s) (hb : ∀ s ∈ b, W48 s) (hl : (l.length : Int) ≤ 9223372036854775807) (hl' : (b.length : Int) ≤ 9223372036854775807) (hm : (m.length : Int) ≤ 9223372036854775807) (q a n : Int) :
    Ev (fun k => cotterelref34_Bytes.f k l b m q a n) (bytesX l b m q a (fr n).toNat) := by
  have hf := fr_cases n
  have := rbytes_loop l b m hw hb hl hl' hm q a n (fr n).toNat 0 (by omega)
  exact this
theorem memory_loop (p q r : Int) : ∀ (d z : Nat) (x : List Int), z + d = 128 → x.length = 128 → ∃ M : List Int, M.length = 128 ∧ Ev (fun k => cotterellaw34_memory.l0 k x (z : Int) p q r) M := by
  intro d
  induction d with
  | zero =>
    intro z x hz hx
    exact ⟨x, hx, Ev.step (f := fun _ => some x) (fun k => by simp only [cotterellaw34_memory.l0]; rw [if_neg (by omega)]) (Ev.now _)⟩
  | succ d ih =>
    intro z x hz hx
    obtain ⟨M, hM, hE⟩ := ih (z + 1) (x.set z ((IntKind.u64.wrap ((IntKind.u64.wrap ((IntKind.u64.wrap ((IntKind.u64.wrap ((z : Int))) * 37)) + p)) + (IntKind.u64.wrap (q)))) % 256)) (by omega) (by simp [hx])
    refine ⟨M, hM, Ev.step (f := fun k => cotterellaw34_memory.l0 k (x.set z ((IntKind.u64.wrap ((IntKind.u64.wrap ((IntKind.u64.wrap ((IntKind.u64.wrap ((z : Int))) * 37)) + p)) + (IntKind.u64.wrap (q)))) % 256)) (((z + 1 : Nat)) : Int) p q r) (fun k => ?_) hE⟩
    simp only [cotterellaw34_memory.l0]
    rw [if_pos (by omega), if_pos (by omega), wrap64_small (by omega) (by omega), Int.toNat_natCast]
    rfl
theorem memory_is (p q r : Int) : ∃ M : List Int, M.length = 128 ∧ Ev (fun k => cotterellaw34_memory.f k p q r) M := by
  obtain ⟨M, hM, hE⟩ := memory_loop p q r 128 0 (List.replicate 128 0) (by omega) (by simp)
  refine ⟨M, hM, ?_⟩
  unfold cotterellaw34_memory.f
  exact yes (by decide) hE
theorem bsame_loop (l : List Int) (hl : (l.length : Int) ≤ 9223372036854775807) : ∀ (d z : Nat), z + d = l.length → Ev (fun k => cotterelsame_Bytes.l0 k l l (z : Int)) true := by
  intro d
  induction d with
  | zero =>
    intro z hz
    refine Ev.step (f := fun k => cotterelsame_Bytes.j1 k l l z false) (fun k => by simp only [cotterelsame_Bytes.l0]; rw [if_neg (by omega)]) ?_
    exact Ev.step (f := fun _ => some true) (fun k => by simp only [cotterelsame_Bytes.j1]; rfl) (Ev.now _)
  | succ d ih =>
    intro z hz
    refine Ev.step (f := fun k => cotterelsame_Bytes.j1 k l l z true) (fun k => by simp only [cotterelsame_Bytes.l0]; rw [if_pos (by omega), decide_eq_true (by omega)]) ?_
    refine Ev.step (f := fun k => cotterelsame_Bytes.l0 k l l ((z + 1 : Nat) : Int)) (fun k => ?_) (ih (z + 1) (by omega))
    simp only [cotterelsame_Bytes.j1, if_true]
    rw [if_pos (by omega), if_pos (by omega), if_pos (by omega), wrap64_small (by omega) (by omega)]
    rfl
theorem bsame_is (l : List Int) (hl : (l.length : Int) ≤ 9223372036854775807) : Ev (fun k => cotterelsame_Bytes.f k l l) true := by
  unfold cotterelsame_Bytes.f
  exact yes rfl (bsame_loop l hl l.length 0 (by omega))
theorem bytes_pure (l : List S37) (b : List S48) (hw : ∀ s ∈ l, W37 s) (hb : ∀ s ∈ b, W48 s) (q a n : Int) : ∃ k, cotterellaw34_FwdBytes.f k l b q a n = some true := by
  refine Ev.rounds ?_
  have aw : ∀ (g : Nat → Option Bool), (∀ k, g k = (cotterellaw34_awake.f k).bind fun t => some t) → Ev g true := fun g hg => Ev.congr (fun k => (hg k).trans (by rw [awake_is]; rfl)) (Ev.now true)
  have out : Ev (fun k => cotterellaw34_FwdBytes.j0 k l b true q a n) true :=
    Ev.step (f := fun k => (cotterellaw34_awake.f k).bind fun t => some t) (fun k => by simp only [cotterellaw34_FwdBytes.j0, if_true]) (aw _ fun _ => rfl)
  unfold cotterellaw34_FwdBytes.f
  by_cases c0 : (l.length : Int) > 40
  · exact yes c0 out
  · refine no c0 ?_
    by_cases c1 : (b.length : Int) > 40
    · rw [decide_eq_true c1]; exact out
    · rw [decide_eq_false c1]
      obtain ⟨M, hM, hE⟩ := memory_is q a n
      have hf := fr_cases n
      refine Ev.step (f := fun k => (cotterellaw34_memory.f k q a n).bind fun m => (fwd_Bytes.f k l b m q a n).bind fun x => (cotterelref34_Bytes.f k l b m q a n).bind fun y => (cotterelsame_Bytes.f k x y).bind fun t => if t = true then (cotterellaw34_awake.f k).bind fun u => some u else some false) (fun k => by simp only [cotterellaw34_FwdBytes.j0, Bool.false_eq_true, if_false]) ?_
      refine Ev.bind hE (Ev.bind (a := bytesX l b M q a (fr n).toNat) (Ev.now _) (Ev.bind (rbytes_same l b M hw hb (by omega) (by omega) (by omega) q a n) (Ev.bind (bsame_is _ ?_) (yes rfl (aw _ fun _ => rfl)))))
      simp [bytesX]; omega
end Go.Proofs.Ytaeglelhoenfgaa.PFwd
