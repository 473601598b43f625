/- A flight out of the cells that a judged input lays. No condition. -/
import Derived.Test.YtbkjdikiepnhbaaFlX2
import Derived.Test.YtbkjdikiepnhbaaOpen
namespace Go.Proofs.Ytbkjdikiepnhbaa.Fl
open Go Go.Proofs Go.RowKit Go.Proofs.Ytbkjdikiepnhbaa.Open
def G44 (_ : S44) : Prop := True
theorem dec44 {H : Type} {enc : TypeId × Value → H} {w : World} {base : Nat} {spare : Nat → Bool} {held : Bool} (W : World) (n : Nat) (cs : List Value) (x : DataW H × List MemPlace) (hl : cs.length = 35) (h : DataW.trod enc Try.prog w base spare held n 44 cs = some x) : ∃ p, k44.K W p cs ∧ G44 p := by
  have hg := leaves_get 8 44 [3, 3, 3, 3, 3, 30, 30, 3, 30, 4, 30, 30, 3, 30, 3, 3, 4, 3, 3, 3, 3, 3, 30, 40, 3, 3, 3, 3, 3, 3, 3, 30, 30, 3, 30] n cs x (by kernel_rfl) h
  obtain ⟨c0, e0, o0⟩ := hg 0 3 rfl
  obtain ⟨p0, rfl, _⟩ := leaf_int Try.underlying3 o0
  clear o0
  obtain ⟨c1, e1, o1⟩ := hg 1 3 rfl
  obtain ⟨p1, rfl, _⟩ := leaf_int Try.underlying3 o1
  clear o1
  obtain ⟨c2, e2, o2⟩ := hg 2 3 rfl
  obtain ⟨p2, rfl, _⟩ := leaf_int Try.underlying3 o2
  clear o2
  obtain ⟨c3, e3, o3⟩ := hg 3 3 rfl
  obtain ⟨p3, rfl, _⟩ := leaf_int Try.underlying3 o3
  clear o3
  obtain ⟨c4, e4, o4⟩ := hg 4 3 rfl
  obtain ⟨p4, rfl, _⟩ := leaf_int Try.underlying3 o4
  clear o4
  obtain ⟨c5, e5, o5⟩ := hg 5 30 rfl
  obtain ⟨p5, rfl, _⟩ := leaf_int Try.underlying30 o5
  clear o5
  obtain ⟨c6, e6, o6⟩ := hg 6 30 rfl
  obtain ⟨p6, rfl, _⟩ := leaf_int Try.underlying30 o6
  clear o6
  obtain ⟨c7, e7, o7⟩ := hg 7 3 rfl
  obtain ⟨p7, rfl, _⟩ := leaf_int Try.underlying3 o7
  clear o7
  obtain ⟨c8, e8, o8⟩ := hg 8 30 rfl
  obtain ⟨p8, rfl, _⟩ := leaf_int Try.underlying30 o8
  clear o8
  obtain ⟨c9, e9, o9⟩ := hg 9 4 rfl
  obtain ⟨p9, rfl⟩ := leaf_bool Try.underlying4 o9
  clear o9
  obtain ⟨c10, e10, o10⟩ := hg 10 30 rfl
  obtain ⟨p10, rfl, _⟩ := leaf_int Try.underlying30 o10
  clear o10
  obtain ⟨c11, e11, o11⟩ := hg 11 30 rfl
  obtain ⟨p11, rfl, _⟩ := leaf_int Try.underlying30 o11
  clear o11
  obtain ⟨c12, e12, o12⟩ := hg 12 3 rfl
  obtain ⟨p12, rfl, _⟩ := leaf_int Try.underlying3 o12
  clear o12
  obtain ⟨c13, e13, o13⟩ := hg 13 30 rfl
  obtain ⟨p13, rfl, _⟩ := leaf_int Try.underlying30 o13
  clear o13
  obtain ⟨c14, e14, o14⟩ := hg 14 3 rfl
  obtain ⟨p14, rfl, _⟩ := leaf_int Try.underlying3 o14
  clear o14
  obtain ⟨c15, e15, o15⟩ := hg 15 3 rfl
  obtain ⟨p15, rfl, _⟩ := leaf_int Try.underlying3 o15
  clear o15
  obtain ⟨c16, e16, o16⟩ := hg 16 4 rfl
  obtain ⟨p16, rfl⟩ := leaf_bool Try.underlying4 o16
  clear o16
  obtain ⟨c17, e17, o17⟩ := hg 17 3 rfl
  obtain ⟨p17, rfl, _⟩ := leaf_int Try.underlying3 o17
  clear o17
  obtain ⟨c18, e18, o18⟩ := hg 18 3 rfl
  obtain ⟨p18, rfl, _⟩ := leaf_int Try.underlying3 o18
  clear o18
  obtain ⟨c19, e19, o19⟩ := hg 19 3 rfl
  obtain ⟨p19, rfl, _⟩ := leaf_int Try.underlying3 o19
  clear o19
  obtain ⟨c20, e20, o20⟩ := hg 20 3 rfl
  obtain ⟨p20, rfl, _⟩ := leaf_int Try.underlying3 o20
  clear o20
  obtain ⟨c21, e21, o21⟩ := hg 21 3 rfl
  obtain ⟨p21, rfl, _⟩ := leaf_int Try.underlying3 o21
  clear o21
  obtain ⟨c22, e22, o22⟩ := hg 22 30 rfl
  obtain ⟨p22, rfl, _⟩ := leaf_int Try.underlying30 o22
  clear o22
  obtain ⟨c23, e23, o23⟩ := hg 23 40 rfl
  obtain ⟨p23, rfl, _⟩ := leaf_int Try.underlying40 o23
  clear o23
  obtain ⟨c24, e24, o24⟩ := hg 24 3 rfl
  obtain ⟨p24, rfl, _⟩ := leaf_int Try.underlying3 o24
  clear o24
  obtain ⟨c25, e25, o25⟩ := hg 25 3 rfl
  obtain ⟨p25, rfl, _⟩ := leaf_int Try.underlying3 o25
  clear o25
  obtain ⟨c26, e26, o26⟩ := hg 26 3 rfl
  obtain ⟨p26, rfl, _⟩ := leaf_int Try.underlying3 o26
  clear o26
  obtain ⟨c27, e27, o27⟩ := hg 27 3 rfl
  obtain ⟨p27, rfl, _⟩ := leaf_int Try.underlying3 o27
  clear o27
  obtain ⟨c28, e28, o28⟩ := hg 28 3 rfl
  obtain ⟨p28, rfl, _⟩ := leaf_int Try.underlying3 o28
  clear o28
  obtain ⟨c29, e29, o29⟩ := hg 29 3 rfl
  obtain ⟨p29, rfl, _⟩ := leaf_int Try.underlying3 o29
  clear o29
  obtain ⟨c30, e30, o30⟩ := hg 30 3 rfl
  obtain ⟨p30, rfl, _⟩ := leaf_int Try.underlying3 o30
  clear o30
  obtain ⟨c31, e31, o31⟩ := hg 31 30 rfl
  obtain ⟨p31, rfl, _⟩ := leaf_int Try.underlying30 o31
  clear o31
  obtain ⟨c32, e32, o32⟩ := hg 32 30 rfl
  obtain ⟨p32, rfl, _⟩ := leaf_int Try.underlying30 o32
  clear o32
  obtain ⟨c33, e33, o33⟩ := hg 33 3 rfl
  obtain ⟨p33, rfl, _⟩ := leaf_int Try.underlying3 o33
  clear o33
  obtain ⟨c34, e34, o34⟩ := hg 34 30 rfl
  obtain ⟨p34, rfl, _⟩ := leaf_int Try.underlying30 o34
  clear o34
  clear hg h
  have e : cs = cs44 (⟨⟨⟨⟨p0, p1, p2, p3, p4⟩, ⟨p5, p6, p7, p8, ⟨p9, p10, ⟨p11, p12, p13⟩⟩⟩, p14, p15, p16, ⟨p17, p18, p19⟩, p20, p21, p22⟩, p23, ⟨p24, p25, p26⟩, p27, p28⟩, p29, p30, p31, p32, p33, p34⟩ : S44) := by
    refine List.ext_getElem? fun i => ?_
    by_cases hi : i < 35
    · match i, hi with
      | 0, _ => exact e0
      | 1, _ => exact e1
      | 2, _ => exact e2
      | 3, _ => exact e3
      | 4, _ => exact e4
      | 5, _ => exact e5
      | 6, _ => exact e6
      | 7, _ => exact e7
      | 8, _ => exact e8
      | 9, _ => exact e9
      | 10, _ => exact e10
      | 11, _ => exact e11
      | 12, _ => exact e12
      | 13, _ => exact e13
      | 14, _ => exact e14
      | 15, _ => exact e15
      | 16, _ => exact e16
      | 17, _ => exact e17
      | 18, _ => exact e18
      | 19, _ => exact e19
      | 20, _ => exact e20
      | 21, _ => exact e21
      | 22, _ => exact e22
      | 23, _ => exact e23
      | 24, _ => exact e24
      | 25, _ => exact e25
      | 26, _ => exact e26
      | 27, _ => exact e27
      | 28, _ => exact e28
      | 29, _ => exact e29
      | 30, _ => exact e30
      | 31, _ => exact e31
      | 32, _ => exact e32
      | 33, _ => exact e33
      | 34, _ => exact e34
      | k + 35, hk => exact absurd hk (by omega)
    · rw [List.getElem?_eq_none (by omega), List.getElem?_eq_none (by rw [cs_len]; omega)]
  exact ⟨_, by rw [e]; exact cs_k44 W _, trivial⟩
end Go.Proofs.Ytbkjdikiepnhbaa.Fl
