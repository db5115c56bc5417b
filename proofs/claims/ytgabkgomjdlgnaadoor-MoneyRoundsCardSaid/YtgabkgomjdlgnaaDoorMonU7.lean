import Derived.Test.YtgabkgomjdlgnaaDoorMonU4
import Derived.Test.YtgabkgomjdlgnaaDoorMonU5
import Derived.Test.YtgabkgomjdlgnaaDoorMonU6
namespace Go.Proofs.YtgabkgomjdlgnaaDoor
open Go.RowKit Go.Lib
set_option linter.unusedVariables false
set_option linter.unusedSimpArgs false

theorem scAt (m n den : Int) (r : Nat) (x : Int) (r1 : 1 ≤ r) (r2 : r ≤ 6) (h : Mo.scaleE m n den r = (x, 0)) : ScAt m n den (r : Int) x := fun w => by
  have := scale_calls m n den r r1 r2 w
  rw [h] at this
  exact this
theorem neAt (a b c : Int) (h : (if 0 ≤ a then a else b) = c) : NeAt a b c := fun w => by
  have := nearer_calls a b w
  rw [h] at this
  exact this
set_option maxRecDepth 100000 in
theorem rounds_bad (m n den A E B F : Int) (w : World) (hA : ∀ w, Calls Tryd.prog 16 #[.int .i64 m, .int .i64 n, .int .i64 den, .int .i64 3] w fun e w' => e = .returned (.tuple #[.int .i64 A, .int .i64 E]) ∧ Below w.heap.size w w')
    (hB : ∀ w, Calls Tryd.prog 16 #[.int .i64 m, .int .i64 n, .int .i64 den, .int .i64 4] w fun e w' => e = .returned (.tuple #[.int .i64 B, .int .i64 F]) ∧ Below w.heap.size w w')
    (h : (E ≠ 0 ∧ A = 0) ∨ (E = 0 ∧ F ≠ 0)) :
    Calls Tryd.prog 7 #[.int .i64 m, .int .i64 n, .int .i64 den] w fun e w' => e = .returned (.bool true) ∧ Below w.heap.size w w' := by
  have HA := Lib.hid hA
  have HB := Lib.hid hB
  clear hA hB
  rcases h with ⟨h1, rfl⟩ | ⟨rfl, h2⟩
  · have c1 : (E != 0) = true := by simpa using h1
    clear h1
    go_enter Tryd.func7, Tryd.ntmps7
    go_wp2_with (first
      | (go_at_call 15; refine (works_calls _).mono ?_; rintro e w1 ⟨rfl, b1⟩; have B1 := Lib.hid b1; clear b1)
      | (go_at_call 16; with_reducible refine (HA.out _).mono ?_; rintro e w2 ⟨rfl, b2⟩; have B2 := Lib.hid (B1.out.trans (b2.mono B1.out.size)); clear b2 B1)
      | (go_at_call 16; with_reducible refine (HB.out _).mono ?_; rintro e w3 ⟨rfl, b3⟩; have B3 := Lib.hid (B2.out.trans (b3.mono B2.out.size)); clear b3 B2))
    go_ret
    exact ⟨by first | rfl | simp, B3.out⟩
  · have c1 : (F != 0) = true := by simpa using h2
    clear h2
    obtain ⟨t, ht⟩ : ∃ t, (A == 0) = t := ⟨_, rfl⟩
    cases t with
    | true =>
      go_enter Tryd.func7, Tryd.ntmps7
      go_wp2_with (first
        | (go_at_call 15; refine (works_calls _).mono ?_; rintro e w1 ⟨rfl, b1⟩; have B1 := Lib.hid b1; clear b1)
        | (go_at_call 16; with_reducible refine (HA.out _).mono ?_; rintro e w2 ⟨rfl, b2⟩; have B2 := Lib.hid (B1.out.trans (b2.mono B1.out.size)); clear b2 B1)
        | (go_at_call 16; with_reducible refine (HB.out _).mono ?_; rintro e w3 ⟨rfl, b3⟩; have B3 := Lib.hid (B2.out.trans (b3.mono B2.out.size)); clear b3 B2))
      go_ret
      exact ⟨by first | rfl | simp, B3.out⟩
    | false =>
      go_enter Tryd.func7, Tryd.ntmps7
      go_wp2_with (first
        | (go_at_call 15; refine (works_calls _).mono ?_; rintro e w1 ⟨rfl, b1⟩; have B1 := Lib.hid b1; clear b1)
        | (go_at_call 16; with_reducible refine (HA.out _).mono ?_; rintro e w2 ⟨rfl, b2⟩; have B2 := Lib.hid (B1.out.trans (b2.mono B1.out.size)); clear b2 B1)
        | (go_at_call 16; with_reducible refine (HB.out _).mono ?_; rintro e w3 ⟨rfl, b3⟩; have B3 := Lib.hid (B2.out.trans (b3.mono B2.out.size)); clear b3 B2))
      go_ret
      exact ⟨by first | rfl | simp, B3.out⟩
theorem rounds_walk (m n den : Int) (w : World) (_ : (Lit.int .i64 m).wf = true) (_ : (Lit.int .i64 n).wf = true) (_ : (Lit.int .i64 den).wf = true) :
    Calls Tryd.prog 7 #[.int .i64 m, .int .i64 n, .int .i64 den] w fun e w' => e = .returned (.bool true) ∧ Below w.heap.size w w' := by
  by_cases he : (Mo.scaleE m n den 3).2 = 0
  · by_cases hf : (Mo.scaleE m n den 4).2 = 0
    · obtain ⟨a, b, x, y, S⟩ := Mo.six m n den he hf
      have hb := chk_bound m S.ok
      have d1 := S.den1
      have lo := S.lo
      have hi := S.hi
      have ab := S.ab
      have c : ∀ r : Nat, 1 ≤ r → r ≤ 6 → ScAt m n den (r : Int) (x r) ∧ ScAt (-m) n den (r : Int) (y r) := fun r r1 r2 => ⟨scAt m n den r _ r1 r2 (S.all r r1 r2).1, scAt (-m) n den r _ r1 r2 (S.all r r1 r2).2⟩
      have c1 := c 1 (by omega) (by omega)
      have c2 := c 2 (by omega) (by omega)
      have c3 := c 3 (by omega) (by omega)
      have c4 := c 4 (by omega) (by omega)
      have c5 := c 5 (by omega) (by omega)
      have c6 := c 6 (by omega) (by omega)
      have A3 := scAt m n den 3 a (by omega) (by omega) S.at3
      have A4 := scAt m n den 4 b (by omega) (by omega) S.at4
      have q5 : NrAt (x 5) m n den := fun w => near_calls (x 5) m n den d1 S.n5.1 S.n5.2 w
      have q6 : NrAt (x 6) m n den := fun w => near_calls (x 6) m n den d1 S.n6.1 S.n6.2 w
      have wm : IntKind.i64.wrap (-m) = -m := IntWalk.i64_in _ (by omega)
      have wa : IntKind.i64.wrap (-a) = -a := IntWalk.i64_in _ (by omega)
      have wb : IntKind.i64.wrap (-b) = -b := IntWalk.i64_in _ (by omega)
      have t5 := S.two 5 (by omega) (by omega)
      have t6 := S.two 6 (by omega) (by omega)
      have y1 := S.y1
      have y2 := S.y2
      have y3 := S.y3
      have y4 := S.y4
      have y5 := S.y5
      have y6 := S.y6
      have x1 := S.x1
      have x2 := S.x2
      have t2 := S.two 2 (by omega) (by omega)
      have one := S.one
      clear c S
      rw [y1] at c1
      rw [y2] at c2
      rw [y3] at c3
      rw [y4] at c4
      rw [y5] at c5
      rw [y6] at c6
      by_cases hab : a = b
      · subst hab
        have hx1 : x 1 = a := by rw [x1]; split <;> rfl
        have hx2 : x 2 = a := by rcases t2 with h | h <;> exact h
        have hx5 : x 5 = a := by rcases t5 with h | h <;> exact h
        have hx6 : x 6 = a := by rcases t6 with h | h <;> exact h
        rw [hx1] at c1
        rw [hx2] at c2
        rw [hx5] at c5 q5
        rw [hx6] at c6 q6
        exact rounds_eq m n den a _ _ w wm wa (decide_eq_false (by omega)) (neAt a a a (by split <;> rfl)) c1.1 c1.2 c2.1 c2.2 A3 c3.2 A4 c4.2 c5.1 c5.2 q5 c6.1 c6.2 q6
      · have hb1 : b = a + 1 := by omega
        have x2' := x2 hab
        have z5 : (ScAt m n den 5 a ∧ ScAt (-m) n den 5 (-a) ∧ NrAt a m n den) ∨ (ScAt m n den 5 b ∧ ScAt (-m) n den 5 (-b) ∧ NrAt b m n den) := by
          rcases t5 with h | h
          · rw [h] at c5 q5; exact .inl ⟨c5.1, c5.2, q5⟩
          · rw [h] at c5 q5; exact .inr ⟨c5.1, c5.2, q5⟩
        have z6 : (ScAt m n den 6 a ∧ ScAt (-m) n den 6 (-a) ∧ NrAt a m n den) ∨ (ScAt m n den 6 b ∧ ScAt (-m) n den 6 (-b) ∧ NrAt b m n den) := by
          rcases t6 with h | h
          · rw [h] at c6 q6; exact .inl ⟨c6.1, c6.2, q6⟩
          · rw [h] at c6 q6; exact .inr ⟨c6.1, c6.2, q6⟩
        have e1 : (a != b) = true := by simpa using hab
        have e2 : (b != a) = true := by simpa using fun h : b = a => hab h.symm
        have e3 : (-a != -b) = true := by rw [bne_iff_ne]; omega
        have e4 : (-b != -a) = true := by rw [bne_iff_ne]; omega
        have e5 : (a == b) = false := by simpa using hab
        have e6 : (b == a) = false := by simpa using fun h : b = a => hab h.symm
        have e7 : decide (b < a) = false := decide_eq_false (by omega)
        have e8 : IntKind.i64.wrap (b - a) = 1 := by rw [hb1, show a + 1 - a = 1 by omega]; rfl
        have e10 : (den == 1) = false := by rw [beq_eq_false_iff_ne]; intro h; exact hab (one h)
        by_cases h0 : 0 ≤ a
        · rw [if_pos h0] at x1 x2'
          have hx2 : x 2 = b := by
            rcases t2 with h | h
            · exact absurd h x2'
            · exact h
          rw [x1] at c1
          rw [hx2] at c2
          exact rounds_pos m n den a b _ _ _ w wm wa wb e1 e2 e3 e4 e5 e6 e7 1 e8 rfl e10 (neAt a b a (if_pos h0)) c1.1 c1.2 c2.1 c2.2 A3 c3.2 A4 c4.2 z5 z6
        · rw [if_neg h0] at x1 x2'
          have hx2 : x 2 = a := by
            rcases t2 with h | h
            · exact h
            · exact absurd h x2'
          rw [x1] at c1
          rw [hx2] at c2
          exact rounds_neg m n den a b _ _ _ w wm wa wb e1 e2 e3 e4 e5 e6 e7 1 e8 rfl e10 (neAt a b b (if_neg h0)) c1.1 c1.2 c2.1 c2.2 A3 c3.2 A4 c4.2 z5 z6
    · have hA := fun w => scale_calls m n den 3 (by omega) (by omega) w
      have hB := fun w => scale_calls m n den 4 (by omega) (by omega) w
      exact rounds_bad m n den _ _ _ _ w hA hB (.inr ⟨he, hf⟩)
  · have hA := fun w => scale_calls m n den 3 (by omega) (by omega) w
    have hB := fun w => scale_calls m n den 4 (by omega) (by omega) w
    exact rounds_bad m n den _ _ _ _ w hA hB (.inl ⟨he, Mo.scaleE_no m n den 3 he⟩)
end Go.Proofs.YtgabkgomjdlgnaaDoor
