import Derived.Test.YtgabkgomjdlgnaaDoorMonU4
import Derived.SizedLaws
namespace Go.Proofs.YtgabkgomjdlgnaaDoor
open Go.RowKit Go.Lib
set_option linter.unusedVariables false
set_option linter.unusedSimpArgs false


set_option maxHeartbeats 4000000 in
set_option maxRecDepth 100000 in
theorem rounds_neg (m n den a b na nb nm : Int) (w : World) (wm : IntKind.i64.wrap (-m) = nm) (wa : IntKind.i64.wrap (-a) = na) (wb : IntKind.i64.wrap (-b) = nb)
    (e1 : (a != b) = true) (e2 : (b != a) = true) (e3 : (na != nb) = true) (e4 : (nb != na) = true) (e5 : (a == b) = false) (e6 : (b == a) = false) (e7 : decide (b < a) = false) (D : Int) (e8 : IntKind.i64.wrap (b - a) = D) (e9 : decide (1 < D) = false) (e10 : (den == 1) = false)
    (hN : NeAt a b b)
    (x1 : ScAt m n den 1 b) (y1 : ScAt nm n den 1 nb)
    (x2 : ScAt m n den 2 a) (y2 : ScAt nm n den 2 na)
    (x3 : ScAt m n den 3 a) (y3 : ScAt nm n den 3 nb)
    (x4 : ScAt m n den 4 b) (y4 : ScAt nm n den 4 na)
    (z5 : (ScAt m n den 5 a ∧ ScAt nm n den 5 na ∧ NrAt a m n den) ∨ (ScAt m n den 5 b ∧ ScAt nm n den 5 nb ∧ NrAt b m n den))
    (z6 : (ScAt m n den 6 a ∧ ScAt nm n den 6 na ∧ NrAt a m n den) ∨ (ScAt m n den 6 b ∧ ScAt nm n den 6 nb ∧ NrAt b m n den))
    : Calls Tryd.prog 7 #[.int .i64 m, .int .i64 n, .int .i64 den] w fun e w' => e = .returned (.bool true) ∧ Below w.heap.size w w' := by
  have HA := Lib.hid (fun w => x3 w)
  have HB := Lib.hid (fun w => x4 w)
  have HN := Lib.hid (fun w => hN w)
  have X1 := Lib.hid x1
  have Y1 := Lib.hid y1
  have X2 := Lib.hid x2
  have Y2 := Lib.hid y2
  have X3 := Lib.hid x3
  have Y3 := Lib.hid y3
  have X4 := Lib.hid x4
  have Y4 := Lib.hid y4
  have Z5 := Lib.hid z5
  have Z6 := Lib.hid z6
  clear x1 x2 x3 x4 y1 y2 y3 y4 hN z5 z6
  go_enter Tryd.func7, Tryd.ntmps7
  go_wp2_with (first
    | (go_at_call 15; refine (works_calls _).mono ?_; rintro e w1 ⟨rfl, b1⟩; have B1 := Lib.hid b1; clear b1)
    | (go_at_call 16; with_reducible refine (HA.out _).mono ?_; rintro e w2 ⟨rfl, b2⟩; have B2 := Lib.hid (B1.out.trans (b2.mono B1.out.size)); clear b2 B1)
    | (go_at_call 16; with_reducible refine (HB.out _).mono ?_; rintro e w3 ⟨rfl, b3⟩; have B3 := Lib.hid (B2.out.trans (b3.mono B2.out.size)); clear b3 B2))
  go_loopw [11] (fun i wx => ∃ r : Nat, 1 ≤ r ∧ r ≤ 7 ∧ i = .int .i64 r ∧ Below w.heap.size w wx) (fun i _ => 7 - (intOf i).toNat)
  case atStart => exact ⟨1, by omega, by omega, rfl, B3.out⟩
  case round =>
    clear HA HB B3
    obtain ⟨r, r1, r2, rfl, b0⟩ := hrel
    have B := Lib.hid b0
    clear b0
    have hr : r = 1 ∨ r = 2 ∨ r = 3 ∨ r = 4 ∨ r = 5 ∨ r = 6 ∨ r = 7 := by omega
    clear r1 r2
    rcases hr with rfl | rfl | rfl | rfl | rfl | rfl | rfl
    · as_aux_lemma =>
        have HX := Lib.hid (fun w => X1.out w)
        have HY := Lib.hid (fun w => Y1.out w)
        go_wp2_with (first
          | (go_at_call 16; with_reducible refine (HX.out _).mono ?_; rintro e w4 ⟨rfl, b4⟩; have B4 := Lib.hid (B.out.trans (b4.mono B.out.size)); clear b4)
          | (go_at_call 16; with_reducible refine (HY.out _).mono ?_; rintro e w5 ⟨rfl, b5⟩; have B5 := Lib.hid (B4.out.trans (b5.mono B4.out.size)); clear b5)
          | (go_at_call 22; refine (HN.out _).mono ?_; rintro e w6 ⟨rfl, rfl⟩))
        go_round
        case rel => exact ⟨2, by omega, by omega, rfl, B5.out⟩
        case measure => simp [intOf]
    · as_aux_lemma =>
        have HX := Lib.hid (fun w => X2.out w)
        have HY := Lib.hid (fun w => Y2.out w)
        go_wp2_with (first
          | (go_at_call 16; with_reducible refine (HX.out _).mono ?_; rintro e w4 ⟨rfl, b4⟩; have B4 := Lib.hid (B.out.trans (b4.mono B.out.size)); clear b4)
          | (go_at_call 16; with_reducible refine (HY.out _).mono ?_; rintro e w5 ⟨rfl, b5⟩; have B5 := Lib.hid (B4.out.trans (b5.mono B4.out.size)); clear b5)
          | (go_at_call 22; refine (HN.out _).mono ?_; rintro e w6 ⟨rfl, rfl⟩))
        go_round
        case rel => exact ⟨3, by omega, by omega, rfl, B5.out⟩
        case measure => simp [intOf]
    · as_aux_lemma =>
        have HX := Lib.hid (fun w => X3.out w)
        have HY := Lib.hid (fun w => Y3.out w)
        go_wp2_with (first
          | (go_at_call 16; with_reducible refine (HX.out _).mono ?_; rintro e w4 ⟨rfl, b4⟩; have B4 := Lib.hid (B.out.trans (b4.mono B.out.size)); clear b4)
          | (go_at_call 16; with_reducible refine (HY.out _).mono ?_; rintro e w5 ⟨rfl, b5⟩; have B5 := Lib.hid (B4.out.trans (b5.mono B4.out.size)); clear b5)
          | (go_at_call 22; refine (HN.out _).mono ?_; rintro e w6 ⟨rfl, rfl⟩))
        go_round
        case rel => exact ⟨4, by omega, by omega, rfl, B5.out⟩
        case measure => simp [intOf]
    · as_aux_lemma =>
        have HX := Lib.hid (fun w => X4.out w)
        have HY := Lib.hid (fun w => Y4.out w)
        go_wp2_with (first
          | (go_at_call 16; with_reducible refine (HX.out _).mono ?_; rintro e w4 ⟨rfl, b4⟩; have B4 := Lib.hid (B.out.trans (b4.mono B.out.size)); clear b4)
          | (go_at_call 16; with_reducible refine (HY.out _).mono ?_; rintro e w5 ⟨rfl, b5⟩; have B5 := Lib.hid (B4.out.trans (b5.mono B4.out.size)); clear b5)
          | (go_at_call 22; refine (HN.out _).mono ?_; rintro e w6 ⟨rfl, rfl⟩))
        go_round
        case rel => exact ⟨5, by omega, by omega, rfl, B5.out⟩
        case measure => simp [intOf]
    · rcases Z5.out with ⟨p, q, s⟩ | ⟨p, q, s⟩
      · have P := Lib.hid p
        have Q := Lib.hid q
        have S := Lib.hid s
        clear p q s
        as_aux_lemma =>
          have HX := Lib.hid (fun w => P.out w)
          have HY := Lib.hid (fun w => Q.out w)
          have HQ := Lib.hid (fun w => S.out w)
          go_wp2_with (first
            | (go_at_call 16; with_reducible refine (HX.out _).mono ?_; rintro e w4 ⟨rfl, b4⟩; have B4 := Lib.hid (B.out.trans (b4.mono B.out.size)); clear b4)
            | (go_at_call 16; with_reducible refine (HY.out _).mono ?_; rintro e w5 ⟨rfl, b5⟩; have B5 := Lib.hid (B4.out.trans (b5.mono B4.out.size)); clear b5)
            | (go_at_call 23; refine (HQ.out _).mono ?_; rintro e w7 ⟨rfl, rfl⟩)
            | (go_at_call 22; refine (HN.out _).mono ?_; rintro e w6 ⟨rfl, rfl⟩))
          go_round
          case rel => exact ⟨6, by omega, by omega, rfl, B5.out⟩
          case measure => simp [intOf]
      · have P := Lib.hid p
        have Q := Lib.hid q
        have S := Lib.hid s
        clear p q s
        as_aux_lemma =>
          have HX := Lib.hid (fun w => P.out w)
          have HY := Lib.hid (fun w => Q.out w)
          have HQ := Lib.hid (fun w => S.out w)
          go_wp2_with (first
            | (go_at_call 16; with_reducible refine (HX.out _).mono ?_; rintro e w4 ⟨rfl, b4⟩; have B4 := Lib.hid (B.out.trans (b4.mono B.out.size)); clear b4)
            | (go_at_call 16; with_reducible refine (HY.out _).mono ?_; rintro e w5 ⟨rfl, b5⟩; have B5 := Lib.hid (B4.out.trans (b5.mono B4.out.size)); clear b5)
            | (go_at_call 23; refine (HQ.out _).mono ?_; rintro e w7 ⟨rfl, rfl⟩)
            | (go_at_call 22; refine (HN.out _).mono ?_; rintro e w6 ⟨rfl, rfl⟩))
          go_round
          case rel => exact ⟨6, by omega, by omega, rfl, B5.out⟩
          case measure => simp [intOf]
    · rcases Z6.out with ⟨p, q, s⟩ | ⟨p, q, s⟩
      · have P := Lib.hid p
        have Q := Lib.hid q
        have S := Lib.hid s
        clear p q s
        as_aux_lemma =>
          have HX := Lib.hid (fun w => P.out w)
          have HY := Lib.hid (fun w => Q.out w)
          have HQ := Lib.hid (fun w => S.out w)
          go_wp2_with (first
            | (go_at_call 16; with_reducible refine (HX.out _).mono ?_; rintro e w4 ⟨rfl, b4⟩; have B4 := Lib.hid (B.out.trans (b4.mono B.out.size)); clear b4)
            | (go_at_call 16; with_reducible refine (HY.out _).mono ?_; rintro e w5 ⟨rfl, b5⟩; have B5 := Lib.hid (B4.out.trans (b5.mono B4.out.size)); clear b5)
            | (go_at_call 23; refine (HQ.out _).mono ?_; rintro e w7 ⟨rfl, rfl⟩)
            | (go_at_call 22; refine (HN.out _).mono ?_; rintro e w6 ⟨rfl, rfl⟩))
          go_round
          case rel => exact ⟨7, by omega, by omega, rfl, B5.out⟩
          case measure => simp [intOf]
      · have P := Lib.hid p
        have Q := Lib.hid q
        have S := Lib.hid s
        clear p q s
        as_aux_lemma =>
          have HX := Lib.hid (fun w => P.out w)
          have HY := Lib.hid (fun w => Q.out w)
          have HQ := Lib.hid (fun w => S.out w)
          go_wp2_with (first
            | (go_at_call 16; with_reducible refine (HX.out _).mono ?_; rintro e w4 ⟨rfl, b4⟩; have B4 := Lib.hid (B.out.trans (b4.mono B.out.size)); clear b4)
            | (go_at_call 16; with_reducible refine (HY.out _).mono ?_; rintro e w5 ⟨rfl, b5⟩; have B5 := Lib.hid (B4.out.trans (b5.mono B4.out.size)); clear b5)
            | (go_at_call 23; refine (HQ.out _).mono ?_; rintro e w7 ⟨rfl, rfl⟩)
            | (go_at_call 22; refine (HN.out _).mono ?_; rintro e w6 ⟨rfl, rfl⟩))
          go_round
          case rel => exact ⟨7, by omega, by omega, rfl, B5.out⟩
          case measure => simp [intOf]
    · as_aux_lemma =>
        go_wp2
        go_ret
        exact ⟨rfl, B.out⟩
end Go.Proofs.YtgabkgomjdlgnaaDoor
