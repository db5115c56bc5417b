import Derived.Test.YtgabkgomjdlgnaaDoorMonLc
namespace Go.Proofs.YtgabkgomjdlgnaaDoor
open Go.RowKit Go.Lib
set_option linter.unusedVariables false
set_option linter.unusedSimpArgs false

namespace Mo
/-- how 'Scale' answers (of a rounding that there is) -/
def scaleE (m num den : Int) (r : Nat) : Int × Int :=
  if chk m ≠ 0 then (0, 22) else if den < 1 ∨ 1000000000 < den ∨ num < -1000000000 ∨ 1000000000 < num then (0, 4)
  else scale2 (sgn m num) (m.natAbs * num.natAbs) den.toNat r
end Mo
set_option maxRecDepth 100000 in
theorem scale_calls (m num den : Int) (r : Nat) (r1 : 1 ≤ r) (r2 : r ≤ 6) (w : World) :
    Calls Tryd.prog 16 #[.int .i64 m, .int .i64 num, .int .i64 den, .int .i64 r] w fun e w' => e = .returned (.tuple #[.int .i64 (Mo.scaleE m num den r).1, .int .i64 (Mo.scaleE m num den r).2]) ∧ Below w.heap.size w w' := by
  by_cases h0 : Mo.chk m = 0
  · have k1 : (Mo.chk m != 0) = false := by rw [h0]; rfl
    by_cases hb : den < 1 ∨ 1000000000 < den ∨ num < -1000000000 ∨ 1000000000 < num
    · have e : Mo.scaleE m num den r = (0, 4) := by unfold Mo.scaleE; rw [if_neg (by simpa using h0), if_pos hb]
      rw [e]
      clear e h0 r1 r2
      by_cases h1 : den < 1
      · have c1 : decide (den < 1) = true := decide_eq_true h1
        clear h1 hb
        go_enter Tryd.func16, Tryd.ntmps16
        go_wp2_with (first | (go_at_call 27; refine (check_calls _ _).mono ?_; rintro e W2 ⟨rfl, rfl⟩))
        go_ret2
        exact ⟨rfl, Below.refl _ _⟩
      · have c1 : decide (den < 1) = false := decide_eq_false h1
        by_cases h2 : 1000000000 < den
        · have c2 : decide ((1000000000 : Int) < den) = true := decide_eq_true h2
          clear h1 hb h2
          go_enter Tryd.func16, Tryd.ntmps16
          go_wp2_with (first | (go_at_call 27; refine (check_calls _ _).mono ?_; rintro e W2 ⟨rfl, rfl⟩))
          go_ret2
          exact ⟨rfl, Below.refl _ _⟩
        · have c2 : decide ((1000000000 : Int) < den) = false := decide_eq_false h2
          by_cases h3 : num < -1000000000
          · have c3 : decide (num < -1000000000) = true := decide_eq_true h3
            clear h1 hb h2 h3
            go_enter Tryd.func16, Tryd.ntmps16
            go_wp2_with (first | (go_at_call 27; refine (check_calls _ _).mono ?_; rintro e W2 ⟨rfl, rfl⟩))
            go_ret2
            exact ⟨rfl, Below.refl _ _⟩
          · have c3 : decide (num < -1000000000) = false := decide_eq_false h3
            have h4 : 1000000000 < num := by omega
            have c4 : decide ((1000000000 : Int) < num) = true := decide_eq_true h4
            clear h1 hb h2 h3 h4
            go_enter Tryd.func16, Tryd.ntmps16
            go_wp2_with (first | (go_at_call 27; refine (check_calls _ _).mono ?_; rintro e W2 ⟨rfl, rfl⟩))
            go_ret2
            exact ⟨rfl, Below.refl _ _⟩
    · have e : Mo.scaleE m num den r = Mo.scale2 (Mo.sgn m num) (m.natAbs * num.natAbs) den.toNat r := by unfold Mo.scaleE; rw [if_neg (by simpa using h0), if_neg hb]
      rw [e]
      obtain ⟨d, rfl⟩ := Int.eq_ofNat_of_zero_le (show 0 ≤ den by omega)
      rw [show ((d : Nat) : Int).toNat = d from Int.toNat_natCast d]
      exact scale_in m num d r h0 (by omega) (by omega) (by omega) (by omega) r1 r2 w (fun h => div64_calls _ _ _ h (by omega) (Nat.mod_lt _ (by omega)))
  · have k1 : (Mo.chk m != 0) = true := by simpa using h0
    have e : Mo.scaleE m num den r = (0, 22) := by unfold Mo.scaleE; rw [if_pos h0]
    rw [e]
    clear e h0 r1 r2
    go_enter Tryd.func16, Tryd.ntmps16
    go_wp2_with (first | (go_at_call 27; refine (check_calls _ _).mono ?_; rintro e W2 ⟨rfl, rfl⟩))
    go_ret2
    exact ⟨rfl, Below.refl _ _⟩
theorem nearer_calls (a b : Int) (w : World) : Calls Tryd.prog 22 #[.int .i64 a, .int .i64 b] w fun e w' => e = .returned (.int .i64 (if 0 ≤ a then a else b)) ∧ w = w' := by
  by_cases h : 0 ≤ a
  · have c : decide (0 ≤ a) = true := decide_eq_true h
    rw [if_pos h]
    clear h
    go_enter Tryd.func22, Tryd.ntmps22
    go_wp2
    go_ret
    exact ⟨rfl, rfl⟩
  · have c : decide (0 ≤ a) = false := decide_eq_false h
    rw [if_neg h]
    clear h
    go_enter Tryd.func22, Tryd.ntmps22
    go_wp2
    go_ret
    exact ⟨rfl, rfl⟩
theorem near_calls (x m n den : Int) (h1 : 1 ≤ den) (h2 : 2 * (x * den - m * n) ≤ den) (h3 : -den ≤ 2 * (x * den - m * n)) (w : World) :
    Calls Tryd.prog 23 #[.int .i64 x, .int .i64 m, .int .i64 n, .int .i64 den] w fun e w' => e = .returned (.bool true) ∧ w = w' := by
  by_cases b1 : 1073741824 < m
  · have c1 : decide ((1073741824 : Int) < m) = true := decide_eq_true b1
    clear b1 h1 h2 h3
    go_enter Tryd.func23, Tryd.ntmps23
    go_wp2
    go_ret
    exact ⟨rfl, rfl⟩
  have c1 : decide ((1073741824 : Int) < m) = false := decide_eq_false b1
  by_cases b2 : m < -1073741824
  · have c2 : decide (m < -1073741824) = true := decide_eq_true b2
    clear b1 b2 h1 h2 h3
    go_enter Tryd.func23, Tryd.ntmps23
    go_wp2
    go_ret
    exact ⟨rfl, rfl⟩
  have c2 : decide (m < -1073741824) = false := decide_eq_false b2
  by_cases b3 : 1048576 < n
  · have c3 : decide ((1048576 : Int) < n) = true := decide_eq_true b3
    clear b1 b2 b3 h1 h2 h3
    go_enter Tryd.func23, Tryd.ntmps23
    go_wp2
    go_ret
    exact ⟨rfl, rfl⟩
  have c3 : decide ((1048576 : Int) < n) = false := decide_eq_false b3
  by_cases b4 : n < -1048576
  · have c4 : decide (n < -1048576) = true := decide_eq_true b4
    clear b1 b2 b3 b4 h1 h2 h3
    go_enter Tryd.func23, Tryd.ntmps23
    go_wp2
    go_ret
    exact ⟨rfl, rfl⟩
  have c4 : decide (n < -1048576) = false := decide_eq_false b4
  by_cases b5 : 1048576 < den
  · have c5 : decide ((1048576 : Int) < den) = true := decide_eq_true b5
    clear b1 b2 b3 b4 b5 h1 h2 h3
    go_enter Tryd.func23, Tryd.ntmps23
    go_wp2
    go_ret
    exact ⟨rfl, rfl⟩
  have c5 : decide ((1048576 : Int) < den) = false := decide_eq_false b5
  have hp : -1125899906842624 ≤ m * n ∧ m * n ≤ 1125899906842624 := by
    have e := Int.natAbs_mul m n
    have e2 : m.natAbs * n.natAbs ≤ 1073741824 * 1048576 := Nat.mul_le_mul (by omega) (by omega)
    omega
  obtain ⟨P, hP⟩ : ∃ P, x * den = P := ⟨_, rfl⟩
  obtain ⟨M, hM⟩ : ∃ M, m * n = M := ⟨_, rfl⟩
  rw [hP, hM] at h2 h3
  rw [hM] at hp
  have w1 : IntKind.i64.wrap (x * den) = P := by rw [hP]; exact IntWalk.i64_in _ (by omega)
  have w2 : IntKind.i64.wrap (m * n) = M := by rw [hM]; exact IntWalk.i64_in _ (by omega)
  have w3 : IntKind.i64.wrap (P - M) = P - M := IntWalk.i64_in _ (by omega)
  obtain ⟨D, hD⟩ : ∃ D, 2 * (P - M) = D := ⟨_, rfl⟩
  have w4 : IntKind.i64.wrap (2 * (P - M)) = D := by rw [hD]; exact IntWalk.i64_in _ (by omega)
  have w5 : IntKind.i64.wrap (-den) = -den := IntWalk.i64_in _ (by omega)
  have t1 : decide (D ≤ den) = true := decide_eq_true (by omega)
  have t2 : decide (-den ≤ D) = true := decide_eq_true (by omega)
  clear b1 b2 b3 b4 b5 h1 h2 h3 hp hP hM hD
  go_enter Tryd.func23, Tryd.ntmps23
  go_wp2
  go_ret
  exact ⟨rfl, rfl⟩
end Go.Proofs.YtgabkgomjdlgnaaDoor
