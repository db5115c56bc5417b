import Derived.Test.YtgabkgomjdlgnaaDoorMonU2
namespace Go.Proofs.YtgabkgomjdlgnaaDoor
open Go.RowKit Go.Lib
set_option linter.unusedVariables false
set_option linter.unusedSimpArgs false

namespace Mo
theorem scaleE_no (m n den : Int) (r : Nat) (h : (scaleE m n den r).2 ≠ 0) : (scaleE m n den r).1 = 0 := by
  unfold scaleE scale2 at h ⊢
  split
  · rfl
  · rename_i h1
    rw [if_neg h1] at h
    split
    · rfl
    · rename_i h2
      rw [if_neg h2] at h
      split
      · rfl
      · rename_i h3
        rw [if_neg h3] at h
        split
        · rfl
        · rename_i h4
          rw [if_neg h4] at h
          exact absurd rfl h
theorem near_w (neg : Bool) (q rest d w : Nat) (hr : rest < d) (hw : (w = q ∧ 2 * rest ≤ d) ∨ (w = q + 1 ∧ d ≤ 2 * rest)) :
    2 * (sv neg w * (d : Int) - sv neg (q * d + rest)) ≤ (d : Int) ∧ -(d : Int) ≤ 2 * (sv neg w * (d : Int) - sv neg (q * d + rest)) := by
  have e1 : ((q * d + rest : Nat) : Int) = (q : Int) * d + rest := by rw [Int.natCast_add, Int.natCast_mul]
  have e2 : ((q + 1 : Nat) : Int) * d = (q : Int) * d + d := by rw [Int.natCast_add, Int.add_mul]; simp
  unfold sv
  rw [e1]
  cases neg with
  | true =>
    rw [if_pos rfl, if_pos rfl, Int.neg_mul]
    rcases hw with ⟨rfl, h⟩ | ⟨rfl, h⟩
    · generalize (w : Int) * d = Q at *
      omega
    · rw [e2]
      generalize (q : Int) * d = Q at *
      omega
  | false =>
    have hf : ¬ (false = true) := by decide
    rw [if_neg hf, if_neg hf]
    rcases hw with ⟨rfl, h⟩ | ⟨rfl, h⟩
    · generalize (w : Int) * d = Q at *
      omega
    · rw [e2]
      generalize (q : Int) * d = Q at *
      omega
theorem hf_near (q rest d : Nat) : (hfV q rest d = q ∧ 2 * rest ≤ d) ∨ (hfV q rest d = q + 1 ∧ d ≤ 2 * rest) := by
  unfold hfV
  by_cases h : d ≤ 2 * rest
  · right; rw [if_pos h]; exact ⟨rfl, h⟩
  · left; rw [if_neg h]; exact ⟨rfl, by omega⟩
theorem ev_near (q rest d : Nat) : (evV q rest d = q ∧ 2 * rest ≤ d) ∨ (evV q rest d = q + 1 ∧ d ≤ 2 * rest) := by
  unfold evV
  by_cases h : d = 2 * rest
  · rw [if_pos h]
    have : q % 2 = 0 ∨ q % 2 = 1 := by omega
    rcases this with h1 | h1
    · left; omega
    · right; omega
  · rw [if_neg h]; exact hf_near q rest d
/-- what the six roundings are to each other -/
structure Six (m n den a b : Int) (x y : Nat → Int) : Prop where
  den1 : 1 ≤ den
  ok : chk m = 0
  lo : -1000000000000000 ≤ a
  hi : b ≤ 1000000000000000
  ab : b = a ∨ b = a + 1
  one : den = 1 → a = b
  two : ∀ r, 1 ≤ r → r ≤ 6 → x r = a ∨ x r = b
  y1 : y 1 = -(x 1)
  y2 : y 2 = -(x 2)
  y3 : y 3 = -b
  y4 : y 4 = -a
  y5 : y 5 = -(x 5)
  y6 : y 6 = -(x 6)
  x1 : x 1 = (if 0 ≤ a then a else b)
  x2 : a ≠ b → x 2 ≠ (if 0 ≤ a then a else b)
  n5 : 2 * (x 5 * den - m * n) ≤ den ∧ -den ≤ 2 * (x 5 * den - m * n)
  n6 : 2 * (x 6 * den - m * n) ≤ den ∧ -den ≤ 2 * (x 6 * den - m * n)
  at3 : scaleE m n den 3 = (a, 0)
  at4 : scaleE m n den 4 = (b, 0)
  all : ∀ r, 1 ≤ r → r ≤ 6 → scaleE m n den r = (x r, 0) ∧ scaleE (-m) n den r = (y r, 0)
theorem six_false (q rest d : Nat) (hd : 1 ≤ d) (hrd : rest < d) (m n : Int) (hk : chk m = 0) (hmn : m * n = sv false (q * d + rest)) (hq : q ≤ 1000000000000000) (hq1 : rest ≠ 0 → q + 1 ≤ 1000000000000000)
    (hall : ∀ r, 1 ≤ r → r ≤ 6 → scaleE m n (d : Int) r = (sv false (wv r false q rest d), 0) ∧ scaleE (-m) n (d : Int) r = (sv true (wv r true q rest d), 0)) :
    Six m n d (sv false (wv 3 false q rest d)) (sv false (wv 4 false q rest d)) (fun r => sv false (wv r false q rest d)) (fun r => sv true (wv r true q rest d)) := by
  have hu := up_two q rest
  have h5 := hf_two q rest d hd
  have h6 := ev_two q rest d hd
  have n5 := near_w false q rest d _ hrd (hf_near q rest d)
  have n6 := near_w false q rest d _ hrd (ev_near q rest d)
  have hup : upV q rest = if rest = 0 then q else q + 1 := rfl
  rw [← hmn] at n5 n6
  have h1d : (d : Int) = 1 → rest = 0 := by omega
  have htwo : ∀ r, 1 ≤ r → r ≤ 6 → sv false (wv r false q rest d) = sv false (wv 3 false q rest d) ∨ sv false (wv r false q rest d) = sv false (wv 4 false q rest d) := fun r _ _ => by
    have h := wv_two r false q rest d hd
    have t3 : wv 3 false q rest d = q := rfl
    have t4 : wv 4 false q rest d = upV q rest := rfl
    rw [t3, t4]
    rcases h with h | ⟨h, h0⟩
    · left; rw [h]
    · right; rw [h, hup, if_neg h0]
  refine ⟨by omega, hk, ?_, ?_, ?_, ?_, htwo, ?_, ?_, ?_, ?_, ?_, ?_, ?_, ?_, n5, n6, (hall 3 (by omega) (by omega)).1, (hall 4 (by omega) (by omega)).1, hall⟩
  all_goals try (simp only [sv, wv, if_true, if_false, Bool.false_eq_true])
  · omega
  · rcases hu with h | ⟨h, h0⟩
    · omega
    · have := hq1 h0; omega
  · omega
  · intro h; rw [hup, if_pos (h1d h)]
  · rw [if_pos (by omega)]
  · rw [if_pos (by omega)]
    intro h1 h2
    exact h1 h2.symm
theorem six_true (q rest d : Nat) (hd : 1 ≤ d) (hrd : rest < d) (m n : Int) (hk : chk m = 0) (hpos : 1 ≤ q ∨ rest ≠ 0) (hmn : m * n = sv true (q * d + rest)) (hq : q ≤ 1000000000000000) (hq1 : rest ≠ 0 → q + 1 ≤ 1000000000000000)
    (hall : ∀ r, 1 ≤ r → r ≤ 6 → scaleE m n (d : Int) r = (sv true (wv r true q rest d), 0) ∧ scaleE (-m) n (d : Int) r = (sv false (wv r false q rest d), 0)) :
    Six m n d (sv true (wv 3 true q rest d)) (sv true (wv 4 true q rest d)) (fun r => sv true (wv r true q rest d)) (fun r => sv false (wv r false q rest d)) := by
  have hu := up_two q rest
  have h5 := hf_two q rest d hd
  have h6 := ev_two q rest d hd
  have n5 := near_w true q rest d _ hrd (hf_near q rest d)
  have n6 := near_w true q rest d _ hrd (ev_near q rest d)
  have hup : upV q rest = if rest = 0 then q else q + 1 := rfl
  rw [← hmn] at n5 n6
  have h1d : (d : Int) = 1 → rest = 0 := by omega
  have hupos : 1 ≤ upV q rest := by
    by_cases h0 : rest = 0
    · rw [hup, if_pos h0]; omega
    · rw [hup, if_neg h0]; omega
  have htwo : ∀ r, 1 ≤ r → r ≤ 6 → sv true (wv r true q rest d) = sv true (wv 3 true q rest d) ∨ sv true (wv r true q rest d) = sv true (wv 4 true q rest d) := fun r _ _ => by
    have h := wv_two r true q rest d hd
    have t3 : wv 3 true q rest d = upV q rest := rfl
    have t4 : wv 4 true q rest d = q := rfl
    rw [t3, t4]
    rcases h with h | ⟨h, h0⟩
    · right; rw [h]
    · left; rw [h, hup, if_neg h0]
  refine ⟨by omega, hk, ?_, ?_, ?_, ?_, htwo, ?_, ?_, ?_, ?_, ?_, ?_, ?_, ?_, n5, n6, (hall 3 (by omega) (by omega)).1, (hall 4 (by omega) (by omega)).1, hall⟩
  all_goals try (simp only [sv, wv, if_true, if_false, Bool.false_eq_true])
  · rcases hu with h | ⟨h, h0⟩
    · omega
    · have := hq1 h0; omega
  · omega
  · omega
  · intro h; rw [hup, if_pos (h1d h)]
  all_goals try omega
theorem six_zero (n : Int) (d : Nat) (hd : 1 ≤ d) (m : Int) (hm : m = 0) (hall : ∀ r, 1 ≤ r → r ≤ 6 → scaleE m n (d : Int) r = (0, 0) ∧ scaleE (-m) n (d : Int) r = (0, 0)) :
    Six m n d 0 0 (fun _ => 0) (fun _ => 0) := by
  subst hm
  have hz : (2 : Int) * (0 * (d : Int) - 0 * n) = 0 := by simp
  have hk : chk 0 = 0 := by decide
  exact ⟨by omega, hk, by omega, by omega, by omega, fun _ => rfl, fun _ _ _ => .inl rfl, by simp, by simp, by simp, by simp, by simp, by simp, by simp, fun h => absurd rfl h, by rw [hz]; omega, by rw [hz]; omega, (hall 3 (by omega) (by omega)).1, (hall 4 (by omega) (by omega)).1, hall⟩
theorem six (m n den : Int) (he : (scaleE m n den 3).2 = 0) (hf : (scaleE m n den 4).2 = 0) : ∃ a b x y, Six m n den a b x y := by
  obtain ⟨hk, d, q, rest, rfl, hd, hX, hr, hq, hq1, hall⟩ := scale_all m n den he hf
  have hmn := mul_sv m n
  rw [hX] at hmn
  by_cases hz : q = 0 ∧ rest = 0
  · obtain ⟨rfl, rfl⟩ := hz
    have Z : ∀ r neg, sv neg (wv r neg 0 0 d) = 0 := fun r neg => by
      have := wv_two r neg 0 0 d hd
      have h0 : wv r neg 0 0 d = 0 := by omega
      rw [h0]
      cases neg <;> rfl
    have hall' : ∀ r, 1 ≤ r → r ≤ 6 → scaleE m n (d : Int) r = (0, 0) ∧ scaleE (-m) n (d : Int) r = (0, 0) := fun r r1 r2 => by
      have := hall r r1 r2
      rw [Z, Z] at this
      exact this
    have hmn0 : m * n = 0 := by
      rw [hmn]
      unfold sv
      simp
    have hz2 : (2 : Int) * (0 * (d : Int) - m * n) = 0 := by rw [hmn0]; simp
    exact ⟨0, 0, fun _ => 0, fun _ => 0, by omega, hk, by omega, by omega, by omega, fun _ => rfl, fun _ _ _ => .inl rfl, by simp, by simp, by simp, by simp, by simp, by simp, by simp, fun h => absurd rfl h, by rw [hz2]; omega, by rw [hz2]; omega, (hall' 3 (by omega) (by omega)).1, (hall' 4 (by omega) (by omega)).1, hall'⟩
  · have hm : m ≠ 0 := fun h => by
      rw [h] at hX
      simp only [Int.natAbs_zero, Nat.zero_mul] at hX
      have h1 : q * d = 0 := by omega
      rcases Nat.mul_eq_zero.1 h1 with h2 | h2 <;> omega
    have hng : sgn (-m) n = !sgn m n := by
      unfold sgn
      by_cases h : m < 0
      · rw [decide_eq_true h, decide_eq_false (show ¬ -m < 0 by omega)]
        cases decide (n < 0) <;> rfl
      · rw [decide_eq_false h, decide_eq_true (show -m < 0 by omega)]
        cases decide (n < 0) <;> rfl
    rw [hng] at hall
    cases hs : sgn m n with
    | false =>
      rw [hs] at hall hmn
      exact ⟨_, _, _, _, six_false q rest d hd hr m n hk hmn hq hq1 hall⟩
    | true =>
      rw [hs] at hall hmn
      exact ⟨_, _, _, _, six_true q rest d hd hr m n hk (by omega) hmn hq hq1 hall⟩
end Mo
end Go.Proofs.YtgabkgomjdlgnaaDoor
