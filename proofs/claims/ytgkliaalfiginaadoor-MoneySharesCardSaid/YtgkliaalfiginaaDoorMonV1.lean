import Derived.Test.YtgkliaalfiginaaDoorMonSh
import Derived.Test.YtgkliaalfiginaaDoorMonPx
import Derived.Laws.BitsLemmas
namespace Go.Proofs.YtgkliaalfiginaaDoor
open Go.RowKit Go.Lib
open Go.Proofs.YtgkliaalfiginaaDoor.PMoneyShares
open Go.Proofs.YtgkliaalfiginaaDoorW.PrintWords
set_option linter.unusedVariables false
set_option linter.unusedSimpArgs false

namespace Mo
theorem vwrap (n : Int) (h : -9223372036854775808 ≤ n ∧ n ≤ 9223372036854775807) : wrap64 n = n := by unfold wrap64; omega
theorem divmod_of {N A q r : Nat} (h : q * A + r = N) (hr : r < A) : N / A = q ∧ N % A = r := by
  have hA : 0 < A := by omega
  rw [← h]
  constructor
  · rw [Nat.add_comm, Nat.add_mul_div_right _ _ hA, Nat.div_eq_of_lt hr, Nat.zero_add]
  · rw [Nat.add_comm, Nat.add_mul_mod_self_right, Nat.mod_eq_of_lt hr]
theorem and_bit (T j : Nat) (hT : T < 9223372036854775808) (hj : j ≤ 50) : Go.bits .and .i64 (T : Int) ((2 ^ j : Nat) : Int) = 0 ↔ T / 2 ^ j % 2 = 0 := by
  have hp : 2 ^ j ≤ 2 ^ 50 := Nat.pow_le_pow_right (by omega) hj
  have h50 : (2 : Nat) ^ 50 = 1125899906842624 := by decide
  have hb := (bits_nat .i64 63 (by decide) (fun n h0 h1 => by rw [IntKind.wrap_i64]; omega) T (2 ^ j) (by omega) (by omega)).1
  rw [hb]
  have key : (T &&& 2 ^ j) = 0 ↔ T.testBit j = false := by
    constructor
    · intro h
      have h2 : (T &&& 2 ^ j).testBit j = T.testBit j := by rw [Nat.testBit_and, Nat.testBit_two_pow_self, Bool.and_true]
      rw [← h2, h, Nat.zero_testBit]
    · intro h
      apply Nat.eq_of_testBit_eq
      intro i
      rw [Nat.testBit_and, Nat.zero_testBit, Nat.testBit_two_pow]
      by_cases e : j = i
      · subst e; rw [h]; rfl
      · rw [decide_eq_false e, Bool.and_false]
  rw [Nat.testBit_eq_decide_div_mod_eq] at key
  have e0 : ((T &&& 2 ^ j : Nat) : Int) = 0 ↔ (T &&& 2 ^ j) = 0 := by omega
  rw [e0, key, decide_eq_false_iff_not]
  omega
theorem part_l (T W A : Nat) (hT : T ≤ 1000000000000000) (hW : W ≤ A) (hA : 0 < A) (hA2 : A ≤ 4096000000000000000) : ∀ j : Nat, j ≤ 51 → ∀ q r : Nat, q * A + r = T / 2 ^ j * W → r < A →
    lexpriorref02_part.l0 (2 * j + 1) (T : Int) (W : Int) (A : Int) (q : Int) (r : Int) ((2 ^ j / 2 : Nat) : Int) = some (((T * W / A : Nat) : Int), ((T * W % A : Nat) : Int)) := by
  intro j
  induction j with
  | zero =>
    intro _ q r h hr
    rw [Nat.pow_zero, Nat.div_one] at h
    obtain ⟨h1, h2⟩ := divmod_of h hr
    rw [h1, h2]
    rw [lexpriorref02_part.l0, if_neg (by decide)]
  | succ j ih =>
    intro hj q r h hr
    have hqT : q ≤ T := by
      have h1 : q * A ≤ T * A := by
        refine Nat.le_trans (Nat.le_add_right _ r) ?_
        rw [h]
        exact Nat.mul_le_mul (Nat.div_le_self _ _) hW
      exact Nat.le_of_mul_le_mul_right h1 hA
    have hpj : (2 ^ (j + 1) / 2 : Nat) = 2 ^ j := by rw [Nat.pow_succ, Nat.mul_div_cancel _ (by decide)]
    have hpos : 0 < 2 ^ j := Nat.pow_pos (by decide)
    have hdd : T / 2 ^ (j + 1) = T / 2 ^ j / 2 := by rw [Nat.pow_succ, Nat.div_div_eq_div_mul]
    have hb := and_bit T j (by omega) (by omega)
    have hnext : Int.tdiv ((2 ^ j : Nat) : Int) 2 = ((2 ^ j / 2 : Nat) : Int) := by rw [Int.tdiv_eq_ediv_of_nonneg (by omega)]; omega
    have hp50 : 2 ^ j ≤ 2 ^ 50 := Nat.pow_le_pow_right (by omega) (by omega)
    have h50 : (2 : Nat) ^ 50 = 1125899906842624 := by decide
    rw [hdd] at h
    have ih' := ih (by omega)
    rw [hpj]
    generalize T / 2 ^ j = t at *
    generalize 2 ^ j = p at *
    have hbit : t = 2 * (t / 2) + t % 2 := by omega
    have hbw : t * W = 2 * (t / 2 * W) + t % 2 * W := by
      conv => lhs; rw [hbit]
      rw [Nat.add_mul, Nat.mul_assoc]
    -- the doubling
    obtain ⟨q2, r2, e2, hr2, hq2, step⟩ : ∃ q2 r2 : Nat, q2 * A + r2 = 2 * (t / 2 * W) ∧ r2 < A ∧ q2 ≤ 2 * q + 1 ∧
        lexpriorref02_part.l0 (2 * j + 1 + 1 + 1) (T : Int) (W : Int) (A : Int) (q : Int) (r : Int) (p : Int) = lexpriorref02_part.j1 (2 * j + 1 + 1) (T : Int) (W : Int) (A : Int) (q2 : Int) (r2 : Int) (p : Int) := by
      by_cases c : A ≤ 2 * r
      · refine ⟨2 * q + 1, 2 * r - A, ?_, by omega, by omega, ?_⟩
        · rw [Nat.add_mul, Nat.mul_assoc]; omega
        · rw [lexpriorref02_part.l0, if_pos (by omega), vwrap (2 * (r : Int)) (by omega), if_pos (by omega), vwrap (2 * (q : Int)) (by omega), vwrap (2 * (q : Int) + 1) (by omega), vwrap (2 * (r : Int) - (A : Int)) (by omega)]
          congr 1 <;> omega
      · refine ⟨2 * q, 2 * r, ?_, by omega, by omega, ?_⟩
        · rw [Nat.mul_assoc]; omega
        · rw [lexpriorref02_part.l0, if_pos (by omega), vwrap (2 * (r : Int)) (by omega), if_neg (by omega), vwrap (2 * (q : Int)) (by omega)]
          congr 1 <;> omega
    rw [show 2 * (j + 1) + 1 = 2 * j + 1 + 1 + 1 by omega, step]
    rw [lexpriorref02_part.j1]
    have hnw : wrap64 (Int.tdiv (p : Int) 2) = ((p / 2 : Nat) : Int) := by rw [hnext]; exact vwrap _ (by omega)
    by_cases cb : t % 2 = 0
    · rw [if_pos (hb.2 cb), hnw]
      exact ih' q2 r2 (by rw [hbw, cb, Nat.zero_mul]; omega) hr2
    · rw [if_neg (fun h => cb (hb.1 h))]
      have cb1 : t % 2 = 1 := by omega
      rw [cb1, Nat.one_mul] at hbw
      rw [vwrap ((r2 : Int) + (W : Int)) (by omega)]
      by_cases c2 : A ≤ r2 + W
      · rw [if_pos (by omega), vwrap ((q2 : Int) + 1) (by omega), vwrap ((r2 : Int) + (W : Int) - (A : Int)) (by omega), hnw]
        have := ih' (q2 + 1) (r2 + W - A) (by rw [hbw, Nat.add_mul]; omega) (by omega)
        rw [← this]
        congr 1 <;> omega
      · rw [if_neg (by omega), hnw]
        have := ih' q2 (r2 + W) (by rw [hbw]; omega) (by omega)
        rw [← this]
        congr 1
theorem part_f (T W A : Nat) (hT : T ≤ 1000000000000000) (hW : W ≤ A) (hA : 0 < A) (hA2 : A ≤ 4096000000000000000) : lexpriorref02_part.f 103 (T : Int) (W : Int) (A : Int) = some (((T * W / A : Nat) : Int), ((T * W % A : Nat) : Int)) := by
  have h51 : (2 : Nat) ^ 51 = 2251799813685248 := by decide
  have h0 : T / 2 ^ 51 = 0 := Nat.div_eq_of_lt (by omega)
  exact part_l T W A hT hW hA hA2 51 (by omega) 0 0 (by rw [h0]; simp) hA
end Mo
end Go.Proofs.YtgkliaalfiginaaDoor
