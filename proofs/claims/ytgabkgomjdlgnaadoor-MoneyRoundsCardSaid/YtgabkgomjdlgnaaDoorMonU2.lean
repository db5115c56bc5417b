import Derived.Test.YtgabkgomjdlgnaaDoorMonU1
namespace Go.Proofs.YtgabkgomjdlgnaaDoor
open Go.RowKit Go.Lib
set_option linter.unusedVariables false
set_option linter.unusedSimpArgs false

namespace Mo
def sv (neg : Bool) (w : Nat) : Int := if neg = true then -(w : Int) else (w : Int)
def upV (q rest : Nat) : Nat := if rest = 0 then q else q + 1
def hfV (q rest d : Nat) : Nat := if d ≤ 2 * rest then q + 1 else q
def evV (q rest d : Nat) : Nat := if d = 2 * rest then q + q % 2 else hfV q rest d
/-- the roundings of a quotient q with a rest, none of which leaves 64 bits -/
def wv (r : Nat) (neg : Bool) (q rest d : Nat) : Nat :=
  match r with
  | 1 => q
  | 2 => upV q rest
  | 3 => if neg = true then upV q rest else q
  | 4 => if neg = true then q else upV q rest
  | 5 => hfV q rest d
  | _ => evV q rest d
theorem wv_way (r : Nat) (neg : Bool) (q rest d : Nat) (hq : q ≤ 1000000000000000) : wayN r neg q rest d = wv r neg q rest d := by
  have e1 : inc q = q + 1 := by unfold inc; omega
  have e2 : upN q rest = upV q rest := by unfold upN upV; rw [e1]
  have e3 : halfN q rest d = hfV q rest d := by unfold halfN hfV; rw [e1]
  have e4 : evenN q rest d = evV q rest d := by
    unfold evenN evV
    rw [e3]
    split
    · omega
    · rfl
  match r with
  | 0 => exact e4
  | 1 => rfl
  | 2 => exact e2
  | 3 =>
    show (if neg = true then upN q rest else q) = (if neg = true then upV q rest else q)
    rw [e2]
  | 4 =>
    show (if neg = true then q else upN q rest) = (if neg = true then q else upV q rest)
    rw [e2]
  | 5 => exact e3
  | n + 6 => exact e4
theorem up_two (q rest : Nat) : upV q rest = q ∨ (upV q rest = q + 1 ∧ rest ≠ 0) := by
  unfold upV
  by_cases h : rest = 0
  · left; rw [if_pos h]
  · right; rw [if_neg h]; exact ⟨rfl, h⟩
theorem hf_two (q rest d : Nat) (hd : 1 ≤ d) : hfV q rest d = q ∨ (hfV q rest d = q + 1 ∧ rest ≠ 0) := by
  unfold hfV
  by_cases h : d ≤ 2 * rest
  · right; rw [if_pos h]; exact ⟨rfl, by omega⟩
  · left; rw [if_neg h]
theorem ev_two (q rest d : Nat) (hd : 1 ≤ d) : evV q rest d = q ∨ (evV q rest d = q + 1 ∧ rest ≠ 0) := by
  unfold evV
  by_cases h0 : d = 2 * rest
  · rw [if_pos h0]
    have : q % 2 = 0 ∨ q % 2 = 1 := by omega
    rcases this with h | h
    · left; omega
    · right; exact ⟨by omega, by omega⟩
  · rw [if_neg h0]; exact hf_two q rest d hd
theorem wv_two (r : Nat) (neg : Bool) (q rest d : Nat) (hd : 1 ≤ d) : wv r neg q rest d = q ∨ (wv r neg q rest d = q + 1 ∧ rest ≠ 0) := by
  match r with
  | 0 => exact ev_two q rest d hd
  | 1 => exact .inl rfl
  | 2 => exact up_two q rest
  | 3 =>
    show (if neg = true then upV q rest else q) = q ∨ ((if neg = true then upV q rest else q) = q + 1 ∧ rest ≠ 0)
    cases neg with
    | true => exact up_two q rest
    | false => exact .inl rfl
  | 4 =>
    show (if neg = true then q else upV q rest) = q ∨ ((if neg = true then q else upV q rest) = q + 1 ∧ rest ≠ 0)
    cases neg with
    | true => exact .inl rfl
    | false => exact up_two q rest
  | 5 => exact hf_two q rest d hd
  | n + 6 => exact ev_two q rest d hd
theorem mul_sv (m n : Int) : m * n = sv (sgn m n) (m.natAbs * n.natAbs) := by
  unfold sv sgn
  obtain ⟨a, ha⟩ : ∃ a, m.natAbs = a := ⟨_, rfl⟩
  obtain ⟨b, hb⟩ : ∃ b, n.natAbs = b := ⟨_, rfl⟩
  rw [ha, hb]
  by_cases h1 : m < 0
  · have e1 : m = -(a : Int) := by omega
    by_cases h2 : n < 0
    · have e2 : n = -(b : Int) := by omega
      rw [decide_eq_true h1, decide_eq_true h2, if_neg (by decide), e1, e2, Int.neg_mul_neg, Int.natCast_mul]
    · have e2 : n = (b : Int) := by omega
      rw [decide_eq_true h1, decide_eq_false h2, if_pos (by decide), e1, e2, Int.neg_mul, Int.natCast_mul]
  · have e1 : m = (a : Int) := by omega
    by_cases h2 : n < 0
    · have e2 : n = -(b : Int) := by omega
      rw [decide_eq_false h1, decide_eq_true h2, if_pos (by decide), e1, e2, Int.mul_neg, Int.natCast_mul]
    · have e2 : n = (b : Int) := by omega
      rw [decide_eq_false h1, decide_eq_false h2, if_neg (by decide), e1, e2, Int.natCast_mul]
/-- where floor and ceiling are told, all six are -/
theorem scale_all (m n den : Int) (he : (scaleE m n den 3).2 = 0) (hf : (scaleE m n den 4).2 = 0) :
    chk m = 0 ∧ ∃ (d q rest : Nat), den = (d : Int) ∧ 1 ≤ d ∧ m.natAbs * n.natAbs = q * d + rest ∧ rest < d ∧ q ≤ 1000000000000000 ∧ (rest ≠ 0 → q + 1 ≤ 1000000000000000) ∧
      ∀ r, 1 ≤ r → r ≤ 6 → scaleE m n den r = (sv (sgn m n) (wv r (sgn m n) q rest d), 0) ∧ scaleE (-m) n den r = (sv (sgn (-m) n) (wv r (sgn (-m) n) q rest d), 0) := by
  by_cases h0 : chk m = 0
  · refine ⟨h0, ?_⟩
    have hb := chk_bound m h0
    have h0' : chk (-m) = 0 := by unfold chk; rw [if_neg (by omega)]
    by_cases h1 : den < 1 ∨ 1000000000 < den ∨ n < -1000000000 ∨ 1000000000 < n
    · unfold scaleE at he
      rw [if_neg (by simpa using h0), if_pos h1] at he
      cases he
    · obtain ⟨d, rfl⟩ := Int.eq_ofNat_of_zero_le (show 0 ≤ den by omega)
      have E : ∀ r, scaleE m n (d : Int) r = scale2 (sgn m n) (m.natAbs * n.natAbs) d r := fun r => by
        unfold scaleE
        rw [if_neg (by simpa using h0), if_neg h1, Int.toNat_natCast]
      have E' : ∀ r, scaleE (-m) n (d : Int) r = scale2 (sgn (-m) n) (m.natAbs * n.natAbs) d r := fun r => by
        unfold scaleE
        rw [if_neg (by simpa using h0'), if_neg h1, Int.toNat_natCast, Int.natAbs_neg]
      rw [E] at he hf
      have hd : 1 ≤ d := by omega
      generalize m.natAbs * n.natAbs = x at *
      have hx : ¬ d ≤ x / 18446744073709551616 := fun h => by
        unfold scale2 at he
        rw [if_pos h] at he
        cases he
      have hm : x = x / d * d + x % d := by rw [Nat.mul_comm]; exact (Nat.div_add_mod x d).symm
      have hr : x % d < d := Nat.mod_lt _ (by omega)
      have W : ∀ r neg, (scale2 neg x d r).2 = 0 → wayN r neg (x / d) (x % d) d ≤ 1000000000000000 := fun r neg h => by
        unfold scale2 at h
        rw [if_neg hx] at h
        by_cases h2 : 1000000000000000 < wayN r neg (x / d) (x % d) d
        · rw [if_pos h2] at h; cases h
        · omega
      have w3 := W 3 _ he
      have w4 := W 4 _ hf
      have hqq : x / d ≤ 1000000000000000 ∧ upN (x / d) (x % d) ≤ 1000000000000000 := by
        have t3 : wayN 3 (sgn m n) (x / d) (x % d) d = if sgn m n = true then upN (x / d) (x % d) else x / d := rfl
        have t4 : wayN 4 (sgn m n) (x / d) (x % d) d = if sgn m n = true then x / d else upN (x / d) (x % d) := rfl
        rw [t3] at w3
        rw [t4] at w4
        cases hs : sgn m n with
        | true => rw [hs, if_pos rfl] at w3 w4; exact ⟨w4, w3⟩
        | false =>
          have hn : ¬ (false = true) := by decide
          rw [hs, if_neg hn] at w3 w4; exact ⟨w3, w4⟩
      have hup : x % d ≠ 0 → x / d + 1 ≤ 1000000000000000 := fun h => by
        have h1 := hqq.2
        unfold upN inc at h1
        rw [if_neg h] at h1
        have h2 := hqq.1
        omega
      have S : ∀ r neg, scale2 neg x d r = (sv neg (wv r neg (x / d) (x % d) d), 0) := fun r neg => by
        unfold scale2
        rw [if_neg hx, wv_way r neg _ _ d hqq.1]
        have h2 := wv_two r neg (x / d) (x % d) d hd
        have h3 := hqq.1
        rw [if_neg (by omega)]
        rfl
      exact ⟨d, x / d, x % d, rfl, hd, hm, hr, hqq.1, hup, fun r _ _ => ⟨by rw [E, S], by rw [E', S]⟩⟩
  · unfold scaleE at he
    rw [if_pos h0] at he
    cases he
end Mo
end Go.Proofs.YtgabkgomjdlgnaaDoor
