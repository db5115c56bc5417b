/- the plain law of a division of 128 bits -/
import Derived.Below
import Derived.Lib.ItoaNum
namespace Go.Proofs.YtgabkgomjdlgnaaDoor
namespace Mo
/-- Knuth's guess of a digit: what holds at the loop's head -/
structure Kn (v1 v0 u d q r : Nat) : Prop where
  hq : q * v1 + r = u
  hle : (u * 4294967296 + d) / (v1 * 4294967296 + v0) ≤ q
theorem kn_mul (q v1 v0 : Nat) : q * (v1 * 4294967296 + v0) = q * v1 * 4294967296 + q * v0 := by
  rw [Nat.mul_add, Nat.mul_assoc]
theorem kn_init (v1 v0 u d : Nat) (h1 : 0 < v1) (hd : d < 4294967296) : Kn v1 v0 u d (u / v1) (u % v1) where
  hq := by rw [Nat.mul_comm]; exact Nat.div_add_mod u v1
  hle := by
    have hlt : (u * 4294967296 + d) / (v1 * 4294967296 + v0) < u / v1 + 1 := by
      rw [Nat.div_lt_iff_lt_mul (by omega), kn_mul]
      have h2 : u < (u / v1 + 1) * v1 := by
        have := Nat.div_add_mod u v1
        have := Nat.mod_lt u h1
        rw [Nat.add_mul, Nat.mul_comm (u / v1)]
        omega
      omega
    omega
theorem kn_lt (v1 v0 u d : Nat) (hu : u < v1 * 4294967296 + v0) (hd : d < 4294967296) : (u * 4294967296 + d) / (v1 * 4294967296 + v0) < 4294967296 := by
  rw [Nat.div_lt_iff_lt_mul (by omega)]
  omega
/-- a round: the guess is too great -/
theorem kn_round {v1 v0 u d q r : Nat} (h : Kn v1 v0 u d q r) (hu : u < v1 * 4294967296 + v0) (hd : d < 4294967296) (hc : 4294967296 ≤ q ∨ 4294967296 * r + d < q * v0) :
    1 ≤ q ∧ Kn v1 v0 u d (q - 1) (r + v1) := by
  obtain ⟨hq, hle⟩ := h
  have hlt := kn_lt v1 v0 u d hu hd
  have hs : (u * 4294967296 + d) / (v1 * 4294967296 + v0) < q := by
    rcases hc with hc | hc
    · exact Nat.lt_of_lt_of_le hlt hc
    · rw [Nat.div_lt_iff_lt_mul (by omega), kn_mul]
      omega
  have h0 : 1 ≤ q := Nat.lt_of_le_of_lt (Nat.zero_le _) hs
  refine ⟨h0, ?_, Nat.le_sub_one_of_lt hs⟩
  obtain ⟨p, rfl⟩ : ∃ p, q = p + 1 := ⟨q - 1, by omega⟩
  rw [Nat.add_mul] at hq
  simp only [Nat.add_sub_cancel]
  omega
theorem kn_eq {v1 v0 u d q r : Nat} (h : Kn v1 v0 u d q r) (hv : 0 < v1 * 4294967296 + v0) (hc : q * v0 ≤ 4294967296 * r + d) : q = (u * 4294967296 + d) / (v1 * 4294967296 + v0) := by
  obtain ⟨hq, hle⟩ := h
  refine Nat.le_antisymm ?_ hle
  rw [Nat.le_div_iff_mul_le hv, kn_mul]
  omega
/-- the rest is too great for another test: the guess is right -/
theorem kn_break {v1 v0 u d q r : Nat} (h : Kn v1 v0 u d q r) (hu : u < v1 * 4294967296 + v0) (hv0 : v0 < 4294967296) (hr : 4294967296 ≤ r) : q = (u * 4294967296 + d) / (v1 * 4294967296 + v0) := by
  refine kn_eq h (by omega) ?_
  have hq := h.hq
  have hqb : q < 4294967296 := by
    rcases Nat.lt_or_ge q 4294967296 with h | h
    · exact h
    · have := Nat.mul_le_mul_right v1 h
      omega
  have h3 : q * v0 ≤ 4294967296 * 4294967296 := Nat.mul_le_mul (by omega) (by omega)
  omega
end Mo
namespace Mo
open Go Go.Lib
/-- a division of 128 bits by 64, both shifted until the divisor's highest bit is set -/
structure Norm (hi lo y s V v1 v0 H L N n1 n0 : Nat) : Prop where
  hV : y * 2 ^ s = V
  lt : V < 18446744073709551616
  ge : 9223372036854775808 ≤ V
  v1 : V / 4294967296 = v1
  v0 : V % 4294967296 = v0
  hH : hi * 2 ^ s = H
  hL : lo / 2 ^ (64 - s) = L
  Hlt : H + L < V
  or : H ||| L = H + L
  hN : lo * 2 ^ s % 18446744073709551616 = N
  n1 : N / 4294967296 = n1
  n0 : N % 4294967296 = n0
  key : (H + L) * 18446744073709551616 + N = (hi * 18446744073709551616 + lo) * 2 ^ s
theorem norm (hi lo y s : Nat) (hy : hi < y) (hy2 : y < 18446744073709551616) (hlo : lo < 18446744073709551616) (hs : s + bitLen y = 64) :
    Norm hi lo y s (y * 2 ^ s) (y * 2 ^ s / 4294967296) (y * 2 ^ s % 4294967296) (hi * 2 ^ s) (lo / 2 ^ (64 - s)) (lo * 2 ^ s % 18446744073709551616) (lo * 2 ^ s % 18446744073709551616 / 4294967296) (lo * 2 ^ s % 18446744073709551616 % 4294967296) := by
  have e64 : (2 : Nat) ^ 64 = 18446744073709551616 := by decide
  have e63 : (2 : Nat) ^ 63 = 9223372036854775808 := by decide
  obtain ⟨b1, b2, b3⟩ := bitLenAux_bounds 64 y (by omega) (by omega)
  have hb : bitLen y = bitLenAux 64 y := rfl
  rw [← hb] at b1 b2 b3
  have p1 : 2 ^ (bitLen y - 1) * 2 ^ s = 2 ^ 63 := by rw [← Nat.pow_add]; congr 1; omega
  have p2 : 2 ^ bitLen y * 2 ^ s = 2 ^ 64 := by rw [← Nat.pow_add]; congr 1; omega
  have h0 : 0 < 2 ^ s := Nat.two_pow_pos s
  have hge := Nat.mul_le_mul_right (2 ^ s) b2
  have hlt := Nat.mul_lt_mul_of_pos_right b3 h0
  rw [p1] at hge
  rw [p2] at hlt
  have p3 : 2 ^ (64 - s) * 2 ^ s = 2 ^ 64 := by rw [← Nat.pow_add]; congr 1; omega
  have hLe : lo / 2 ^ (64 - s) = lo * 2 ^ s / 18446744073709551616 := by
    rw [← e64, ← p3, Nat.mul_div_mul_right _ _ h0]
  have key : (hi * 2 ^ s + lo / 2 ^ (64 - s)) * 18446744073709551616 + lo * 2 ^ s % 18446744073709551616 = (hi * 18446744073709551616 + lo) * 2 ^ s := by
    rw [hLe, Nat.add_mul (hi * 18446744073709551616), Nat.mul_right_comm hi]
    have := Nat.div_add_mod (lo * 2 ^ s) 18446744073709551616
    omega
  refine ⟨rfl, by omega, by omega, rfl, rfl, rfl, rfl, ?_, ?_, rfl, rfl, rfl, key⟩
  · have h1 : (hi * 18446744073709551616 + lo) * 2 ^ s < y * 18446744073709551616 * 2 ^ s := Nat.mul_lt_mul_of_pos_right (by omega) h0
    rw [← key, Nat.mul_right_comm y] at h1
    omega
  · have hL2 : lo / 2 ^ (64 - s) < 2 ^ s := by
      rw [Nat.div_lt_iff_lt_mul (Nat.two_pow_pos _), Nat.mul_comm, p3]; omega
    have := Nat.two_pow_add_eq_or_of_lt hL2 hi
    rw [Nat.mul_comm hi, ← this]
namespace Norm
variable {hi lo y s V v1 v0 H L N n1 n0 : Nat} (h : Norm hi lo y s V v1 v0 H L N n1 n0)
include h
theorem vsum : V = v1 * 4294967296 + v0 := by have := h.v1; have := h.v0; omega
theorem nsum : N = n1 * 4294967296 + n0 := by have := h.n1; have := h.n0; omega
theorem bounds : v0 < 4294967296 ∧ 2147483648 ≤ v1 ∧ v1 < 4294967296 ∧ n1 < 4294967296 ∧ n0 < 4294967296 ∧ N < 18446744073709551616 := by
  have := h.v1; have := h.v0; have := h.n1; have := h.n0; have := h.ge; have := h.lt; have := h.hN; omega
/-- what both digits make -/
theorem fin (q1 u q0 r : Nat) (e1 : q1 * V + u = (H + L) * 4294967296 + n1) (e2 : q0 * V + r = u * 4294967296 + n0) (hr : r < V) :
    q1 * 4294967296 + q0 = (hi * 18446744073709551616 + lo) / y ∧ r / 2 ^ s = (hi * 18446744073709551616 + lo) % y := by
  have hns := h.nsum
  have hk := h.key
  have h0 : 0 < 2 ^ s := Nat.two_pow_pos s
  have hA : (hi * 18446744073709551616 + lo) * 2 ^ s = V * (q1 * 4294967296 + q0) + r := by
    rw [← hk, Nat.mul_add, Nat.mul_comm V q0, ← Nat.mul_assoc, Nat.mul_comm V q1]
    omega
  have d1 := Nat.mul_div_mul_right (hi * 18446744073709551616 + lo) y h0
  have d2 := Nat.mul_mod_mul_right (2 ^ s) (hi * 18446744073709551616 + lo) y
  rw [h.hV, hA] at d1 d2
  have hVp : 0 < V := by omega
  constructor
  · have e3 := Nat.mul_add_div hVp (q1 * 4294967296 + q0) r
    rw [Nat.div_eq_of_lt hr, Nat.add_zero] at e3
    exact e3.symm.trans d1
  · rw [Nat.mul_add_mod, Nat.mod_eq_of_lt hr] at d2
    rw [d2, Nat.mul_div_cancel _ h0]
end Norm
end Mo
end Go.Proofs.YtgabkgomjdlgnaaDoor
