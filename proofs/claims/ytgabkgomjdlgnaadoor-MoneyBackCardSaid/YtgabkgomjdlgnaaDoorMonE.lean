import Derived.Test.YtgabkgomjdlgnaaDoorMonD
import Derived.Lib.ItoaNum
namespace Go.Proofs.YtgabkgomjdlgnaaDoor
open Go.RowKit Go.Lib
set_option linter.unusedVariables false
set_option linter.unusedSimpArgs false

namespace Mo
theorem S_append (a b : List UInt8) : S a ++ S b = S (a ++ b) := by
  apply ByteArray.ext
  simp [S, ByteArray.data_append]
def dc (n : Nat) : UInt8 := UInt8.ofNat (48 + n)
theorem dc_nat (n : Nat) (h : n < 10) : (dc n).toNat = 48 + n := by
  unfold dc
  rw [UInt8.toNat_ofNat']
  exact Nat.mod_eq_of_lt (Nat.lt_of_lt_of_le (Nat.add_lt_add_left h 48) (by decide))
attribute [irreducible] dc
def frac (c i j : Nat) : List UInt8 := if c = 0 then [] else [46, dc i, dc j]
/-- how the amount's text reads: q whole, c cents -/
def text (neg : Bool) (q c : Nat) : List UInt8 := (if neg = true then [45] else []) ++ Lib.decDigits q ++ frac c (c / 10) (c % 10)
def print (m : Int) : List UInt8 × Int := if chk m = 0 then (text (decide (m < 0)) (m.natAbs / 100) (m.natAbs % 100), 0) else ([], 22)
/-- the numbers that Print comes by -/
structure Parts (a q c i j : Nat) : Prop where
  q1 : ((a : Int)).tdiv 100 = (q : Int)
  q2 : ((a : Int)).tmod 100 = (c : Int)
  e1 : (c : Int).tdiv 10 = (i : Int)
  e2 : (c : Int).tmod 10 = (j : Int)
  f1 : IntKind.i64.wrap (q : Int) = q
  f2 : IntKind.i64.wrap (c : Int) = c
  f3 : IntKind.i64.wrap (i : Int) = i
  f4 : IntKind.i64.wrap (j : Int) = j
  f5 : IntKind.u8.wrap (i : Int) = i
  f6 : IntKind.u8.wrap (j : Int) = j
  f7 : IntKind.u8.wrap (48 + (i : Int)) = 48 + (i : Int)
  f8 : IntKind.u8.wrap (48 + (j : Int)) = 48 + (j : Int)
  hi : i < 10
  hj : j < 10
theorem parts (a : Nat) (h : a ≤ 1000000000000000) : Parts a (a / 100) (a % 100) (a % 100 / 10) (a % 100 % 10) where
  q1 := by rw [Int.tdiv_eq_ediv_of_nonneg (by omega)]; omega
  q2 := by rw [Int.tmod_eq_emod_of_nonneg (by omega)]; omega
  e1 := by rw [Int.tdiv_eq_ediv_of_nonneg (by omega)]; omega
  e2 := by rw [Int.tmod_eq_emod_of_nonneg (by omega)]; omega
  f1 := IntWalk.i64_in _ (by omega)
  f2 := IntWalk.i64_in _ (by omega)
  f3 := IntWalk.i64_in _ (by omega)
  f4 := IntWalk.i64_in _ (by omega)
  f5 := by rw [IntKind.wrap_u8]; omega
  f6 := by rw [IntKind.wrap_u8]; omega
  f7 := by rw [IntKind.wrap_u8]; omega
  f8 := by rw [IntKind.wrap_u8]; omega
  hi := by omega
  hj := by omega
end Mo
theorem chk_bound (m : Int) (hk : Mo.chk m = 0) : -1000000000000000 ≤ m ∧ m ≤ 1000000000000000 := by
  unfold Mo.chk at hk
  split at hk
  · cases hk
  · omega
end Go.Proofs.YtgabkgomjdlgnaaDoor
