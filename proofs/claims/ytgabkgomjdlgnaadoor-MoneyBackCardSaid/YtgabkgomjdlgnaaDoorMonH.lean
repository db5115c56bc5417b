import Derived.Test.YtgabkgomjdlgnaaDoorMonG
namespace Go.Proofs.YtgabkgomjdlgnaaDoor
open Go.RowKit Go.Lib
set_option linter.unusedVariables false
set_option linter.unusedSimpArgs false

namespace Mo
def inc (n : Nat) : Nat := (n + 1) % 18446744073709551616
def upN (n rest : Nat) : Nat := if rest = 0 then n else inc n
def halfN (n rest den : Nat) : Nat := if den ≤ 2 * rest then inc n else n
def evenN (n rest den : Nat) : Nat := if den = 2 * rest then (n + n % 2) % 18446744073709551616 else halfN n rest den
/-- a quotient's value -/
def Q (n rest den : Nat) (neg : Bool) : Value := .agg #[.int .u64 n, .int .u64 rest, .int .u64 den, .bool neg]
def Qc (n rest den : Nat) (neg : Bool) : Array Value := #[.int .u64 n, .int .u64 rest, .int .u64 den, .bool neg]
end Mo
/-- the boxed quotient's cells -/
structure QBox (w w1 : World) (n rest den : Nat) (neg : Bool) : Prop where
  x0 : w1.cell? ⟨w.heap.size, 0, none⟩ = some (.int .u64 n)
  x1 : w1.cell? ⟨w.heap.size, 1, none⟩ = some (.int .u64 rest)
  x2 : w1.cell? ⟨w.heap.size, 2, none⟩ = some (.int .u64 den)
  x3 : w1.cell? ⟨w.heap.size, 3, none⟩ = some (.bool neg)
  b : Below w.heap.size w w1
theorem qbox (w : World) (n rest den : Nat) (neg : Bool) : QBox w (w.alloc (.cells #[.int .u64 n, .int .u64 rest, .int .u64 den, .bool neg] 81)) n rest den neg :=
  ⟨blk_cell (heap_alloc_new w _) 0 rfl, blk_cell (heap_alloc_new w _) 1 rfl, blk_cell (heap_alloc_new w _) 2 rfl, blk_cell (heap_alloc_new w _) 3 rfl, (Below.refl _ w).alloc (Nat.le_refl _) _⟩

section
variable (n rest den : Nat) (neg : Bool) (w : World)
theorem down_calls : Calls Tryd.prog 57 #[.agg #[.int .u64 n, .int .u64 rest, .int .u64 den, .bool neg]] w fun e w' => e = .returned (.int .u64 n) ∧ Below w.heap.size w w' := by
  obtain ⟨x0, x1, x2, x3, b⟩ := qbox w n rest den neg
  have HB := Lib.hid b
  clear b
  go_enter Tryd.func57, Tryd.ntmps57
  go_wp2
  go_ret
  exact ⟨rfl, HB.out⟩
theorem up_calls : Calls Tryd.prog 58 #[.agg #[.int .u64 n, .int .u64 rest, .int .u64 den, .bool neg]] w fun e w' => e = .returned (.int .u64 (Mo.upN n rest)) ∧ Below w.heap.size w w' := by
  obtain ⟨x0, x1, x2, x3, b⟩ := qbox w n rest den neg
  have HB := Lib.hid b
  clear b
  unfold Mo.upN
  by_cases h : rest = 0
  · have d1 : ((rest : Int) != 0) = false := by rw [h]; rfl
    have d2 : (rest != 0) = false := by rw [h]; rfl
    rw [if_pos h]
    clear h
    go_enter Tryd.func58, Tryd.ntmps58
    go_wp2
    go_ret
    exact ⟨rfl, HB.out⟩
  · have d1 : ((rest : Int) != 0) = true := by simpa using fun e => h (by omega)
    have d2 : (rest != 0) = true := by simpa using h
    rw [if_neg h]
    have e1 : IntKind.u64.wrap ((n : Int) + 1) = (Mo.inc n : Int) := by rw [IntKind.wrap_u64]; unfold Mo.inc; omega
    clear h
    go_enter Tryd.func58, Tryd.ntmps58
    go_wp2
    go_ret
    exact ⟨rfl, HB.out⟩
theorem floor_calls : Calls Tryd.prog 59 #[.agg #[.int .u64 n, .int .u64 rest, .int .u64 den, .bool neg]] w fun e w' => e = .returned (.int .u64 ((if neg = true then Mo.upN n rest else n : Nat) : Int)) ∧ Below w.heap.size w w' := by
  obtain ⟨x0, x1, x2, x3, b⟩ := qbox w n rest den neg
  have HB := Lib.hid b
  have hU := Lib.hid (fun w => up_calls n rest den neg w)
  clear b
  cases neg
  all_goals
    simp only [Bool.false_eq_true, if_false, if_true]
    go_enter Tryd.func59, Tryd.ntmps59
    go_wp2_with (first | (go_at_call 58; refine (hU.out _).mono ?_; rintro e w2 ⟨rfl, hb2⟩))
    go_ret
    first | exact ⟨rfl, HB.out⟩ | exact ⟨rfl, HB.out.trans (hb2.mono HB.out.size)⟩
theorem ceil_calls : Calls Tryd.prog 60 #[.agg #[.int .u64 n, .int .u64 rest, .int .u64 den, .bool neg]] w fun e w' => e = .returned (.int .u64 ((if neg = true then n else Mo.upN n rest : Nat) : Int)) ∧ Below w.heap.size w w' := by
  obtain ⟨x0, x1, x2, x3, b⟩ := qbox w n rest den neg
  have HB := Lib.hid b
  have hU := Lib.hid (fun w => up_calls n rest den neg w)
  clear b
  cases neg
  all_goals
    simp only [Bool.false_eq_true, if_false, if_true]
    go_enter Tryd.func60, Tryd.ntmps60
    go_wp2_with (first | (go_at_call 58; refine (hU.out _).mono ?_; rintro e w2 ⟨rfl, hb2⟩))
    go_ret
    first | exact ⟨rfl, HB.out⟩ | exact ⟨rfl, HB.out.trans (hb2.mono HB.out.size)⟩
variable (hr : rest < den) (hd : den < 9223372036854775808)
include hr hd
theorem half_calls : Calls Tryd.prog 61 #[.agg #[.int .u64 n, .int .u64 rest, .int .u64 den, .bool neg]] w fun e w' => e = .returned (.int .u64 (Mo.halfN n rest den)) ∧ Below w.heap.size w w' := by
  obtain ⟨x0, x1, x2, x3, b⟩ := qbox w n rest den neg
  have HB := Lib.hid b
  have e0 : IntKind.u64.wrap ((den : Int) - (rest : Int)) = (den : Int) - (rest : Int) := by rw [IntKind.wrap_u64]; omega
  have e1 : IntKind.u64.wrap ((n : Int) + 1) = (Mo.inc n : Int) := by rw [IntKind.wrap_u64]; unfold Mo.inc; omega
  clear b
  unfold Mo.halfN
  by_cases h : den ≤ 2 * rest
  · have d1 : decide ((den : Int) - (rest : Int) ≤ (rest : Int)) = true := decide_eq_true (by omega)
    rw [if_pos h]
    clear h
    go_enter Tryd.func61, Tryd.ntmps61
    go_wp2
    go_ret
    exact ⟨rfl, HB.out⟩
  · have d1 : decide ((den : Int) - (rest : Int) ≤ (rest : Int)) = false := decide_eq_false (by omega)
    rw [if_neg h]
    clear h
    go_enter Tryd.func61, Tryd.ntmps61
    go_wp2
    go_ret
    exact ⟨rfl, HB.out⟩
theorem even_calls : Calls Tryd.prog 62 #[.agg #[.int .u64 n, .int .u64 rest, .int .u64 den, .bool neg]] w fun e w' => e = .returned (.int .u64 (Mo.evenN n rest den)) ∧ Below w.heap.size w w' := by
  obtain ⟨x0, x1, x2, x3, b⟩ := qbox w n rest den neg
  have HB := Lib.hid b
  have hH := Lib.hid (fun w => half_calls n rest den neg w hr hd)
  have e0 : IntKind.u64.wrap ((den : Int) - (rest : Int)) = (den : Int) - (rest : Int) := by rw [IntKind.wrap_u64]; omega
  clear b
  unfold Mo.evenN
  by_cases h : den = 2 * rest
  · have d1 : ((rest : Int) == (den : Int) - (rest : Int)) = true := by simp; omega
    have e1 : (n : Int).tmod 2 = ((n % 2 : Nat) : Int) := by rw [Int.tmod_eq_emod_of_nonneg (by omega)]; omega
    have e2 : IntKind.u64.wrap ((n : Int) + ((n % 2 : Nat) : Int)) = (((n + n % 2) % 18446744073709551616 : Nat) : Int) := by rw [IntKind.wrap_u64]; omega
    have e3 : IntKind.u64.wrap ((n % 2 : Nat) : Int) = ((n % 2 : Nat) : Int) := by rw [IntKind.wrap_u64]; omega
    rw [if_pos h]
    generalize (n + n % 2) % 18446744073709551616 = z at *
    generalize n % 2 = y at *
    clear h
    go_enter Tryd.func62, Tryd.ntmps62
    go_wp2
    go_ret
    exact ⟨rfl, HB.out⟩
  · have d1 : ((rest : Int) == (den : Int) - (rest : Int)) = false := by simp; omega
    rw [if_neg h]
    clear h
    go_enter Tryd.func62, Tryd.ntmps62
    go_wp2_with (first | (go_at_call 61; refine (hH.out _).mono ?_; rintro e w2 ⟨rfl, hb2⟩))
    go_ret
    exact ⟨rfl, HB.out.trans (hb2.mono HB.out.size)⟩
end
end Go.Proofs.YtgabkgomjdlgnaaDoor
