import Derived.Test.YtgabkgomjdlgnaaDoorMonH
import Derived.Test.YtgabkgomjdlgnaaDoorShelf
import Derived.Deep.RegionWith
namespace Go.Proofs.YtgabkgomjdlgnaaDoor
open Go.RowKit Go.Lib
set_option linter.unusedVariables false
set_option linter.unusedSimpArgs false

set_option maxHeartbeats 1000000 in
set_option maxRecDepth 100000 in
theorem div64_lo (lo y : Nat) (hy : 0 < y) (hlo : lo < 18446744073709551616) (w : World) :
    Calls Tryd.prog 42 #[.int .u64 0, .int .u64 lo, .int .u64 y] w fun e w' => e = .returned (.tuple #[.int .u64 ((lo / y : Nat) : Int), .int .u64 ((lo % y : Nat) : Int)]) ∧ ∃ n, w' = w.drewN n := by
  have d1 : ((y : Int) == 0) = false := by simp; omega
  have d2 : decide ((y : Int) ≤ 0) = false := decide_eq_false (by omega)
  have d3 : ¬ (y : Int) = 0 := by omega
  have e1 : (lo : Int).tdiv (y : Int) = ((lo / y : Nat) : Int) := by rw [Int.tdiv_eq_ediv_of_nonneg (by omega)]; omega
  have e2 : (lo : Int).tmod (y : Int) = ((lo % y : Nat) : Int) := by rw [Int.tmod_eq_emod_of_nonneg (by omega)]; omega
  have a1 : lo / y < 18446744073709551616 := Nat.lt_of_le_of_lt (Nat.div_le_self _ _) hlo
  have a2 : lo % y < 18446744073709551616 := Nat.lt_of_le_of_lt (Nat.mod_le _ _) hlo
  generalize lo / y = a at *
  generalize lo % y = b at *
  have a3 : IntKind.u64.wrap (a : Int) = a := by rw [IntKind.wrap_u64]; omega
  have a4 : IntKind.u64.wrap (b : Int) = b := by rw [IntKind.wrap_u64]; omega
  clear a1 a2 hlo
  go_enter Tryd.func42, Tryd.ntmps42
  go_wp2
  go_quiet (fail)
  go_wp2
  go_ret2
  exact ⟨rfl, _, rfl⟩

namespace Mo
theorem funR_inv {v : Value} {f : Nat} {ps : List MemPlace} (h : funR v = some (.lit (.int .i64 f), ps)) : v = .func (.func f) #[] #[] := by
  unfold funR at h
  split at h
  · rename_i g x y
    split at h
    · rename_i hxy
      injection h with h
      injection h with h _
      injection h with h
      injection h with _ h
      rw [Array.eq_empty_of_size_eq_zero hxy.1, Array.eq_empty_of_size_eq_zero hxy.2, Int.natCast_inj.1 h]
    · cases h
  · injection h with h; injection h with h _; cases h
  · cases h
def wayF (r : Nat) : Nat := match r with | 1 => 57 | 2 => 58 | 3 => 59 | 4 => 60 | 5 => 61 | _ => 62
def wayN (r : Nat) (neg : Bool) (n rest den : Nat) : Nat := match r with | 1 => n | 2 => upN n rest | 3 => if neg = true then upN n rest else n | 4 => if neg = true then n else upN n rest | 5 => halfN n rest den | _ => evenN n rest den
theorem ways_at (r : Nat) (h1 : 1 ≤ r) (h2 : r ≤ 6) : waysD.atKey (.int .i64 r) .nil = .lit (.int .i64 (wayF r)) ∧ Maps.has waysD (.int .i64 r) = true := by
  have : r = 1 ∨ r = 2 ∨ r = 3 ∨ r = 4 ∨ r = 5 ∨ r = 6 := by omega
  rcases this with rfl | rfl | rfl | rfl | rfl | rfl <;> exact ⟨by kernel_rfl, by kernel_rfl⟩
end Mo
theorem way_calls (r : Nat) (h1 : 1 ≤ r) (h2 : r ≤ 6) (n rest den : Nat) (neg : Bool) (w : World) (hr : rest < den) (hd : den < 9223372036854775808) :
    Calls Tryd.prog (Mo.wayF r) #[.agg #[.int .u64 n, .int .u64 rest, .int .u64 den, .bool neg]] w fun e w' => e = .returned (.int .u64 (Mo.wayN r neg n rest den)) ∧ Below w.heap.size w w' := by
  have : r = 1 ∨ r = 2 ∨ r = 3 ∨ r = 4 ∨ r = 5 ∨ r = 6 := by omega
  rcases this with rfl | rfl | rfl | rfl | rfl | rfl
  · exact down_calls n rest den neg w
  · exact up_calls n rest den neg w
  · exact floor_calls n rest den neg w
  · exact ceil_calls n rest den neg w
  · exact half_calls n rest den neg w hr hd
  · exact even_calls n rest den neg w hr hd
end Go.Proofs.YtgabkgomjdlgnaaDoor
