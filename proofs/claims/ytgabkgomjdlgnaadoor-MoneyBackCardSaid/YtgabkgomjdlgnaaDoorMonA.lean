import Derived.Test.YtgabkgomjdlgnaaDoorKp
import Derived.Test.YtgabkgomjdlgnaaDoorProg
import Derived.WideLaws
import Derived.Lib.Hide
import Derived.WalkSpells
import Derived.WalkLawsBesides
import Derived.Deep.QuietTactic
import Derived.WalkKit
import Derived.BigQuiet
namespace Go.Proofs.YtgabkgomjdlgnaaDoor
open Go.RowKit Go.Lib
set_option linter.unusedVariables false
set_option linter.unusedSimpArgs false

def Mo.Most : Int := 1000000000000000
/-- how 'Check' answers -/
def Mo.chk (m : Int) : Int := if m < -1000000000000000 ∨ 1000000000000000 < m then 22 else 0

theorem num_calls (n : Int) (w : World) : Calls Tryd.prog 14 #[.int .i64 n] w fun e w' => e = .returned (.int .i64 n) ∧ w = w' := by
  go_enter Tryd.func14, Tryd.ntmps14
  go_wp2
  go_ret
  exact ⟨rfl, rfl⟩

theorem check_calls (m : Int) (w : World) : Calls Tryd.prog 27 #[.int .i64 m] w fun e w' => e = .returned (.int .i64 (Mo.chk m)) ∧ w = w' := by
  unfold Mo.chk
  by_cases h1 : m < -1000000000000000
  · have d1 : decide (m < -1000000000000000) = true := decide_eq_true h1
    rw [if_pos (.inl h1)]
    go_enter Tryd.func27, Tryd.ntmps27
    go_wp2
    go_ret
    exact ⟨rfl, rfl⟩
  · have d1 : decide (m < -1000000000000000) = false := decide_eq_false h1
    by_cases h2 : 1000000000000000 < m
    · have d2 : decide (1000000000000000 < m) = true := decide_eq_true h2
      rw [if_pos (.inr h2)]
      go_enter Tryd.func27, Tryd.ntmps27
      go_wp2
      go_ret
      exact ⟨rfl, rfl⟩
    · have d2 : decide (1000000000000000 < m) = false := decide_eq_false h2
      rw [if_neg (by rintro (h | h) <;> contradiction)]
      go_enter Tryd.func27, Tryd.ntmps27
      go_wp2
      go_ret
      exact ⟨rfl, rfl⟩

theorem abs_calls (n : Int) (h1 : -9223372036854775808 < n) (h2 : n < 9223372036854775808) (w : World) : Calls Tryd.prog 41 #[.int .i64 n] w fun e w' => e = .returned (.int .u64 (n.natAbs : Int)) ∧ w = w' := by
  by_cases h : n < 0
  · have d : decide (n < 0) = true := decide_eq_true h
    have e1 : IntKind.i64.wrap (-n) = -n := IntWalk.i64_in _ (by omega)
    have e2 : IntKind.u64.wrap (-n) = (n.natAbs : Int) := by rw [IntKind.wrap_u64]; omega
    go_enter Tryd.func41, Tryd.ntmps41
    go_wp2
    go_ret
    exact ⟨by simp [e1, e2], rfl⟩
  · have d : decide (n < 0) = false := decide_eq_false h
    have e2 : IntKind.u64.wrap n = (n.natAbs : Int) := by rw [IntKind.wrap_u64]; omega
    go_enter Tryd.func41, Tryd.ntmps41
    go_wp2
    go_ret
    exact ⟨by simp [e2], rfl⟩

end Go.Proofs.YtgabkgomjdlgnaaDoor
