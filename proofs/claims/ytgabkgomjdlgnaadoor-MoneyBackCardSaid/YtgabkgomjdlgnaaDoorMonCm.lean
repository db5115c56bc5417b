import Derived.Test.YtgabkgomjdlgnaaDoorMonR
import Derived.Deep.RegionWith
namespace Go.Proofs.YtgabkgomjdlgnaaDoor
open Go.RowKit Go.Lib
set_option linter.unusedVariables false
set_option linter.unusedSimpArgs false

/-- cmp.Compare's answer -/
def St.sg (a b : Int) : Int := if a < b then -1 else if b < a then 1 else 0
theorem St.sg_neg (a b : Int) : decide (St.sg a b < 0) = decide (a < b) := by
  unfold St.sg
  by_cases h : a < b
  · rw [if_pos h, decide_eq_true h]; rfl
  · rw [if_neg h, decide_eq_false h]
    split <;> rfl
section
set_option maxRecDepth 100000
theorem isNaNU_calls (a : Int) (w : World) : Calls Tryd.prog 65 #[.int .u64 a] w fun e w' => e = .returned (.bool false) ∧ w = w' := by
  have d : (a != a) = false := by simp
  go_enter Tryd.func65, Tryd.ntmps65
  go_wp2
  go_ret
  exact ⟨rfl, rfl⟩
theorem cmpU_calls (a b : Int) (w : World) : Calls Tryd.prog 46 #[.int .u64 a, .int .u64 b] w fun e w' => e = .returned (.int .i64 (St.sg a b)) ∧ w = w' := by
  unfold St.sg
  by_cases h1 : a < b
  · have d1 : decide (a < b) = true := decide_eq_true h1
    rw [if_pos h1]
    go_enter Tryd.func46, Tryd.ntmps46
    go_wp2_with (first | (go_at_call 65; refine (isNaNU_calls _ _).mono ?_; rintro e w' ⟨rfl, rfl⟩))
    go_ret
    exact ⟨rfl, rfl⟩
  · have d1 : decide (a < b) = false := decide_eq_false h1
    rw [if_neg h1]
    by_cases h2 : b < a
    · have d2 : decide (b < a) = true := decide_eq_true h2
      rw [if_pos h2]
      go_enter Tryd.func46, Tryd.ntmps46
      go_wp2_with (first | (go_at_call 65; refine (isNaNU_calls _ _).mono ?_; rintro e w' ⟨rfl, rfl⟩))
      go_ret
      exact ⟨rfl, rfl⟩
    · have d2 : decide (b < a) = false := decide_eq_false h2
      rw [if_neg h2]
      go_enter Tryd.func46, Tryd.ntmps46
      go_wp2_with (first | (go_at_call 65; refine (isNaNU_calls _ _).mono ?_; rintro e w' ⟨rfl, rfl⟩))
      go_ret
      exact ⟨rfl, rfl⟩
end
/-- what a captured variable at block cr holds: a row of keys -/
structure Keys (w : World) (cr r n : Nat) (R : Nat → Nat) : Prop where
  var : ∃ c, w.cell? ⟨cr, 0, none⟩ = some (.slice (some ⟨r, 0, none⟩) n c)
  key : ∀ i, i < n → w.cell? ⟨r, i, none⟩ = some (.int .u64 (R i : Int))
set_option maxHeartbeats 1000000 in
set_option maxRecDepth 100000 in
theorem share1_calls (cr r n x y : Nat) (R : Nat → Nat) (w : World) (hK : Keys w cr r n R) (hx : x < n) (hy : y < n) (hn : n < 4611686018427387904) :
    Calls Tryd.prog 45 #[.int .i64 x, .int .i64 y, .pointer (some ⟨cr, 0, none⟩)] w fun e w' => e = .returned (.int .i64 (St.sg (R y) (R x))) ∧ ∃ q, w' = w.drewN q := by
  obtain ⟨c, hv⟩ := hK.var
  have c1 := hK.key x hx
  have c2 := hK.key y hy
  clear hK
  generalize R x = a at *
  generalize R y = b at *
  have z1 : (0 : Int) ≤ (x : Int) := by omega
  have z2 : (x : Int) < n := by omega
  have z3 : (0 : Int) ≤ (y : Int) := by omega
  have z4 : (y : Int) < n := by omega
  have HC := Lib.hid (fun w => (cmpU_calls b a w).mono (fun e w' h => And.intro h.1 h.2.symm))
  go_enter Tryd.func45, Tryd.ntmps45
  go_wp2
  go_quiet ((go_at_call 46; exact Calls.quiet_of_same (HC.out _)))
  go_wp2
  go_ret
  exact ⟨rfl, _, rfl⟩
end Go.Proofs.YtgabkgomjdlgnaaDoor
