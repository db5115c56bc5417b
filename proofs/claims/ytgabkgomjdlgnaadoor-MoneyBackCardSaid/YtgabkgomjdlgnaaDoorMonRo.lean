import Derived.Test.YtgabkgomjdlgnaaDoorMonR
namespace Go.Proofs.YtgabkgomjdlgnaaDoor
open Go.RowKit Go.Lib
set_option linter.unusedVariables false
set_option linter.unusedSimpArgs false

set_option maxHeartbeats 1000000 in
set_option maxRecDepth 100000 in
theorem rotate_calls (g n c s m e : Nat) (f : Nat → Nat) (fv : Value) (w0 w : World) (hn : n < 4611686018427387904) (hR : Row w0 w g n f) (h1 : s < m) (h2 : m < e) (h3 : e ≤ n) :
    Calls Tryd.prog 99 #[.slice (some ⟨g, 0, none⟩) n c, .int .i64 s, .int .i64 m, .int .i64 e, fv] w fun en w' => en = .returned (.tuple #[]) ∧ Row w0 w' g n (St.rot f s m e) := by
  have HR := Lib.hid hR
  clear hR
  have k1 : IntKind.i64.wrap ((m : Int) - s) = (m : Int) - s := IntWalk.i64_in _ (by omega)
  have k2 : IntKind.i64.wrap ((e : Int) - m) = (e : Int) - m := IntWalk.i64_in _ (by omega)
  have n1 : (m : Int) - s = ((m - s : Nat) : Int) := by omega
  have n2 : (e : Int) - m = ((e - m : Nat) : Int) := by omega
  have l1 := Lib.hid (show m - s ≤ m ∧ 0 < m - s ∧ 0 < e - m ∧ m + (e - m) ≤ n from ⟨by omega, by omega, by omega, by omega⟩)
  have E0 := Lib.hid (show St.rot f (m - (m - s)) m (m + (e - m)) = St.rot f s m e by rw [show m - (m - s) = s by omega, show m + (e - m) = e by omega])
  generalize hI : m - s = I0 at *
  generalize hJ : e - m = J0 at *
  have HI := Lib.hid (And.intro hI hJ)
  clear hI hJ
  rw [n1] at k1
  rw [n2] at k2
  go_enter Tryd.func99, Tryd.ntmps99
  go_wp2
  go_loopw [10, 11] (fun v u wr => ∃ (i j : Nat) (f' : Nat → Nat), i ≤ m ∧ 0 < i ∧ 0 < j ∧ m + j ≤ n ∧ v = .int .i64 i ∧ u = .int .i64 j ∧ Row w0 wr g n f' ∧ Hid (St.rot f' (m - i) m (m + j) = St.rot f s m e)) (fun v u _ => (intOf v).toNat + (intOf u).toNat)
  case atStart => exact ⟨I0, J0, f, l1.out.1, l1.out.2.1, l1.out.2.2.1, l1.out.2.2.2, rfl, rfl, HR.out, E0⟩
  case round =>
    clear k1 k2 n1 n2 E0 HI
    obtain ⟨i, j, f', hi, hi0, hj0, hj, rfl, rfl, hr, HE⟩ := hrel
    have HR2 := Lib.hid hr
    clear hr HR
    have k1 : IntKind.i64.wrap ((m : Int) - i) = (m : Int) - i := IntWalk.i64_in _ (by omega)
    have k2 : IntKind.i64.wrap ((m : Int) + j) = (m : Int) + j := IntWalk.i64_in _ (by omega)
    have k3 : IntKind.i64.wrap ((m : Int) + j - i) = (m : Int) + j - i := IntWalk.i64_in _ (by omega)
    have k4 : IntKind.i64.wrap ((i : Int) - j) = (i : Int) - j := IntWalk.i64_in _ (by omega)
    have k5 : IntKind.i64.wrap ((j : Int) - i) = (j : Int) - i := IntWalk.i64_in _ (by omega)
    have q1 : (m : Int) - i = ((m - i : Nat) : Int) := by omega
    have q2 : (m : Int) + j - i = ((m + j - i : Nat) : Int) := by omega
    rcases Nat.lt_trichotomy i j with h | h | h
    · have d1 : ((i : Int) != (j : Int)) = true := by simp; omega
      have d1' : (i != j) = true := by simp; omega
      have d2 : decide (j < i) = false := decide_eq_false (by omega)
      have HC := Lib.hid (swapRange_calls g n c (m - i) (m + j - i) i f' fv w0 wr hn HR2.out (by omega) (by omega))
      rw [← q1, ← q2] at HC
      have HH := Lib.hid h
      have q3 := Lib.hid (show (j : Int) - i = ((j - i : Nat) : Int) by omega)
      clear h q1 q2
      go_wp2_with (first | (go_at_call 109; refine HC.out.mono ?_; rintro e w1 ⟨rfl, hr1⟩; have HR3 := Lib.hid hr1; clear hr1))
      go_roundw
      case rel => exact ⟨i, j - i, _, hi, hi0, by have := HH.out; omega, by have := HH.out; omega, rfl, by rw [q3.out], HR3.out, (St.rot_small f' m i j HH.out hi).trans HE.out⟩
      case measure => have := HH.out; simp [intOf]; omega
    · subst h
      have HC := Lib.hid (swapRange_calls g n c (m - i) m i f' fv w0 wr hn HR2.out (by omega) (by omega))
      rw [← q1] at HC
      have d1 : ((i : Int) != (i : Int)) = false := by simp
      have d1' : (i != i) = false := by simp
      clear q1 q2
      go_wp2_with (first | (go_at_call 109; refine HC.out.mono ?_; rintro e w1 ⟨rfl, hr1⟩; have HR3 := Lib.hid hr1; clear hr1))
      go_end0
      exact ⟨rfl, HR3.out.congr ((St.rot_same f' m i hi).trans HE.out).symm⟩
    · have d1 : ((i : Int) != (j : Int)) = true := by simp; omega
      have d1' : (i != j) = true := by simp; omega
      have d2 : decide (j < i) = true := decide_eq_true (by omega)
      have HC := Lib.hid (swapRange_calls g n c (m - i) m j f' fv w0 wr hn HR2.out (by omega) (by omega))
      rw [← q1] at HC
      have HH := Lib.hid h
      have q3 := Lib.hid (show (i : Int) - j = ((i - j : Nat) : Int) by omega)
      clear h q1 q2
      go_wp2_with (first | (go_at_call 109; refine HC.out.mono ?_; rintro e w1 ⟨rfl, hr1⟩; have HR3 := Lib.hid hr1; clear hr1))
      go_roundw
      case rel => exact ⟨i - j, j, _, by omega, by have := HH.out; omega, hj0, hj, by rw [q3.out], rfl, HR3.out, (St.rot_big f' m i j HH.out hi).trans HE.out⟩
      case measure => have := HH.out; simp [intOf]; omega
end Go.Proofs.YtgabkgomjdlgnaaDoor
