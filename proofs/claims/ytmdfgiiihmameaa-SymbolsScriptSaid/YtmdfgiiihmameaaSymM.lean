import Derived.Test.YtmdfgiiihmameaaSymL
import Derived.Test.YtmdfgiiihmameaaSymJ
namespace Go.Proofs.Ytmdfgiiihmameaa
open Go.Shelf Go.RowKit Go.Lib Go.Sort
set_option linter.unusedVariables false
set_option linter.unusedSimpArgs false

theorem rnew_no (m : Int) (w : World) (h : m < 1 ∨ 4096 < m) : Calls Try.prog 8 #[.int .i64 m] w fun e w' => e = .returned (.tuple #[.pointer none, .int .i64 4]) ∧ w = w' := by
  rcases h with h | h
  · have d : decide (m < 1) = true := decide_eq_true h
    go_enter Try.func8, Try.ntmps8
    go_wp2
    go_ret2
    exact ⟨rfl, rfl⟩
  · have d : decide (m < 1) = false := decide_eq_false (by omega)
    have d2 : decide (4096 < m) = true := decide_eq_true (by omega)
    go_enter Try.func8, Try.ntmps8
    go_wp2
    go_ret2
    exact ⟨rfl, rfl⟩
theorem rnew_yes (m : Nat) (w : World) (h1 : 1 ≤ m) (h2 : m ≤ 4096) : Calls Try.prog 8 #[.int .i64 m] w fun e w' =>
    e = .returned (.tuple #[.pointer (some ⟨w.heap.size, 0, none⟩), .int .i64 0]) ∧ w' = w.alloc (.cells #[.int .i64 m, .slice none 0 0] 51) := by
  have d : decide ((m : Int) < 1) = false := decide_eq_false (by omega)
  have d2 : decide ((4096 : Int) < m) = false := decide_eq_false (by omega)
  go_enter Try.func8, Try.ntmps8
  go_wp2
  go_ret2
  exact ⟨rfl, rfl⟩

set_option maxHeartbeats 1000000 in
set_option maxRecDepth 100000 in
theorem names_walk (s : ByteArray) (m : Int) (hs : s.size ≤ maxLen) (w : World) :
    Calls Try.prog 3 #[.string s, .int .i64 m] w fun e w' => e = .returned (.bool true) ∧ Below w.heap.size w w' := by
  have hs' : s.size ≤ 9223372036854775807 := by unfold maxLen at hs; omega
  have hN := isName_calls s
  have hV := isVar_calls s
  have hRN := fun w => rIsName_calls s w hs'
  have hRV := fun w => rIsVar_calls s w hs'
  rw [Sy.nameB_ref] at hN
  rw [Sy.varB_ref] at hV
  generalize Sy.refB Sy.smallN Sy.okN s = x at *
  generalize Sy.refB Sy.bigN Sy.okV s = y at *
  have HN := Lib.hid hN
  have HV := Lib.hid hV
  have HRN := Lib.hid hRN
  have HRV := Lib.hid hRV
  clear hN hV hRN hRV hs hs'
  by_cases hm : m < 1 ∨ 4096 < m
  · have h1 := Lib.hid (new_no m w hm)
    have h2 := Lib.hid (rnew_no m w hm)
    clear hm
    go_enter Try.func3, Try.ntmps3
    go_wp2_with (first | (go_at_call 7; refine h1.out.mono ?_; rintro e w' ⟨rfl, rfl⟩) | (go_at_call 8; refine h2.out.mono ?_; rintro e w' ⟨rfl, rfl⟩) | (go_at_call 9; refine (HN.out _).mono ?_; rintro e w1 ⟨rfl, hb1⟩) | (go_at_call 10; refine (HRN.out _).mono ?_; rintro e w' ⟨rfl, rfl⟩) | (go_at_call 11; refine (HV.out _).mono ?_; rintro e w2 ⟨rfl, hb2⟩) | (go_at_call 12; refine (HRV.out _).mono ?_; rintro e w' ⟨rfl, rfl⟩) | (go_at_call 13; refine (num_calls _ _).mono ?_; rintro e w' ⟨rfl, rfl⟩) | (go_at_call 14; refine (alive_calls _).mono ?_; rintro e w3 ⟨rfl, hb3⟩))
    go_ret
    exact ⟨rfl, (hb1.trans (hb2.mono hb1.size)).trans (hb3.mono (by have := hb1.size; have := hb2.size; omega))⟩
  · obtain ⟨k, rfl⟩ := Int.eq_ofNat_of_zero_le (show 0 ≤ m by omega)
    have h1 := Lib.hid (new_yes k w (by omega) (by omega))
    have h2 := Lib.hid (fun w => rnew_yes k w (by omega) (by omega))
    clear hm
    go_enter Try.func3, Try.ntmps3
    go_wp2_with (first | (go_at_call 7; refine h1.out.mono ?_; rintro e wa ⟨rfl, -, hba⟩) | (go_at_call 8; refine (h2.out _).mono ?_; rintro e wb ⟨rfl, hwb⟩; have HWB := Lib.hid hwb; clear hwb) | (go_at_call 9; refine (HN.out _).mono ?_; rintro e w1 ⟨rfl, hb1⟩) | (go_at_call 10; refine (HRN.out _).mono ?_; rintro e w' ⟨rfl, rfl⟩) | (go_at_call 11; refine (HV.out _).mono ?_; rintro e w2 ⟨rfl, hb2⟩) | (go_at_call 12; refine (HRV.out _).mono ?_; rintro e w' ⟨rfl, rfl⟩) | (go_at_call 13; refine (num_calls _ _).mono ?_; rintro e w' ⟨rfl, rfl⟩) | (go_at_call 14; refine (alive_calls _).mono ?_; rintro e w3 ⟨rfl, hb3⟩))
    go_ret
    have hbb : Below w.heap.size w wb := by rw [HWB.out]; exact hba.alloc hba.size _
    exact ⟨rfl, ((hbb.trans (hb1.mono hbb.size)).trans (hb2.mono (by have := hb1.size; have := hbb.size; omega))).trans (hb3.mono (by have := hb1.size; have := hb2.size; have := hbb.size; omega))⟩
end Go.Proofs.Ytmdfgiiihmameaa
