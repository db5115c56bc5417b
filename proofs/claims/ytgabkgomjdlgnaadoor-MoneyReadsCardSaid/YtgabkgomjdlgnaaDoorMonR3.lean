import Derived.Test.YtgabkgomjdlgnaaDoorMonR2
namespace Go.Proofs.YtgabkgomjdlgnaaDoor
open Go.RowKit Go.Lib
open Go.Proofs.YtgabkgomjdlgnaaDoor.PMoneyReads
open Go.Proofs.YtgabkgomjdlgnaaDoorW.PrintWords (Drawn0)
set_option linter.unusedVariables false
set_option linter.unusedSimpArgs false

theorem drawn_below' {w w' : World} (h : Drawn0 w w') : Below w.heap.size w w' := by
  obtain ⟨n, rfl⟩ := h.out
  exact below_drewn (Below.refl _ _) n
set_option maxRecDepth 100000 in
theorem reads_walk (s : ByteArray) (w : World) (hs : s.data.toList.length ≤ reachBytes) (hT : Tab w) :
    Calls Tryd.prog 3 #[.string s] w fun e w' => e = .returned (.bool true) ∧ Below w.heap.size w w' := by
  have hs' : s.size ≤ 9223372036854770000 := by
    rw [Array.length_toList] at hs
    have : reachBytes < 2 ^ 47 := reachBytes_lt
    have e : (2 : Nat) ^ 47 = 140737488355328 := by decide
    have e2 : s.size = s.data.size := rfl
    omega
  have HS := Lib.hid (fun w' => parse_str s hs' w')
  obtain ⟨k, hk⟩ := Mo.rparse s.data.toList (by rw [Array.length_toList]; exact hs')
  rw [Mo.S_of] at hk
  have HR := Lib.hid (fun w => lexpriorref02_Parse.calls k s (Mo.parse s.data.toList).1 (Mo.parse s.data.toList).2 w hk)
  clear hs hs' hT hk
  generalize (Mo.parse s.data.toList).1 = m at *
  generalize (Mo.parse s.data.toList).2 = e at *
  go_enter Tryd.func3, Tryd.ntmps3
  go_wp2_with (first
    | (go_at_call 12; refine (HS.out _).mono ?_; rintro e w1 ⟨rfl, b1⟩; have B1 := Lib.hid b1; clear b1 HS)
    | (go_at_call 13; refine (HR.out _).mono ?_; rintro e w2 ⟨rfl, b2⟩; have B2 := Lib.hid (B1.out.trans ((drawn_below' b2).mono B1.out.size)); clear b2 B1 HR)
    | (go_at_call 15; refine (works_calls _).mono ?_; rintro e w12 ⟨rfl, b12⟩; have B12 := Lib.hid (B2.out.trans (b12.mono B2.out.size)); clear b12 B2)
    | (go_at_call 14; refine (num_calls _ _).mono ?_; rintro e w6 ⟨rfl, rfl⟩))
  go_ret
  exact ⟨by first | rfl | simp, B12.out⟩
end Go.Proofs.YtgabkgomjdlgnaaDoor
