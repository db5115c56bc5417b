import Derived.Test.YtgabkgomjdlgnaaDoorMonT2
namespace Go.Proofs.YtgabkgomjdlgnaaDoor
open Go.RowKit Go.Lib
open Go.Proofs.YtgabkgomjdlgnaaDoor.PMoneyTells
open Go.Proofs.YtgabkgomjdlgnaaDoorW.PrintWords (Drawn0 mn mx)
set_option linter.unusedVariables false
set_option linter.unusedSimpArgs false

set_option maxHeartbeats 2000000 in
set_option maxRecDepth 100000 in
theorem tells_walk (a b c : Int) (w : World) (_ : (Lit.int .i64 a).wf = true) (_ : (Lit.int .i64 b).wf = true) (_ : (Lit.int .i64 c).wf = true) (hT : Tab w) :
    Calls Tryd.prog 8 #[.int .i64 a, .int .i64 b, .int .i64 c] w fun e w' => e = .returned (.bool true) ∧ Below w.heap.size w w' := by
  have HP := Lib.hid (print_tab a w hT)
  have HR := Lib.hid (fun w => rprint_calls a w)
  have HC := Lib.hid (fun w => money_Clamp.calls 1 a b c (Mo.clamp a b c).1 (Mo.clamp a b c).2 w (Mo.clamp_f a b c))
  have HD := Lib.hid (fun w => lexpriorref02_Clamp.calls 1 a b c (Mo.clamp a b c).1 (Mo.clamp a b c).2 w (Mo.rclamp_f a b c))
  have HK := Lib.hid (fun w => lexpriorref02_Check.calls a (Mo.chk a) w (Mo.rcheck_f a))
  have HE := Lib.hid (fun w => money_Compare.calls a b (Mo.cmpI a b) w (Mo.comp_f a b))
  have HF := Lib.hid (fun w => lexpriorref02_Compare.calls a b (Mo.cmpI a b) w (Mo.rcomp_f a b))
  have HCh := Lib.hid (fun w => check_calls a w)
  clear hT
  generalize Mo.print a = pr at *
  generalize Mo.clamp a b c = cl at *
  generalize Mo.chk a = ck at *
  generalize Mo.cmpI a b = cp at *
  generalize Mo.S pr.1 = t at *
  generalize pr.2 = e at *
  generalize cl.1 = x at *
  generalize cl.2 = f at *
  clear pr cl
  go_enter Tryd.func8, Tryd.ntmps8
  go_wp2_with (first
    | (go_at_call 21; refine HP.out.mono ?_; rintro e w1 ⟨rfl, b1⟩; have B1 := Lib.hid b1; clear b1 HP)
    | (go_at_call 24; refine (HR.out _).mono ?_; rintro e w2 ⟨rfl, b2⟩; have B2 := Lib.hid (B1.out.trans (b2.mono B1.out.size)); clear b2 B1 HR)
    | (go_at_call 25; refine (HC.out _).mono ?_; rintro e w3 ⟨rfl, b3⟩; have B3 := Lib.hid (B2.out.trans (b3.mono B2.out.size)); clear b3 B2 HC)
    | (go_at_call 26; refine (HD.out _).mono ?_; rintro e w4 ⟨rfl, b4⟩; have B4 := Lib.hid (B3.out.trans ((drawn_below b4).mono B3.out.size)); clear b4 B3 HD)
    | (go_at_call 27; refine (HCh.out _).mono ?_; rintro e w5 ⟨rfl, rfl⟩; clear HCh)
    | (go_at_call 28; refine (HK.out _).mono ?_; rintro e w7 ⟨rfl, b7⟩; have B7 := Lib.hid (B4.out.trans ((drawn_below b7).mono B4.out.size)); clear b7 B4 HK)
    | (go_at_call 29; refine (HE.out _).mono ?_; rintro e w9 ⟨rfl, b9⟩; have B9 := Lib.hid (B7.out.trans ((drawn_below b9).mono B7.out.size)); clear b9 B7 HE)
    | (go_at_call 30; refine (HF.out _).mono ?_; rintro e w10 ⟨rfl, b10⟩; have B10 := Lib.hid (B9.out.trans ((drawn_below b10).mono B9.out.size)); clear b10 B9 HF)
    | (go_at_call 15; refine (works_calls _).mono ?_; rintro e w12 ⟨rfl, b12⟩; have B12 := Lib.hid (B10.out.trans (b12.mono B10.out.size)); clear b12 B10)
    | (go_at_call 14; refine (num_calls _ _).mono ?_; rintro e w6 ⟨rfl, rfl⟩))
  go_ret
  exact ⟨by first | rfl | simp, B12.out⟩
end Go.Proofs.YtgabkgomjdlgnaaDoor
