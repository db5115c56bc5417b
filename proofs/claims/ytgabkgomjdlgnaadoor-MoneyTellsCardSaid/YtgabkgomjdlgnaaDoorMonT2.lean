import Derived.Test.YtgabkgomjdlgnaaDoorMonT1
import Derived.Test.YtgabkgomjdlgnaaDoorMonLc
import Derived.SizedLaws
namespace Go.Proofs.YtgabkgomjdlgnaaDoor
open Go.RowKit Go.Lib
open Go.Proofs.YtgabkgomjdlgnaaDoor.PMoneyTells
open Go.Proofs.YtgabkgomjdlgnaaDoorW.PrintWords (Drawn0 mn mx)
set_option linter.unusedVariables false
set_option linter.unusedSimpArgs false

theorem drawn_below {w w' : World} (h : Drawn0 w w') : Below w.heap.size w w' := by
  obtain ⟨n, rfl⟩ := h.out
  exact below_drewn (Below.refl _ _) n
theorem tmod10 (a : Nat) : (a : Int).tmod 10 = ((a % 100 % 10 : Nat) : Int) := by rw [Int.tmod_eq_emod_of_nonneg (by omega)]; omega
theorem rtext_calls (m : Int) (hk : Mo.chk m = 0) (w : World) : Calls Tryd.prog 49 #[.int .i64 m] w fun e w' => e = .returned (.string (Mo.S (Mo.print m).1)) ∧ Below w.heap.size w w' := by
  have hb := chk_bound m hk
  have hr : Mo.print m = (Mo.text (decide (m < 0)) (m.natAbs / 100) (m.natAbs % 100), 0) := by unfold Mo.print; rw [if_pos hk]
  have hl : (Lib.decDigits (m.natAbs / 100)).length ≤ 100 := by
    rw [Lib.decDigits_length]
    have := Lib.nDigits_le20 (m.natAbs / 100) (by omega)
    omega
  have P := Mo.parts m.natAbs (by omega)
  rw [hr]
  unfold Mo.text
  by_cases hneg : m < 0
  · have h := rtext_neg m m.natAbs _ _ _ _ hneg (by rw [IntWalk.i64_in _ (by omega)]; omega) (by omega) P (tmod10 _) (by omega) hl w
    rw [decide_eq_true hneg, if_pos rfl]
    exact h
  · have h := rtext_pos m m.natAbs _ _ _ _ hneg (by omega) (by omega) P (tmod10 _) (by omega) hl w
    rw [decide_eq_false hneg, if_neg (by decide)]
    exact h
set_option maxRecDepth 100000 in
theorem rprint_calls (m : Int) (w : World) : Calls Tryd.prog 24 #[.int .i64 m] w fun e w' => e = .returned (.tuple #[.string (Mo.S (Mo.print m).1), .int .i64 (Mo.print m).2]) ∧ Below w.heap.size w w' := by
  have HM := Lib.hid (fun w => rmay_calls m w)
  by_cases hk : Mo.chk m = 0
  · have HT := Lib.hid (fun w => rtext_calls m hk w)
    have h2 := Mo.print_ok m hk
    have d : decide (Mo.chk m = 0) = true := decide_eq_true hk
    rw [d] at HM
    generalize Mo.print m = pr at *
    obtain ⟨l, e⟩ := pr
    have h2' : e = 0 := h2
    subst h2'
    clear h2 hk d
    go_enter Tryd.func24, Tryd.ntmps24
    go_wp2_with (first | (go_at_call 43; refine (HM.out _).mono ?_; rintro e w1 ⟨rfl, b1⟩; have B1 := Lib.hid (drawn_below b1); clear b1) | (go_at_call 49; refine (HT.out _).mono ?_; rintro e w2 ⟨rfl, b2⟩))
    go_ret2
    exact ⟨rfl, B1.out.trans (b2.mono B1.out.size)⟩
  · have h2 := Mo.print_no m hk
    have d : decide (Mo.chk m = 0) = false := decide_eq_false hk
    rw [d] at HM
    generalize Mo.print m = pr at *
    subst h2
    clear hk d
    go_enter Tryd.func24, Tryd.ntmps24
    go_wp2_with (first | (go_at_call 43; refine (HM.out _).mono ?_; rintro e w1 ⟨rfl, b1⟩; have B1 := Lib.hid (drawn_below b1); clear b1))
    go_ret2
    exact ⟨rfl, B1.out⟩
namespace Mo
def clamp (a b c : Int) : Int × Int := if chk a ≠ 0 ∨ chk b ≠ 0 ∨ chk c ≠ 0 then (0, 22) else if b > c then (0, 1) else (if a < b then b else if a > c then c else a, 0)
def cmpI (a b : Int) : Int := if a < b then -1 else if a > b then 1 else 0
theorem check_f (m : Int) : money_Check.f m = some (chk m) := by
  unfold money_Check.f chk
  by_cases h1 : m < -1000000000000000
  · rw [if_pos h1, if_pos (.inl h1)]
  · rw [if_neg h1]
    by_cases h2 : m > 1000000000000000
    · rw [if_pos h2, if_pos (.inr h2)]
    · rw [if_neg h2, if_neg (by omega)]
theorem may_f (m : Int) : lexpriorref02_May.f m = some (decide (chk m = 0)) := by
  unfold lexpriorref02_May.f chk
  by_cases h1 : m ≥ -1000000000000000
  · rw [if_pos h1]
    by_cases h2 : m ≤ 1000000000000000
    · rw [if_neg (by omega), decide_eq_true h2]; rfl
    · rw [if_pos (by omega), decide_eq_false h2]; rfl
  · rw [if_neg h1, if_pos (by omega)]; rfl
theorem clamp_f (a b c : Int) : money_Clamp.f 1 a b c = some (clamp a b c) := by
  have J : ∀ t, money_Clamp.j0 1 a b c t = if t = true then (some (0, 22)) else (if b > c then (some (0, 1)) else (some (mn (mx a b) c, 0))) := fun _ => rfl
  unfold money_Clamp.f clamp
  simp only [check_f, Option.bind_some, J]
  by_cases ha : chk a = 0
  · by_cases hb : chk b = 0
    · by_cases hc : chk c = 0
      · by_cases hbc : c < b
        · simp [ha, hb, hc, hbc]
        · unfold mn mx
          by_cases h1 : a < b
          · simp [ha, hb, hc, hbc, h1]
          · by_cases h2 : c < a
            · simp [ha, hb, hc, hbc, h1, h2]
            · simp [ha, hb, hc, hbc, h1, h2]
      · simp [ha, hb, hc]
    · simp [ha, hb]
  · simp [ha]
theorem rclamp_f (a b c : Int) : lexpriorref02_Clamp.f 1 a b c = some (clamp a b c) := by
  have J : ∀ t, lexpriorref02_Clamp.j0 1 a b c t = if t = true then (some (0, 22)) else (if b > c then (some (0, 1)) else (if a < b then (some (b, 0)) else (if a > c then (some (c, 0)) else (some (a, 0))))) := fun _ => rfl
  unfold lexpriorref02_Clamp.f clamp
  simp only [may_f, Option.bind_some, J]
  by_cases ha : chk a = 0
  · by_cases hb : chk b = 0
    · by_cases hc : chk c = 0
      · by_cases hbc : c < b
        · simp [ha, hb, hc, hbc]
        · by_cases h1 : a < b
          · simp [ha, hb, hc, hbc, h1]
          · by_cases h2 : c < a
            · simp [ha, hb, hc, hbc, h1, h2]
            · simp [ha, hb, hc, hbc, h1, h2]
      · simp [ha, hb, hc]
    · simp [ha, hb]
  · simp [ha]
theorem rcheck_f (m : Int) : lexpriorref02_Check.f m = some (chk m) := by
  unfold lexpriorref02_Check.f
  rw [may_f, Option.bind_some]
  by_cases h : chk m = 0
  · rw [if_pos (decide_eq_true h), h]
  · rw [if_neg (by simp [h])]
    unfold chk at h ⊢
    split at h
    · rw [if_pos (by assumption)]
    · exact absurd rfl h
theorem comp_f (a b : Int) : money_Compare.f a b = some (cmpI a b) := by
  unfold money_Compare.f api_Money_50.f api_Money_68.f cmpI
  simp only [Option.bind_some, bne_self_eq_false, Bool.false_eq_true, if_false]
  by_cases h1 : a < b
  · rw [if_pos h1, if_pos h1]; rfl
  · rw [if_neg h1, if_neg h1]
    by_cases h2 : a > b
    · rw [if_pos h2, if_pos h2]; rfl
    · rw [if_neg h2, if_neg h2]; rfl
theorem rcomp_f (a b : Int) : lexpriorref02_Compare.f a b = some (cmpI a b) := by
  unfold lexpriorref02_Compare.f cmpI
  by_cases h1 : a < b
  · rw [if_pos h1, if_pos h1]
  · rw [if_neg h1, if_neg h1]
    by_cases h2 : a > b
    · rw [if_pos h2, if_pos h2]
    · rw [if_neg h2, if_neg h2]
end Mo
end Go.Proofs.YtgabkgomjdlgnaaDoor
