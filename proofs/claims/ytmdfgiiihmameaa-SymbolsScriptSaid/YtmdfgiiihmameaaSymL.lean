import Derived.Test.YtmdfgiiihmameaaSymK
import Derived.LoopTactic
namespace Go.Proofs.Ytmdfgiiihmameaa
open Go.Shelf Go.RowKit Go.Lib
set_option linter.unusedVariables false
set_option linter.unusedSimpArgs false

theorem rsmall_calls (c : Nat) (w : World) (h : c < 256) : Calls Try.prog 31 #[.int .u8 c] w fun e w' => e = .returned (.bool (Sy.smallN c)) ∧ w = w' := by
  by_cases h1 : 97 ≤ c <;> by_cases h2 : c ≤ 122
  all_goals
    have z1 : (97 : Int) ≤ (c : Int) ↔ 97 ≤ c := by omega
    have z2 : (c : Int) ≤ 122 ↔ c ≤ 122 := by omega
    go_enter Try.func31, Try.ntmps31
    go_wp2
    all_goals first | (exfalso; omega) | (go_ret; exact ⟨by simp [Sy.smallN, h1, h2], rfl⟩)

theorem rcapital_calls (c : Nat) (w : World) (h : c < 256) : Calls Try.prog 35 #[.int .u8 c] w fun e w' => e = .returned (.bool (Sy.bigN c)) ∧ w = w' := by
  by_cases h1 : 65 ≤ c <;> by_cases h2 : c ≤ 90
  all_goals
    have z1 : (65 : Int) ≤ (c : Int) ↔ 65 ≤ c := by omega
    have z2 : (c : Int) ≤ 90 ↔ c ≤ 90 := by omega
    go_enter Try.func35, Try.ntmps35
    go_wp2
    all_goals first | (exfalso; omega) | (go_ret; exact ⟨by simp [Sy.bigN, h1, h2], rfl⟩)

theorem rrest_calls (c : Nat) (w : World) (hc : c < 256) : Calls Try.prog 32 #[.int .u8 c] w fun e w' => e = .returned (.bool (Sy.okN c)) ∧ w = w' := by
  have hC := rsmall_calls c
  have hfin : Sy.okN c = (Sy.smallN c || ((decide (48 ≤ c) && decide (c ≤ 57)) || decide (c = 95))) := rfl
  have t95 : ((c : Int) == 95) = decide (c = 95) := by rw [Bool.eq_iff_iff]; simp; omega
  cases h4 : Sy.smallN c
  · rw [h4] at hC hfin
    have HC := Lib.hid hC
    clear hC h4
    by_cases h1 : 48 ≤ c
    · have z1 : decide ((48 : Int) ≤ (c : Int)) = true := decide_eq_true (by omega)
      by_cases h2 : c ≤ 57
      · have z2 : decide ((c : Int) ≤ 57) = true := decide_eq_true (by omega)
        have HF := Lib.hid (hfin.trans (by simp [h1, h2]) : Sy.okN c = true)
        clear hfin t95 h1 h2
        go_enter Try.func32, Try.ntmps32
        go_wp2_with (first | (go_at_call 31; refine (HC.out _ hc).mono ?_; rintro e w' ⟨rfl, rfl⟩))
        go_ret
        exact ⟨by rw [HF.out]; rfl, rfl⟩
      · have z2 : decide ((c : Int) ≤ 57) = false := decide_eq_false (by omega)
        have HF := Lib.hid (hfin.trans (by simp [h2]) : Sy.okN c = decide (c = 95))
        clear hfin h1 h2
        generalize decide (c = 95) = q at *
        go_enter Try.func32, Try.ntmps32
        go_wp2_with (first | (go_at_call 31; refine (HC.out _ hc).mono ?_; rintro e w' ⟨rfl, rfl⟩))
        go_ret
        exact ⟨by rw [HF.out]; rfl, rfl⟩
    · have z1 : decide ((48 : Int) ≤ (c : Int)) = false := decide_eq_false (by omega)
      have HF := Lib.hid (hfin.trans (by simp [h1]) : Sy.okN c = decide (c = 95))
      clear hfin h1
      generalize decide (c = 95) = q at *
      go_enter Try.func32, Try.ntmps32
      go_wp2_with (first | (go_at_call 31; refine (HC.out _ hc).mono ?_; rintro e w' ⟨rfl, rfl⟩))
      go_ret
      exact ⟨by rw [HF.out]; rfl, rfl⟩
  · rw [h4] at hC hfin
    have HC := Lib.hid hC
    have HF := Lib.hid (hfin.trans (by simp) : Sy.okN c = true)
    clear hC h4 hfin t95
    go_enter Try.func32, Try.ntmps32
    go_wp2_with (first | (go_at_call 31; refine (HC.out _ hc).mono ?_; rintro e w' ⟨rfl, rfl⟩))
    go_ret
    exact ⟨by rw [HF.out]; rfl, rfl⟩

set_option maxHeartbeats 1000000 in
theorem rIsName_calls (s : ByteArray) (w : World) (hsz : s.size ≤ 9223372036854775807) : Calls Try.prog 10 #[.string s] w fun e w' => e = .returned (.bool (Sy.refB Sy.smallN Sy.okN s)) ∧ w = w' := by
  by_cases h0 : s.size = 0
  · have hl : s.toList = ([] : List UInt8) := by
      rw [Lib.toList_data]
      exact List.eq_nil_of_length_eq_zero (show s.data.toList.length = 0 from h0)
    have c0 : (s.toList == ([] : List UInt8)) = true := beq_iff_eq.mpr hl
    have c1 : (s.toList != ([] : List UInt8)) = false := bne_eq_false_iff_eq.mpr hl
    have hfin : Sy.refB Sy.smallN Sy.okN s = false := by simp [Sy.refB, Sy.headB, h0]
    have HF := Lib.hid hfin
    clear hl hfin h0
    go_enter Try.func10, Try.ntmps10
    go_wp2_with fail
    go_ret
    exact ⟨by rw [HF.out]; rfl, rfl⟩
  · have hl : ¬ s.toList = ([] : List UInt8) := fun h => h0 (by rw [Lib.toList_data] at h; exact (show s.data.toList.length = 0 by rw [h]; rfl))
    have c0 : (s.toList == ([] : List UInt8)) = false := beq_eq_false_iff_ne.mpr hl
    have c1 : (s.toList != ([] : List UInt8)) = true := bne_iff_ne.mpr hl
    clear hl
    by_cases h32 : 32 < s.size
    · have d0 : decide (32 < (s.size : Int)) = true := decide_eq_true (by omega)
      have d1 : decide (32 < s.size) = true := decide_eq_true (by omega)
      have hfin : Sy.refB Sy.smallN Sy.okN s = false := by simp [Sy.refB, show ¬ s.size ≤ 32 by omega]
      have HF := Lib.hid hfin
      clear hfin h0 h32
      go_enter Try.func10, Try.ntmps10
      go_wp2_with fail
      go_ret
      exact ⟨by rw [HF.out]; rfl, rfl⟩
    · have d0 : decide (32 < (s.size : Int)) = false := decide_eq_false (by omega)
      have d1 : decide (32 < s.size) = false := decide_eq_false (by omega)
      have hp : 0 < s.size := by omega
      have hp' : (0 : Int) < (s.size : Int) := by omega
      obtain ⟨x, hx, hxl⟩ : ∃ x : Nat, (s[0]'hp).toNat = x ∧ x < 256 := ⟨_, rfl, (s[0]'hp).toNat_lt⟩
      have hx6 : ∀ h : 0 < s.size, ((s[0]'h).toNat : Int) = (x : Int) := fun _ => by rw [← hx]
      have hhead : Sy.headB Sy.smallN s = Sy.smallN x := by simp [Sy.headB, hp, hx]
      have hC := rsmall_calls x
      have hfin : Sy.refB Sy.smallN Sy.okN s = (Sy.smallN x && Sy.allB Sy.okN s) := by rw [Sy.refB, hhead]; simp [show s.size ≤ 32 by omega]
      clear hhead hx h0
      cases hb : Sy.smallN x
      · rw [hb] at hC hfin
        have HC := Lib.hid hC
        have HF := Lib.hid hfin
        clear hC hfin hb h32
        go_enter Try.func10, Try.ntmps10
        go_wp2_with (first | (go_at_call 31; refine (HC.out _ (by omega)).mono ?_; rintro e w' ⟨rfl, rfl⟩))
        go_ret
        exact ⟨by rw [HF.out]; rfl, rfl⟩
      · rw [hb] at hC hfin
        have HC := Lib.hid hC
        have HF := Lib.hid hfin
        have H32 := Lib.hid h32
        clear hC hfin hb h32
        go_enter Try.func10, Try.ntmps10
        go_wp2_with (first | (go_at_call 31; refine (HC.out _ (by omega)).mono ?_; rintro e w' ⟨rfl, rfl⟩))
        go_loop [3] (fun v => ∃ k : Nat, 1 ≤ k ∧ k ≤ s.size ∧ v = .int .i64 k ∧ ∀ j (h : j < s.size), 1 ≤ j → j < k → Sy.okN s[j].toNat = true) (fun v => s.size - (intOf v).toNat)
        case atStart => exact ⟨1, Nat.le_refl _, hp, rfl, fun j h h1 h2 => by omega⟩
        case round =>
          obtain ⟨k, hk1, hk2, rfl, hall⟩ := hrel
          have HALL := Lib.hid hall
          clear hall
          by_cases hlt : k < s.size
          · have l1 : (k : Int) < s.size := by omega
            have l2 : (0 : Int) ≤ k := by omega
            obtain ⟨y, hy, hyl⟩ : ∃ y : Nat, (s[k]'hlt).toNat = y ∧ y < 256 := ⟨_, rfl, (s[k]'hlt).toNat_lt⟩
            have hy6 : ∀ h : k < s.size, ((s[k]'h).toNat : Int) = (y : Int) := fun _ => by rw [← hy]
            have HY := Lib.hid hy
            clear hy
            have hR := rrest_calls y
            cases hr : Sy.okN y
            · rw [hr] at hR
              have HR := Lib.hid hR
              have HK := Lib.hid hr
              clear hR hr
              go_wp2_with (first | (go_at_call 32; refine (HR.out _ (by omega)).mono ?_; rintro e w' ⟨rfl, rfl⟩))
              have hf : Sy.allB Sy.okN s = false := Sy.allB_no (fun g => by
                have := g k hlt hk1
                rw [HY.out, HK.out] at this; cases this)
              have HG := Lib.hid hf
              clear hf
              go_ret
              exact ⟨by rw [HF.out, HG.out]; rfl, rfl⟩
            · rw [hr] at hR
              have HR := Lib.hid hR
              have HK := Lib.hid hr
              clear hR hr
              go_wp2_with (first | (go_at_call 32; refine (HR.out _ (by omega)).mono ?_; rintro e w' ⟨rfl, rfl⟩))
              go_round
              case rel =>
                refine ⟨k + 1, by omega, by omega, by go_num, fun j h h1 h2 => ?_⟩
                by_cases e : j = k
                · subst e; rw [HY.out, HK.out]
                · exact HALL.out j h h1 (by omega)
              case measure => simp [intOf]; omega
          · have hf : Sy.allB Sy.okN s = true := Sy.allB_yes (fun j h h1 => HALL.out j h h1 (by omega))
            have HG := Lib.hid hf
            clear hf
            go_wp2
            go_ret
            exact ⟨by rw [HF.out, HG.out]; rfl, rfl⟩

set_option maxHeartbeats 1000000 in
theorem rIsVar_calls (s : ByteArray) (w : World) (hsz : s.size ≤ 9223372036854775807) : Calls Try.prog 12 #[.string s] w fun e w' => e = .returned (.bool (Sy.refB Sy.bigN Sy.okV s)) ∧ w = w' := by
  by_cases h0 : s.size = 0
  · have hl : s.toList = ([] : List UInt8) := by
      rw [Lib.toList_data]
      exact List.eq_nil_of_length_eq_zero (show s.data.toList.length = 0 from h0)
    have c0 : (s.toList == ([] : List UInt8)) = true := beq_iff_eq.mpr hl
    have c1 : (s.toList != ([] : List UInt8)) = false := bne_eq_false_iff_eq.mpr hl
    have hfin : Sy.refB Sy.bigN Sy.okV s = false := by simp [Sy.refB, Sy.headB, h0]
    have HF := Lib.hid hfin
    clear hl hfin h0
    go_enter Try.func12, Try.ntmps12
    go_wp2_with fail
    go_ret
    exact ⟨by rw [HF.out]; rfl, rfl⟩
  · have hl : ¬ s.toList = ([] : List UInt8) := fun h => h0 (by rw [Lib.toList_data] at h; exact (show s.data.toList.length = 0 by rw [h]; rfl))
    have c0 : (s.toList == ([] : List UInt8)) = false := beq_eq_false_iff_ne.mpr hl
    have c1 : (s.toList != ([] : List UInt8)) = true := bne_iff_ne.mpr hl
    clear hl
    by_cases h32 : 32 < s.size
    · have d0 : decide (32 < (s.size : Int)) = true := decide_eq_true (by omega)
      have d1 : decide (32 < s.size) = true := decide_eq_true (by omega)
      have hfin : Sy.refB Sy.bigN Sy.okV s = false := by simp [Sy.refB, show ¬ s.size ≤ 32 by omega]
      have HF := Lib.hid hfin
      clear hfin h0 h32
      go_enter Try.func12, Try.ntmps12
      go_wp2_with fail
      go_ret
      exact ⟨by rw [HF.out]; rfl, rfl⟩
    · have d0 : decide (32 < (s.size : Int)) = false := decide_eq_false (by omega)
      have d1 : decide (32 < s.size) = false := decide_eq_false (by omega)
      have hp : 0 < s.size := by omega
      have hp' : (0 : Int) < (s.size : Int) := by omega
      obtain ⟨x, hx, hxl⟩ : ∃ x : Nat, (s[0]'hp).toNat = x ∧ x < 256 := ⟨_, rfl, (s[0]'hp).toNat_lt⟩
      have hx6 : ∀ h : 0 < s.size, ((s[0]'h).toNat : Int) = (x : Int) := fun _ => by rw [← hx]
      have hhead : Sy.headB Sy.bigN s = Sy.bigN x := by simp [Sy.headB, hp, hx]
      have hC := rcapital_calls x
      have hfin : Sy.refB Sy.bigN Sy.okV s = (Sy.bigN x && Sy.allB Sy.okV s) := by rw [Sy.refB, hhead]; simp [show s.size ≤ 32 by omega]
      clear hhead hx h0
      cases hb : Sy.bigN x
      · rw [hb] at hC hfin
        have HC := Lib.hid hC
        have HF := Lib.hid hfin
        clear hC hfin hb h32
        go_enter Try.func12, Try.ntmps12
        go_wp2_with (first | (go_at_call 35; refine (HC.out _ (by omega)).mono ?_; rintro e w' ⟨rfl, rfl⟩))
        go_ret
        exact ⟨by rw [HF.out]; rfl, rfl⟩
      · rw [hb] at hC hfin
        have HC := Lib.hid hC
        have HF := Lib.hid hfin
        have H32 := Lib.hid h32
        clear hC hfin hb h32
        go_enter Try.func12, Try.ntmps12
        go_wp2_with (first | (go_at_call 35; refine (HC.out _ (by omega)).mono ?_; rintro e w' ⟨rfl, rfl⟩))
        go_loop [3] (fun v => ∃ k : Nat, 1 ≤ k ∧ k ≤ s.size ∧ v = .int .i64 k ∧ ∀ j (h : j < s.size), 1 ≤ j → j < k → Sy.okV s[j].toNat = true) (fun v => s.size - (intOf v).toNat)
        case atStart => exact ⟨1, Nat.le_refl _, hp, rfl, fun j h h1 h2 => by omega⟩
        case round =>
          obtain ⟨k, hk1, hk2, rfl, hall⟩ := hrel
          have HALL := Lib.hid hall
          clear hall
          by_cases hlt : k < s.size
          · have l1 : (k : Int) < s.size := by omega
            have l2 : (0 : Int) ≤ k := by omega
            obtain ⟨y, hy, hyl⟩ : ∃ y : Nat, (s[k]'hlt).toNat = y ∧ y < 256 := ⟨_, rfl, (s[k]'hlt).toNat_lt⟩
            have hy6 : ∀ h : k < s.size, ((s[k]'h).toNat : Int) = (y : Int) := fun _ => by rw [← hy]
            have HY := Lib.hid hy
            clear hy
            have hR := rrest_calls y
            have hB := rcapital_calls y
            cases hr : Sy.okN y <;> cases hb2 : Sy.bigN y
            · have hk : Sy.okV y = false := by unfold Sy.okN at hr; unfold Sy.okV; revert hr hb2; cases Sy.smallN y <;> cases Sy.restN y <;> simp_all
              rw [hr] at hR
              rw [hb2] at hB
              have HR := Lib.hid hR
              have HB := Lib.hid hB
              have HK := Lib.hid hk
              clear hR hr hB hb2 hk
              go_wp2_with (first | (go_at_call 32; refine (HR.out _ (by omega)).mono ?_; rintro e w' ⟨rfl, rfl⟩) | (go_at_call 35; refine (HB.out _ (by omega)).mono ?_; rintro e w' ⟨rfl, rfl⟩))
              have hf : Sy.allB Sy.okV s = false := Sy.allB_no (fun g => by
                have := g k hlt hk1
                rw [HY.out, HK.out] at this; cases this)
              have HG := Lib.hid hf
              clear hf
              go_ret
              exact ⟨by rw [HF.out, HG.out]; rfl, rfl⟩
            all_goals
              have hk : Sy.okV y = true := by unfold Sy.okN at hr; unfold Sy.okV; revert hr hb2; cases Sy.smallN y <;> cases Sy.restN y <;> simp_all
              rw [hr] at hR
              rw [hb2] at hB
              have HR := Lib.hid hR
              have HB := Lib.hid hB
              have HK := Lib.hid hk
              clear hR hr hB hb2 hk
              go_wp2_with (first | (go_at_call 32; refine (HR.out _ (by omega)).mono ?_; rintro e w' ⟨rfl, rfl⟩) | (go_at_call 35; refine (HB.out _ (by omega)).mono ?_; rintro e w' ⟨rfl, rfl⟩))
              go_round
              case rel =>
                refine ⟨k + 1, by omega, by omega, by go_num, fun j h h1 h2 => ?_⟩
                by_cases e : j = k
                · subst e; rw [HY.out, HK.out]
                · exact HALL.out j h h1 (by omega)
              case measure => simp [intOf]; omega
          · have hf : Sy.allB Sy.okV s = true := Sy.allB_yes (fun j h h1 => HALL.out j h h1 (by omega))
            have HG := Lib.hid hf
            clear hf
            go_wp2
            go_ret
            exact ⟨by rw [HF.out, HG.out]; rfl, rfl⟩

end Go.Proofs.Ytmdfgiiihmameaa
