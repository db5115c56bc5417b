import Derived.Test.YtpcmhlbhepickaaGreatProg
import Derived.Test.YtpcmhlbhepickaaGreatShelf
import Derived.WalkKit
import Derived.WideLaws
import Derived.Below
import Derived.Lib.Hide
namespace Go.Proofs.YtpcmhlbhepickaaGreat
open Go.Shelf Go.RowKit Go.Lib

/-! The plain functions. -/
namespace Sy
def smallN (c : Nat) : Bool := decide (97 ≤ c) && decide (c ≤ 122)
def bigN (c : Nat) : Bool := decide (65 ≤ c) && decide (c ≤ 90)
def restN (c : Nat) : Bool := (decide (48 ≤ c) && decide (c ≤ 57)) || decide (c = 95)
def nameP (r : Nat) : Bool := decide (122 < r) || (!smallN (r % 256) && !restN (r % 256))
def varP (r : Nat) : Bool := decide (122 < r) || (!smallN (r % 256) && !bigN (r % 256) && !restN (r % 256))
def headB (f : Nat → Bool) (s : ByteArray) : Bool := if h : 0 < s.size then f s[0].toNat else false
def nameB (s : ByteArray) : Bool := headB smallN s && decide (s.size ≤ 32) && decide (Lib.idxFunc nameP true s < 0)
def varB (s : ByteArray) : Bool := headB bigN s && decide (s.size ≤ 32) && decide (Lib.idxFunc varP true s < 0)
end Sy

theorem small_calls (c : Nat) (w : World) (h : c < 256) : Calls Tryz.prog 134 #[.int .u8 c] w fun e w' => e = .returned (.bool (Sy.smallN c)) ∧ w = w' := by
  by_cases h1 : 97 ≤ c <;> by_cases h2 : c ≤ 122
  all_goals
    have z1 : (97 : Int) ≤ (c : Int) ↔ 97 ≤ c := by omega
    have z2 : (c : Int) ≤ 122 ↔ c ≤ 122 := by omega
    go_enter Tryz.func134, Tryz.ntmps134
    go_wp2
    all_goals first | (exfalso; omega) | (go_ret; exact ⟨by simp [Sy.smallN, h1, h2], rfl⟩)

theorem big_calls (c : Nat) (w : World) (h : c < 256) : Calls Tryz.prog 155 #[.int .u8 c] w fun e w' => e = .returned (.bool (Sy.bigN c)) ∧ w = w' := by
  by_cases h1 : 65 ≤ c <;> by_cases h2 : c ≤ 90
  all_goals
    have z1 : (65 : Int) ≤ (c : Int) ↔ 65 ≤ c := by omega
    have z2 : (c : Int) ≤ 90 ↔ c ≤ 90 := by omega
    go_enter Tryz.func155, Tryz.ntmps155
    go_wp2
    all_goals first | (exfalso; omega) | (go_ret; exact ⟨by simp [Sy.bigN, h1, h2], rfl⟩)

theorem rest_calls (c : Nat) (w : World) (h : c < 256) : Calls Tryz.prog 137 #[.int .u8 c] w fun e w' => e = .returned (.bool (Sy.restN c)) ∧ w = w' := by
  by_cases h1 : 48 ≤ c <;> by_cases h2 : c ≤ 57 <;> by_cases h3 : c = 95
  all_goals
    have z1 : (48 : Int) ≤ (c : Int) ↔ 48 ≤ c := by omega
    have z2 : (c : Int) ≤ 57 ↔ c ≤ 57 := by omega
    have z3 : ((c : Int) == 95) = decide (c = 95) := by rw [Bool.eq_iff_iff]; simp; omega
    simp only [h3, decide_true, decide_false] at z3
    go_enter Tryz.func137, Tryz.ntmps137
    go_wp2
    all_goals first | (exfalso; omega) | (go_ret; exact ⟨by simp [Sy.restN, h1, h2, h3], rfl⟩)

theorem name1_pred (w : World) : PredAt Tryz.prog 136 #[] encR Sy.nameP w := fun W r _ => by
  unfold FnGives
  by_cases h1 : 122 < r
  · have z1 : (122 : Int) < (r : Int) := by omega
    go_enter Tryz.func136, Tryz.ntmps136
    go_wp2_with fail
    go_ret
    exact ⟨by simp [Sy.nameP, h1], 0, rfl⟩
  · have z1 : ¬ (122 : Int) < (r : Int) := by omega
    have z2 : (r : Int) ≤ 122 := by omega
    have hm : r % 256 = r := by omega
    cases hs : Sy.smallN r
    · cases ht : Sy.restN r
      all_goals
        have hsC := small_calls r
        have htC := rest_calls r
        rw [hs] at hsC
        rw [ht] at htC
        have HS := Lib.hid hsC
        have HT := Lib.hid htC
        have hfin : Sy.nameP r = !(Sy.restN r) := by simp [Sy.nameP, h1, hm, hs]
        rw [ht] at hfin
        have HF := Lib.hid hfin
        clear hsC htC hs ht hm hfin
        go_enter Tryz.func136, Tryz.ntmps136
        go_wp2_with (first | (go_at_call 134; refine (HS.out _ (by omega)).mono ?_; rintro e w' ⟨rfl, rfl⟩) | (go_at_call 137; refine (HT.out _ (by omega)).mono ?_; rintro e w' ⟨rfl, rfl⟩))
        go_ret
        exact ⟨by rw [HF.out]; rfl, 0, rfl⟩
    · have hsC := small_calls r
      rw [hs] at hsC
      have HS := Lib.hid hsC
      have hfin : Sy.nameP r = false := by simp [Sy.nameP, h1, hm, hs]
      have HF := Lib.hid hfin
      clear hsC hs hm hfin
      go_enter Tryz.func136, Tryz.ntmps136
      go_wp2_with (first | (go_at_call 134; refine (HS.out _ (by omega)).mono ?_; rintro e w' ⟨rfl, rfl⟩))
      go_ret
      exact ⟨by rw [HF.out]; rfl, 0, rfl⟩

theorem var1_pred (w : World) : PredAt Tryz.prog 156 #[] encR Sy.varP w := fun W r _ => by
  unfold FnGives
  by_cases h1 : 122 < r
  · have z1 : (122 : Int) < (r : Int) := by omega
    go_enter Tryz.func156, Tryz.ntmps156
    go_wp2_with fail
    go_ret
    exact ⟨by simp [Sy.varP, h1], 0, rfl⟩
  · have z1 : ¬ (122 : Int) < (r : Int) := by omega
    have z2 : (r : Int) ≤ 122 := by omega
    have hm : r % 256 = r := by omega
    cases hs : Sy.smallN r <;> cases hb : Sy.bigN r <;> cases ht : Sy.restN r
    all_goals
      have hsC := small_calls r
      have hbC := big_calls r
      have htC := rest_calls r
      have hfin : Sy.varP r = (!(Sy.smallN r) && !(Sy.bigN r) && !(Sy.restN r)) := by simp [Sy.varP, h1, hm]
      rw [hs] at hsC
      rw [hb] at hbC
      rw [ht] at htC
      rw [hs, hb, ht] at hfin
      have HS := Lib.hid hsC
      have HB := Lib.hid hbC
      have HT := Lib.hid htC
      have HF := Lib.hid hfin
      clear hsC hbC htC hs hb ht hm hfin
      go_enter Tryz.func156, Tryz.ntmps156
      go_wp2_with (first | (go_at_call 134; refine (HS.out _ (by omega)).mono ?_; rintro e w' ⟨rfl, rfl⟩) | (go_at_call 155; refine (HB.out _ (by omega)).mono ?_; rintro e w' ⟨rfl, rfl⟩) | (go_at_call 137; refine (HT.out _ (by omega)).mono ?_; rintro e w' ⟨rfl, rfl⟩))
      go_ret
      exact ⟨by rw [HF.out]; rfl, 0, rfl⟩


set_option maxHeartbeats 1000000 in
theorem isName_calls (s : ByteArray) (w : World) : Calls Tryz.prog 120 #[.string s] w fun e w' => e = .returned (.bool (Sy.nameB s)) ∧ Below w.heap.size w w' := by
  by_cases h0 : s.size = 0
  · have hl : s.toList = ([] : List UInt8) := by
      rw [Lib.toList_data]
      exact List.eq_nil_of_length_eq_zero (show s.data.toList.length = 0 from h0)
    have c0 : (s.toList == ([] : List UInt8)) = true := beq_iff_eq.mpr hl
    have c1 : (s.toList != ([] : List UInt8)) = false := bne_eq_false_iff_eq.mpr hl
    have hfin : Sy.nameB s = false := by simp [Sy.nameB, Sy.headB, h0]
    have HF := Lib.hid hfin
    clear hl hfin h0
    go_enter Tryz.func120, Tryz.ntmps120
    go_wp2_with fail
    go_ret
    exact ⟨by rw [HF.out]; rfl, Below.refl _ _⟩
  · have hl : ¬ s.toList = ([] : List UInt8) := fun h => h0 (by rw [Lib.toList_data] at h; exact (show s.data.toList.length = 0 by rw [h]; rfl))
    have c0 : (s.toList == ([] : List UInt8)) = false := beq_eq_false_iff_ne.mpr hl
    have c1 : (s.toList != ([] : List UInt8)) = true := bne_iff_ne.mpr hl
    clear hl
    by_cases h32 : 32 < s.size
    · have d0 : decide (32 < (s.size : Int)) = true := decide_eq_true (by omega)
      have d1 : decide (32 < s.size) = true := decide_eq_true (by omega)
      have hfin : Sy.nameB s = false := by simp [Sy.nameB, show ¬ s.size ≤ 32 by omega]
      have HF := Lib.hid hfin
      clear hfin h0 h32
      go_enter Tryz.func120, Tryz.ntmps120
      go_wp2_with fail
      go_ret
      exact ⟨by rw [HF.out]; rfl, Below.refl _ _⟩
    · have d0 : decide (32 < (s.size : Int)) = false := decide_eq_false (by omega)
      have d1 : decide (32 < s.size) = false := decide_eq_false (by omega)
      have hp : 0 < s.size := by omega
      have hp' : (0 : Int) < (s.size : Int) := by omega
      obtain ⟨x, hx, hxl⟩ : ∃ x : Nat, (s[0]'hp).toNat = x ∧ x < 256 := ⟨_, rfl, (s[0]'hp).toNat_lt⟩
      have hx6 : ∀ h : 0 < s.size, ((s[0]'h).toNat : Int) = (x : Int) := fun _ => by rw [← hx]
      have hhead : Sy.headB Sy.smallN s = Sy.smallN x := by simp [Sy.headB, hp, hx]
      have hC := small_calls x
      have hI := fun w => Tryz.strings_IndexFunc 136 #[] (enters_of Tryz.func136 (by kernel_rfl) rfl) Sy.nameP s w (name1_pred w)
      obtain ⟨I, hIe⟩ : ∃ I, Lib.idxFunc Sy.nameP true s = I := ⟨_, rfl⟩
      rw [hIe] at hI
      have hfin : Sy.nameB s = (Sy.smallN x && decide (I < 0)) := by rw [Sy.nameB, hhead, hIe]; simp [show s.size ≤ 32 by omega]
      have HI := Lib.hid hI
      clear hI hhead hx h0 h32 hIe
      cases hb : Sy.smallN x
      · rw [hb] at hC hfin
        have HC := Lib.hid hC
        have HF := Lib.hid hfin
        clear hC hfin hb
        go_enter Tryz.func120, Tryz.ntmps120
        go_wp2_with (first | (go_at_call 134; refine (HC.out _ (by omega)).mono ?_; rintro e w' ⟨rfl, rfl⟩))
        go_ret
        exact ⟨by rw [HF.out]; rfl, Below.refl _ _⟩
      · rw [hb] at hC hfin
        have HC := Lib.hid hC
        have HF := Lib.hid hfin
        clear hC hfin hb
        go_enter Tryz.func120, Tryz.ntmps120
        go_wp2_with (first | (go_at_call 134; refine (HC.out _ (by omega)).mono ?_; rintro e w' ⟨rfl, rfl⟩) | (go_at_call 135; refine (HI.out _).mono ?_; rintro e w' ⟨rfl, hb⟩))
        go_ret
        exact ⟨by rw [HF.out]; rfl, hb⟩

set_option maxHeartbeats 1000000 in
theorem isVar_calls (s : ByteArray) (w : World) : Calls Tryz.prog 152 #[.string s] w fun e w' => e = .returned (.bool (Sy.varB s)) ∧ Below w.heap.size w w' := by
  by_cases h0 : s.size = 0
  · have hl : s.toList = ([] : List UInt8) := by
      rw [Lib.toList_data]
      exact List.eq_nil_of_length_eq_zero (show s.data.toList.length = 0 from h0)
    have c0 : (s.toList == ([] : List UInt8)) = true := beq_iff_eq.mpr hl
    have c1 : (s.toList != ([] : List UInt8)) = false := bne_eq_false_iff_eq.mpr hl
    have hfin : Sy.varB s = false := by simp [Sy.varB, Sy.headB, h0]
    have HF := Lib.hid hfin
    clear hl hfin h0
    go_enter Tryz.func152, Tryz.ntmps152
    go_wp2_with fail
    go_ret
    exact ⟨by rw [HF.out]; rfl, Below.refl _ _⟩
  · have hl : ¬ s.toList = ([] : List UInt8) := fun h => h0 (by rw [Lib.toList_data] at h; exact (show s.data.toList.length = 0 by rw [h]; rfl))
    have c0 : (s.toList == ([] : List UInt8)) = false := beq_eq_false_iff_ne.mpr hl
    have c1 : (s.toList != ([] : List UInt8)) = true := bne_iff_ne.mpr hl
    clear hl
    by_cases h32 : 32 < s.size
    · have d0 : decide (32 < (s.size : Int)) = true := decide_eq_true (by omega)
      have d1 : decide (32 < s.size) = true := decide_eq_true (by omega)
      have hfin : Sy.varB s = false := by simp [Sy.varB, show ¬ s.size ≤ 32 by omega]
      have HF := Lib.hid hfin
      clear hfin h0 h32
      go_enter Tryz.func152, Tryz.ntmps152
      go_wp2_with fail
      go_ret
      exact ⟨by rw [HF.out]; rfl, Below.refl _ _⟩
    · have d0 : decide (32 < (s.size : Int)) = false := decide_eq_false (by omega)
      have d1 : decide (32 < s.size) = false := decide_eq_false (by omega)
      have hp : 0 < s.size := by omega
      have hp' : (0 : Int) < (s.size : Int) := by omega
      obtain ⟨x, hx, hxl⟩ : ∃ x : Nat, (s[0]'hp).toNat = x ∧ x < 256 := ⟨_, rfl, (s[0]'hp).toNat_lt⟩
      have hx6 : ∀ h : 0 < s.size, ((s[0]'h).toNat : Int) = (x : Int) := fun _ => by rw [← hx]
      have hhead : Sy.headB Sy.bigN s = Sy.bigN x := by simp [Sy.headB, hp, hx]
      have hC := big_calls x
      have hI := fun w => Tryz.strings_IndexFunc 156 #[] (enters_of Tryz.func156 (by kernel_rfl) rfl) Sy.varP s w (var1_pred w)
      obtain ⟨I, hIe⟩ : ∃ I, Lib.idxFunc Sy.varP true s = I := ⟨_, rfl⟩
      rw [hIe] at hI
      have hfin : Sy.varB s = (Sy.bigN x && decide (I < 0)) := by rw [Sy.varB, hhead, hIe]; simp [show s.size ≤ 32 by omega]
      have HI := Lib.hid hI
      clear hI hhead hx h0 h32 hIe
      cases hb : Sy.bigN x
      · rw [hb] at hC hfin
        have HC := Lib.hid hC
        have HF := Lib.hid hfin
        clear hC hfin hb
        go_enter Tryz.func152, Tryz.ntmps152
        go_wp2_with (first | (go_at_call 155; refine (HC.out _ (by omega)).mono ?_; rintro e w' ⟨rfl, rfl⟩))
        go_ret
        exact ⟨by rw [HF.out]; rfl, Below.refl _ _⟩
      · rw [hb] at hC hfin
        have HC := Lib.hid hC
        have HF := Lib.hid hfin
        clear hC hfin hb
        go_enter Tryz.func152, Tryz.ntmps152
        go_wp2_with (first | (go_at_call 155; refine (HC.out _ (by omega)).mono ?_; rintro e w' ⟨rfl, rfl⟩) | (go_at_call 135; refine (HI.out _).mono ?_; rintro e w' ⟨rfl, hb⟩))
        go_ret
        exact ⟨by rw [HF.out]; rfl, hb⟩

end Go.Proofs.YtpcmhlbhepickaaGreat
