import Derived.Test.YtgabkgomjdlgnaaDoorMonCm
import Derived.Test.YtgabkgomjdlgnaaDoorMonRo
import Derived.Deep.DeepCutAuto
import Derived.Deep.Cut
namespace Go.Proofs.YtgabkgomjdlgnaaDoor
open Go.RowKit Go.Lib
set_option linter.unusedVariables false
set_option linter.unusedSimpArgs false

/-- what is asked of the sort's order: whatever the row holds, numbers below n are compared by their keys -/
def CmpOk (w0 : World) (g n cr : Nat) (R : Nat → Nat) : Prop := ∀ w x y, x < n → y < n → Keep (fun i => i = g) w0 w →
  Calls Tryd.prog 45 #[.int .i64 (x : Int), .int .i64 (y : Int), .pointer (some ⟨cr, 0, none⟩)] w fun e w' => e = .returned (.int .i64 (St.sg (R y) (R x))) ∧ ∃ q, w' = w.drewN q
/-- what a merge leaves -/
def Merged (w0 : World) (g n : Nat) (R f : Nat → Nat) (a b : Nat) (e : Ending) (w' : World) : Prop :=
  e = .returned (.tuple #[]) ∧ ∃ f', Row w0 w' g n f' ∧ St.Srt R f' a b ∧ St.Sub f f' a b

theorem St.shl_self (f : Nat → Nat) (a : Nat) : St.shl f a a = f := by
  funext x
  unfold St.shl
  by_cases h : x < a
  · rw [if_pos h]
  · rw [if_neg h, if_neg h]
    by_cases h2 : x = a
    · rw [if_pos h2, h2]
    · rw [if_neg h2]
theorem St.shl_step (f : Nat → Nat) (a k : Nat) (h : a ≤ k) : St.sw (St.shl f a k) k (k + 1) = St.shl f a (k + 1) := by
  funext x
  unfold St.sw St.shl
  by_cases h1 : x = k
  · subst h1
    rw [if_pos rfl, if_neg (by omega), if_neg (by omega), if_neg (by omega), if_neg (show ¬ x < a by omega), if_pos (by omega)]
  · rw [if_neg h1]
    by_cases h2 : x = k + 1
    · subst h2
      rw [if_pos rfl, if_neg (by omega), if_neg (by omega), if_pos rfl, if_neg (by omega), if_neg (by omega), if_pos rfl]
    · rw [if_neg h2]
      by_cases h3 : x < a
      · rw [if_pos h3, if_pos h3]
      · rw [if_neg h3, if_neg h3]
        by_cases h4 : x < k
        · rw [if_pos h4, if_pos (by omega)]
        · rw [if_neg h4, if_neg h1, if_neg (by omega), if_neg h2]
set_option maxHeartbeats 1000000 in
set_option maxRecDepth 100000 in
theorem merge_left (w0 : World) (g n c cr a b : Nat) (R f : Nat → Nat) (w : World) (hn : n < 4611686018427387904) (hR : Row w0 w g n f) (hC : CmpOk w0 g n cr R) (hf : ∀ i, i < n → f i < n)
    (h2 : a + 1 < b) (h3 : b ≤ n) (s2 : St.Srt R f (a + 1) b) (st : St.Stb R f a b) :
    Calls Tryd.prog 82 #[.slice (some ⟨g, 0, none⟩) n c, .int .i64 a, .int .i64 ((a : Int) + 1), .int .i64 b, .func (.func 45) #[] #[.pointer (some ⟨cr, 0, none⟩)]] w (Merged w0 g n R f a b) := by
  have HR := Lib.hid hR
  have HC := Lib.hid hC
  have HF := Lib.hid hf
  have HS := Lib.hid (And.intro s2 st)
  clear hR hC hf s2 st
  have k1 : IntKind.i64.wrap ((a : Int) + 1) = (a : Int) + 1 := IntWalk.i64_in _ (by omega)
  have k2 : IntKind.i64.wrap ((a : Int) + 1 - a) = 1 := by rw [show (a : Int) + 1 - a = 1 by omega]; rfl
  have d0 : (((a : Int) + 1 - a) == 1) = true := by rw [show (a : Int) + 1 - a = 1 by omega]; rfl
  go_enter Tryd.func82, Tryd.ntmps82
  go_wp2
  clear k2 d0
  go_loopw [10, 11] (fun v u wr => ∃ (i j : Nat), a + 1 ≤ i ∧ i ≤ j ∧ j ≤ b ∧ v = .int .i64 i ∧ u = .int .i64 j ∧ Row w0 wr g n f ∧ (∀ h, a + 1 ≤ h → h < i → St.Lt R (f h) (f a)) ∧ (∀ h, j ≤ h → h < b → St.Lt R (f a) (f h))) (fun v u _ => (intOf u).toNat - (intOf v).toNat)
  case atStart => exact ⟨a + 1, b, Nat.le_refl _, by omega, Nat.le_refl _, by go_num, rfl, HR.out, fun h k1 k2 => by omega, fun h k1 k2 => by omega⟩
  case round =>
    obtain ⟨i, j, hi, hij, hj, rfl, rfl, hr, hlo, hhi⟩ := hrel
    have HR2 := Lib.hid hr
    have HLO := Lib.hid hlo
    have HHI := Lib.hid hhi
    clear hr HR hlo hhi
    by_cases hlt : i < j
    · have q1 : IntKind.i64.wrap ((i : Int) + j) = (i : Int) + j := IntWalk.i64_in _ (by omega)
      have q2 : IntKind.u64.wrap ((i : Int) + j) = (i : Int) + j := by rw [IntKind.wrap_u64]; omega
      go_upto_region 5 with (fail)
      have e : ((i : Int) + j) / 2 = (((i + j) / 2 : Nat) : Int) := by omega
      have eh := Lib.hid (show i ≤ (i + j) / 2 ∧ (i + j) / 2 < j by omega)
      generalize (i + j) / 2 = h at *
      rw [e]
      clear e q1 q2
      have z1 : (0 : Int) ≤ (h : Int) := by omega
      have z2 : (h : Int) < n := by have := eh.out; omega
      have z3 : (0 : Int) ≤ (a : Int) := by omega
      have z4 : (a : Int) < n := by omega
      have c1 := HR2.out.cell h (by omega)
      have c2 := HR2.out.cell a (by omega)
      have hc := fun q => HC.out (wr.drewN q) (f h) (f a) (HF.out h (by omega)) (HF.out a (by omega)) (HR2.out.keep.drewN q)
      have hsg := St.sg_neg (R (f a)) (R (f h))
      have hst := St.Stb.no HS.out.2 (Nat.le_refl a) (show a < h by have := eh.out; omega) (by have := eh.out; omega)
      generalize hcv : St.sg (R (f a)) (R (f h)) = cv at hc hsg
      have HCC := Lib.hid hc
      clear hc hcv
      by_cases hk : R (f a) < R (f h)
      · rw [decide_eq_true (show (R (f a) : Int) < R (f h) by omega)] at hsg
        have hl := Lib.hid (St.Lt.of hk)
        clear hk hst
        go_quiet ((go_at_call 45; exact Calls.quiet_of (HCC.out _)))
        go_wp2
        go_roundw
        case rel =>
          refine ⟨h + 1, j, by have := eh.out; omega, by have := eh.out; omega, hj, by go_num, rfl, HR2.out.drewN _, fun x x1 x2 => ?_, HHI.out⟩
          have := eh.out
          by_cases hx : x = h
          · rw [hx]; exact hl.out
          · exact (HS.out.1 x h x1 (by omega) (by omega)).trans hl.out
        case measure => have := eh.out; simp [intOf]; omega
      · rw [decide_eq_false (show ¬ (R (f a) : Int) < R (f h) by omega)] at hsg
        have hl := Lib.hid (hst hk)
        clear hk hst
        go_quiet ((go_at_call 45; exact Calls.quiet_of (HCC.out _)))
        go_wp2
        go_roundw
        case rel =>
          refine ⟨i, h, hi, by have := eh.out; omega, by have := eh.out; omega, rfl, rfl, HR2.out.drewN _, HLO.out, fun x x1 x2 => ?_⟩
          have := eh.out
          by_cases hx : x = h
          · rw [hx]; exact hl.out
          · exact hl.out.trans (HS.out.1 h x (by omega) (by omega) x2)
        case measure => have := eh.out; simp [intOf]; omega
    · obtain rfl : i = j := by omega
      have HM := Lib.hid (St.one_left HS.out.1 hi hj HLO.out HHI.out)
      have HU := Lib.hid (St.shl_sub f a (i - 1) b (by omega) (by omega))
      clear HLO HHI HS HC HF
      have q1 : IntKind.i64.wrap ((i : Int) - 1) = (i : Int) - 1 := IntWalk.i64_in _ (by omega)
      go_wp2
      go_loopw [13] (fun v wr2 => ∃ k : Nat, a ≤ k ∧ k ≤ i - 1 ∧ v = .int .i64 k ∧ Row w0 wr2 g n (St.shl f a k)) (fun v _ => i - (intOf v).toNat)
      case atStart => exact ⟨a, Nat.le_refl _, by omega, rfl, HR2.out.congr (St.shl_self f a)⟩
      case round =>
        obtain ⟨k, hk1, hk2, rfl, hr⟩ := hrel
        by_cases hlt2 : k < i - 1
        · have z0 : (k : Int) < (i : Int) - 1 := by omega
          have q2 : IntKind.i64.wrap ((k : Int) + 1) = (k : Int) + 1 := IntWalk.i64_in _ (by omega)
          have z1 : (0 : Int) ≤ (k : Int) := by omega
          have z2 : (k : Int) < n := by omega
          have z3 : (0 : Int) ≤ (k : Int) + 1 := by omega
          have z4 : (k : Int) + 1 < n := by omega
          have t1 : ((k : Int) + 1).toNat = k + 1 := by omega
          have c1 := hr.cell k (by omega)
          have c2 := hr.cell (k + 1) (by omega)
          have f1 := hr.free k (by omega)
          have f2 := hr.free (k + 1) (by omega)
          have hs := hr.swap k (k + 1) (by omega) (by omega) (by omega)
          have HS := Lib.hid hs
          clear hs hr HR2
          generalize St.shl f a k k = x at *
          generalize St.shl f a k (k + 1) = y at *
          obtain ⟨k1, hk1⟩ : ∃ k1, k1 = k + 1 := ⟨_, rfl⟩
          rw [← hk1] at c2 f2 t1
          have HK1 := Lib.hid hk1
          clear hk1
          go_wp2
          go_big_region
          all_goals go_wp2
          go_roundw
          case rel => exact ⟨k + 1, by omega, by omega, by go_num, (by have := HS.out; rw [← HK1.out] at this ⊢; exact this.congr (by rw [HK1.out]; exact (St.shl_step f a k (by omega)).symm))⟩
          case measure => simp [intOf]; omega
        · obtain rfl : k = i - 1 := by omega
          have HR3 := Lib.hid hr
          clear hr
          have z0 : ¬ (((i - 1 : Nat) : Int) < (i : Int) - 1) := by omega
          go_wp2
          go_end0
          exact ⟨rfl, _, HR3.out, HM.out, HU.out⟩
end Go.Proofs.YtgabkgomjdlgnaaDoor
