import Derived.Test.YtgabkgomjdlgnaaDoorMonSa
namespace Go.Proofs.YtgabkgomjdlgnaaDoor
open Go.RowKit Go.Lib
set_option linter.unusedVariables false
set_option linter.unusedSimpArgs false

theorem St.shr_self (f : Nat → Nat) (m : Nat) : St.shr f m m = f := by
  funext x
  unfold St.shr
  by_cases h : x < m
  · rw [if_pos h]
  · rw [if_neg h]
    by_cases h2 : x = m
    · rw [if_pos h2, h2]
    · rw [if_neg h2, if_neg (by omega)]
theorem St.shr_step (f : Nat → Nat) (k m : Nat) (h : k < m) : St.sw (St.shr f (k + 1) m) (k + 1) k = St.shr f k m := by
  funext x
  unfold St.sw St.shr
  by_cases h1 : x = k + 1
  · subst h1
    rw [if_pos rfl, if_pos (by omega), if_neg (by omega), if_neg (by omega), if_pos (by omega)]; rfl
  · rw [if_neg h1]
    by_cases h2 : x = k
    · subst h2
      rw [if_pos rfl, if_neg (by omega), if_pos rfl, if_neg (by omega), if_pos rfl]
    · rw [if_neg h2]
      by_cases h3 : x < k
      · rw [if_pos (by omega), if_pos h3]
      · rw [if_neg (show ¬ x < k + 1 by omega), if_neg h1, if_neg h3, if_neg h2]
set_option maxHeartbeats 1000000 in
set_option maxRecDepth 100000 in
theorem merge_right (w0 : World) (g n c cr a m : Nat) (R f : Nat → Nat) (w : World) (hn : n < 4611686018427387904) (hR : Row w0 w g n f) (hC : CmpOk w0 g n cr R) (hf : ∀ i, i < n → f i < n)
    (h2 : a + 1 < m) (h3 : m + 1 ≤ n) (s2 : St.Srt R f a m) (st : St.Stb R f a (m + 1)) :
    Calls Tryd.prog 82 #[.slice (some ⟨g, 0, none⟩) n c, .int .i64 a, .int .i64 m, .int .i64 ((m : Int) + 1), .func (.func 45) #[] #[.pointer (some ⟨cr, 0, none⟩)]] w (Merged w0 g n R f a (m + 1)) := by
  have HR := Lib.hid hR
  have HC := Lib.hid hC
  have HF := Lib.hid hf
  have HS := Lib.hid (And.intro s2 st)
  clear hR hC hf s2 st
  have k2 : IntKind.i64.wrap ((m : Int) + 1 - m) = 1 := by rw [show (m : Int) + 1 - m = 1 by omega]; rfl
  have k3 : IntKind.i64.wrap ((m : Int) - a) = (m : Int) - a := IntWalk.i64_in _ (by omega)
  have d0 : (((m : Int) + 1 - m) == 1) = true := by rw [show (m : Int) + 1 - m = 1 by omega]; rfl
  have d1 : (((m : Int) - a) == 1) = false := by simp; omega
  go_enter Tryd.func82, Tryd.ntmps82
  go_wp2
  clear k2 d0 d1 k3
  go_loopw [14, 15] (fun v u wr => ∃ (i j : Nat), a ≤ i ∧ i ≤ j ∧ j ≤ m ∧ v = .int .i64 i ∧ u = .int .i64 j ∧ Row w0 wr g n f ∧ (∀ h, a ≤ h → h < i → St.Lt R (f h) (f m)) ∧ (∀ h, j ≤ h → h < m → St.Lt R (f m) (f h))) (fun v u _ => (intOf u).toNat - (intOf v).toNat)
  case atStart => exact ⟨a, m, Nat.le_refl _, by omega, Nat.le_refl _, rfl, rfl, HR.out, fun h k1 k2 => by omega, fun h k1 k2 => by omega⟩
  case round =>
    obtain ⟨i, j, hi, hij, hj, rfl, rfl, hr, hlo, hhi⟩ := hrel
    have HR2 := Lib.hid hr
    have HLO := Lib.hid hlo
    have HHI := Lib.hid hhi
    clear hr HR hlo hhi
    by_cases hlt : i < j
    · have q1 : IntKind.i64.wrap ((i : Int) + j) = (i : Int) + j := IntWalk.i64_in _ (by omega)
      have q2 : IntKind.u64.wrap ((i : Int) + j) = (i : Int) + j := by rw [IntKind.wrap_u64]; omega
      go_upto_region 17 with (fail)
      have e : ((i : Int) + j) / 2 = (((i + j) / 2 : Nat) : Int) := by omega
      have eh := Lib.hid (show i ≤ (i + j) / 2 ∧ (i + j) / 2 < j by omega)
      generalize (i + j) / 2 = h at *
      rw [e]
      clear e q1 q2
      have z1 : (0 : Int) ≤ (h : Int) := by omega
      have z2 : (h : Int) < n := by have := eh.out; omega
      have z3 : (0 : Int) ≤ (m : Int) := by omega
      have z4 : (m : Int) < n := by omega
      have c1 := HR2.out.cell h (by omega)
      have c2 := HR2.out.cell m (by omega)
      have hc := fun q => HC.out (wr.drewN q) (f m) (f h) (HF.out m (by omega)) (HF.out h (by omega)) (HR2.out.keep.drewN q)
      have hsg := St.sg_neg (R (f h)) (R (f m))
      have hst := St.Stb.no HS.out.2 (show a ≤ h by have := eh.out; omega) (show h < m by have := eh.out; omega) (Nat.lt_succ_self m)
      generalize hcv : St.sg (R (f h)) (R (f m)) = cv at hc hsg
      have HCC := Lib.hid hc
      clear hc hcv
      by_cases hk : R (f h) < R (f m)
      · rw [decide_eq_true (show (R (f h) : Int) < R (f m) by omega)] at hsg
        have hl := Lib.hid (St.Lt.of hk)
        clear hk hst
        go_quiet ((go_at_call 45; exact Calls.quiet_of (HCC.out _)))
        go_wp2
        go_roundw
        case rel =>
          refine ⟨i, h, hi, by have := eh.out; omega, by have := eh.out; omega, rfl, rfl, HR2.out.drewN _, HLO.out, fun x x1 x2 => ?_⟩
          have := eh.out
          by_cases hx : x = h
          · rw [hx]; exact hl.out
          · exact hl.out.trans (HS.out.1 h x (by omega) (by omega) x2)
        case measure => have := eh.out; simp [intOf]; omega
      · rw [decide_eq_false (show ¬ (R (f h) : Int) < R (f m) by omega)] at hsg
        have hl := Lib.hid (hst hk)
        clear hk hst
        go_quiet ((go_at_call 45; exact Calls.quiet_of (HCC.out _)))
        go_wp2
        go_roundw
        case rel =>
          refine ⟨h + 1, j, by have := eh.out; omega, by have := eh.out; omega, hj, by go_num, rfl, HR2.out.drewN _, fun x x1 x2 => ?_, HHI.out⟩
          have := eh.out
          by_cases hx : x = h
          · rw [hx]; exact hl.out
          · exact (HS.out.1 x h x1 (by omega) (by omega)).trans hl.out
        case measure => have := eh.out; simp [intOf]; omega
    · obtain rfl : i = j := by omega
      have HM := Lib.hid (St.one_right HS.out.1 hi hj HLO.out HHI.out)
      have HU := Lib.hid (St.shr_sub f a i m (m + 1) hi hj (by omega))
      clear HLO HHI HS HC HF
      go_wp2
      go_loopw [17] (fun v wr2 => ∃ k : Nat, i ≤ k ∧ k ≤ m ∧ v = .int .i64 k ∧ Row w0 wr2 g n (St.shr f k m)) (fun v _ => (intOf v).toNat)
      case atStart => exact ⟨m, hj, Nat.le_refl _, rfl, HR2.out.congr (St.shr_self f m)⟩
      case round =>
        obtain ⟨k, hk1, hk2, rfl, hr⟩ := hrel
        by_cases hlt2 : i < k
        · obtain ⟨p, rfl⟩ : ∃ p, k = p + 1 := ⟨k - 1, by omega⟩
          have z0 : (i : Int) < (p : Int) + 1 := by omega
          have q2 : IntKind.i64.wrap (p : Int) = (p : Int) := IntWalk.i64_in _ (by omega)
          have z1 : (0 : Int) ≤ (p : Int) := by omega
          have z2 : (p : Int) < n := by omega
          have z3 : (0 : Int) ≤ (p : Int) + 1 := by omega
          have z4 : (p : Int) + 1 < n := by omega
          have t1 : ((p : Int) + 1).toNat = p + 1 := by omega
          have c1 := hr.cell p (by omega)
          have c2 := hr.cell (p + 1) (by omega)
          have f1 := hr.free p (by omega)
          have f2 := hr.free (p + 1) (by omega)
          have hs := (hr.swap (p + 1) p (by omega) (by omega) (by omega)).congr (St.shr_step f p m (by omega)).symm
          have HS := Lib.hid hs
          clear hs hr HR2
          generalize St.shr f (p + 1) m p = x at *
          generalize St.shr f (p + 1) m (p + 1) = y at *
          obtain ⟨k1, hk1⟩ : ∃ k1, k1 = p + 1 := ⟨_, rfl⟩
          rw [← hk1] at c2 f2 t1 HS
          have HK1 := Lib.hid hk1
          clear hk1
          go_wp2
          go_big_region
          all_goals go_wp2
          go_roundw
          case rel => exact ⟨p, by omega, by omega, rfl, HS.out⟩
          case measure => simp [intOf]
        · obtain rfl : i = k := by omega
          have HR3 := Lib.hid hr
          clear hr
          go_wp2
          go_end0
          exact ⟨rfl, _, HR3.out, HM.out, HU.out⟩
end Go.Proofs.YtgabkgomjdlgnaaDoor
