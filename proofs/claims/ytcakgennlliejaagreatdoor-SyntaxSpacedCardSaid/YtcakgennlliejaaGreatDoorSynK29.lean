import Derived.Deep.RegionHeldLaw
import Derived.Test.YtcakgennlliejaaGreatDoorSynK28
set_option maxHeartbeats 8000000
set_option maxRecDepth 100000
namespace Go.Proofs.YtcakgennlliejaaGreatDoor
open Go.Shelf Go.RowKit Go.Lib
open Go.Proofs.YtcakgennlliejaaGreatDoorW.PrintWords
open Go.Proofs.YtcakgennlliejaaGreatDoor.PSyntaxJoined
open Sx
set_option linter.unusedVariables false
set_option linter.unusedSimpArgs false
theorem rone_num (s : ByteArray) (p : Nat) (hp : p < s.size) (hz : s.size ≤ 65536) (hc : cls (s[p]'hp).toNat = 4) (hd : datedL (tl s p) = false) (w : World) : Calls Tryz.prog 47 #[.string s, .int .i64 p] w (OneDone (Sx.step (tl s p) p) w) := by
  have hst : Sx.step (tl s p) p = Sx.step (s[p]'hp :: tl s (p + 1)) p := by rw [← tl_cons hp]
  rw [Sx.step_cons, ← tl_cons hp] at hst
  obtain ⟨st, hS⟩ : ∃ st, Sx.step (tl s p) p = st := ⟨_, rfl⟩
  rw [hS] at hst ⊢
  clear hS
  have HZ := Lib.hid hz
  have HP := Lib.hid hp
  have b1 : (0 : Int) ≤ (p : Int) := by omega
  have b2 : (p : Int) < (s.size : Int) := by omega
  have HD := Lib.hid (fun w => rdate_calls s p (Nat.le_of_lt hp) hz w)
  have hw : st = numberS (tl s p) p := by rw [hst, if_neg (by rw [hc]; decide), if_neg (by rw [hc]; decide), if_neg (by rw [hc]; decide), if_pos hc]
  have hg0 : isDig (cls (s[p]'hp).toNat) = true := by rw [hc]; rfl
  obtain ⟨q, hq⟩ : ∃ q, runL isDig (tl s p) p = q := ⟨_, rfl⟩
  have hin := runs_to s isDig p q (Nat.le_of_lt hp) hq
  have HPQ := Lib.hid (And.intro (run_pos s isDig p q hp hg0 hq) hin.2)
  have HW := Lib.hid hw
  have HQ := Lib.hid hq
  have HDF := Lib.hid hd
  have HC4 := Lib.hid (show (cls (s[p]'hp).toNat == 4) = true by rw [hc]; rfl)
  clear hst hw hg0 hq hin hc hz hd
  go_enter Tryz.func47, Tryz.ntmps47
  go_wp2_with (first | (go_at_call 65; ((with_reducible refine (HD.out _).mono ?_); rw [HDF.out]; rintro e w4 ⟨rfl, rfl⟩)) | (go_at_call 66; ((with_reducible refine (rdig_calls _ _).mono ?_); rw [HC4.out]; rintro e w4 ⟨rfl, rfl⟩)))
  go_loop [9] (fun u9 => ∃ j : Nat, u9 = .int .i64 j ∧ p ≤ j ∧ j ≤ s.size ∧ runL isDig (tl s j) j = q) (fun u9 => s.size - (RowKit.intOf u9).toNat)
  case atStart => exact ⟨p, rfl, Nat.le_refl _, Nat.le_of_lt HP.out, HQ.out⟩
  case round =>
    obtain ⟨j, rfl, hpj, hjs, hj⟩ := hrel
    have hzz := HZ.out
    have HPJ := Lib.hid hpj
    have g1 : (0 : Int) ≤ (j : Int) := by omega
    have g2 : (j : Int) ≤ 65536 := by omega
    have g3 : (p : Int) ≤ 65536 := by omega
    by_cases hlt : j < s.size
    · have z1 : decide ((j : Int) < (s.size : Int)) = true := decide_eq_true (by omega)
      have z2 : decide (j < s.size) = true := decide_eq_true hlt
      have z3 : (j : Int) < (s.size : Int) := by omega
      rw [tl_cons hlt, runL_cons] at hj
      cases h4 : (cls (s[j]'hlt).toNat == 4)
      · rw [show isDig (cls (s[j]'hlt).toNat) = (cls (s[j]'hlt).toNat == 4) from rfl, h4] at hj
        obtain rfl : j = q := hj
        have K4 := Lib.hid h4
        obtain ⟨q1, hq1⟩ : ∃ q1, j + 1 = q1 := ⟨_, rfl⟩
        have e1 : (j : Int) + 1 = (q1 : Int) := by omega
        by_cases hlt1 : q1 < s.size
        · have y1 : decide ((q1 : Int) < (s.size : Int)) = true := decide_eq_true (by omega)
          have y2 : decide (q1 < s.size) = true := decide_eq_true hlt1
          have y3 : (q1 : Int) < (s.size : Int) := by omega
          have y4 : (0 : Int) ≤ (q1 : Int) := by omega
          cases hdot : (s[j]'hlt == (46 : UInt8))
          · have hne : (((s[j]'hlt).toNat : Int) == 46) = false := by
              have h1 : s[j]'hlt ≠ 46 := by simpa using hdot
              simp only [beq_eq_false_iff_ne, ne_eq]
              intro h2
              exact h1 (UInt8.toNat_inj.1 (by show (s[j]'hlt).toNat = 46; omega))
            have HST := Lib.hid (show st = if jam s j then .jam ⟨3, s.extract p j, p⟩ j else .tok ⟨3, s.extract p j, p⟩ j by rw [HW.out, num_none' s p j q1 hq1 hp HDF.out HQ.out (fun h1 h0 => by rw [hdot]; rfl), put_eq s 3 hpj])
            clear h4 hpj hjs hdot hq1
            have j1 : decide ((j : Int) < (s.size : Int)) = true := decide_eq_true (by omega)
            have j2 : decide (j < s.size) = true := decide_eq_true hlt
            have j3 : (j : Int) < (s.size : Int) := by omega
            have HJ := Lib.hid (show jam s j = isVr (cls (s[j]'hlt).toNat) from dif_pos hlt)
            cases hv : isVr (cls (s[j]'hlt).toNat)
            · have HV := Lib.hid hv
              rw [hv] at HJ
              clear hv
              go_wp2_with (first | (go_at_call 66; ((with_reducible refine (rdig_calls _ _).mono ?_); rw [K4.out]; rintro e w4 ⟨rfl, rfl⟩)) | (go_at_call 69; ((with_reducible refine (rword_calls _ _).mono ?_); rw [HV.out]; rintro e w4 ⟨rfl, rfl⟩)))
              ((try simp only [Exit.inBlock, Exit.then]); refine bodyPost_ret (results_four rfl _ _ _) rfl ?_)
              rw [HST.out, HJ.out]
              exact ⟨3, j, 0, 0, rfl, ⟨rfl, rfl, rfl, rfl⟩, Below.refl _ _⟩
            · have HV := Lib.hid hv
              rw [hv] at HJ
              clear hv
              go_wp2_with (first | (go_at_call 66; ((with_reducible refine (rdig_calls _ _).mono ?_); rw [K4.out]; rintro e w4 ⟨rfl, rfl⟩)) | (go_at_call 69; ((with_reducible refine (rword_calls _ _).mono ?_); rw [HV.out]; rintro e w4 ⟨rfl, rfl⟩)))
              ((try simp only [Exit.inBlock, Exit.then]); refine bodyPost_ret (results_four rfl _ _ _) rfl ?_)
              rw [HST.out, HJ.out]
              exact ⟨0, 0, 41, j, rfl, ⟨rfl, rfl, rfl, rfl⟩, Below.refl _ _⟩
          · have hne : (((s[j]'hlt).toNat : Int) == 46) = true := by
              have h1 : s[j]'hlt = 46 := by simpa using hdot
              rw [h1]; rfl
            cases hg : dg8 (s[q1]'hlt1)
            · have K5 := Lib.hid (show (cls (s[q1]'hlt1).toNat == 4) = false from hg)
              have HST := Lib.hid (show st = if jam s j then .jam ⟨3, s.extract p j, p⟩ j else .tok ⟨3, s.extract p j, p⟩ j by rw [HW.out, num_none' s p j q1 hq1 hp HDF.out HQ.out (fun h1 h0 => by rw [hg]; exact Bool.and_false _), put_eq s 3 hpj])
              clear h4 hpj hjs hdot hq1 hg
              have j1 : decide ((j : Int) < (s.size : Int)) = true := decide_eq_true (by omega)
              have j2 : decide (j < s.size) = true := decide_eq_true hlt
              have j3 : (j : Int) < (s.size : Int) := by omega
              have HJ := Lib.hid (show jam s j = isVr (cls (s[j]'hlt).toNat) from dif_pos hlt)
              cases hv : isVr (cls (s[j]'hlt).toNat)
              · have HV := Lib.hid hv
                rw [hv] at HJ
                clear hv
                go_wp2_with (first | (go_at_call 66; ((with_reducible refine (rdig_calls _ _).mono ?_); rw [K4.out]; rintro e w4 ⟨rfl, rfl⟩)) | (go_at_call 66; ((with_reducible refine (rdig_calls _ _).mono ?_); rw [K5.out]; rintro e w4 ⟨rfl, rfl⟩)) | (go_at_call 69; ((with_reducible refine (rword_calls _ _).mono ?_); rw [HV.out]; rintro e w4 ⟨rfl, rfl⟩)))
                ((try simp only [Exit.inBlock, Exit.then]); refine bodyPost_ret (results_four rfl _ _ _) rfl ?_)
                rw [HST.out, HJ.out]
                exact ⟨3, j, 0, 0, rfl, ⟨rfl, rfl, rfl, rfl⟩, Below.refl _ _⟩
              · have HV := Lib.hid hv
                rw [hv] at HJ
                clear hv
                go_wp2_with (first | (go_at_call 66; ((with_reducible refine (rdig_calls _ _).mono ?_); rw [K4.out]; rintro e w4 ⟨rfl, rfl⟩)) | (go_at_call 66; ((with_reducible refine (rdig_calls _ _).mono ?_); rw [K5.out]; rintro e w4 ⟨rfl, rfl⟩)) | (go_at_call 69; ((with_reducible refine (rword_calls _ _).mono ?_); rw [HV.out]; rintro e w4 ⟨rfl, rfl⟩)))
                ((try simp only [Exit.inBlock, Exit.then]); refine bodyPost_ret (results_four rfl _ _ _) rfl ?_)
                rw [HST.out, HJ.out]
                exact ⟨0, 0, 41, j, rfl, ⟨rfl, rfl, rfl, rfl⟩, Below.refl _ _⟩
            · have K5 := Lib.hid (show (cls (s[q1]'hlt1).toNat == 4) = true from hg)
              obtain ⟨q2, hr2⟩ : ∃ q2, runL isDig (tl s q1) q1 = q2 := ⟨_, rfl⟩
              have hin2 := runs_to s isDig q1 q2 (Nat.le_of_lt hlt1) hr2
              have HST := Lib.hid (show st = if jam s q2 then .jam ⟨3, s.extract p q2, p⟩ q2 else .tok ⟨3, s.extract p q2, p⟩ q2 by rw [HW.out, num_more' s p j q1 q2 hq1 hp HDF.out HQ.out hlt1 hlt hdot hg hr2, put_eq s 3 (show p ≤ q2 by have := hin2.1; omega)])
              have HR2 := Lib.hid hr2
              clear h4 hpj hjs hdot hq1 hg hr2 hin2
              go_wp2_with (first | (go_at_call 66; ((with_reducible refine (rdig_calls _ _).mono ?_); rw [K4.out]; rintro e w4 ⟨rfl, rfl⟩)) | (go_at_call 66; ((with_reducible refine (rdig_calls _ _).mono ?_); rw [K5.out]; rintro e w4 ⟨rfl, rfl⟩)))
              go_loop [9] (fun u9 => ∃ i : Nat, u9 = .int .i64 i ∧ q1 ≤ i ∧ i ≤ s.size ∧ runL isDig (tl s i) i = q2) (fun u9 => s.size - (RowKit.intOf u9).toNat)
              case atStart => exact ⟨q1, rfl, Nat.le_refl _, Nat.le_of_lt hlt1, HR2.out⟩
              case round =>
                obtain ⟨i, rfl, hpi, his, hi⟩ := hrel
                have k1 : (0 : Int) ≤ (i : Int) := by omega
                have k2 : (i : Int) ≤ 65536 := by omega
                have HPI := Lib.hid hpi
                by_cases hli : i < s.size
                · have w1 : decide ((i : Int) < (s.size : Int)) = true := decide_eq_true (by omega)
                  have w2 : decide (i < s.size) = true := decide_eq_true hli
                  have w3 : (i : Int) < (s.size : Int) := by omega
                  rw [tl_cons hli, runL_cons] at hi
                  cases h6 : (cls (s[i]'hli).toNat == 4)
                  · rw [show isDig (cls (s[i]'hli).toNat) = (cls (s[i]'hli).toNat == 4) from rfl, h6] at hi
                    obtain rfl : i = q2 := hi
                    have K6 := Lib.hid h6
                    clear h6 hpi his
                    have j1 : decide ((i : Int) < (s.size : Int)) = true := decide_eq_true (by omega)
                    have j2 : decide (i < s.size) = true := decide_eq_true hli
                    have j3 : (i : Int) < (s.size : Int) := by omega
                    have HJ := Lib.hid (show jam s i = isVr (cls (s[i]'hli).toNat) from dif_pos hli)
                    cases hv : isVr (cls (s[i]'hli).toNat)
                    · have HV := Lib.hid hv
                      rw [hv] at HJ
                      clear hv
                      go_wp2_with (first | (go_at_call 66; ((with_reducible refine (rdig_calls _ _).mono ?_); rw [K6.out]; rintro e w4 ⟨rfl, rfl⟩)) | (go_at_call 69; ((with_reducible refine (rword_calls _ _).mono ?_); rw [HV.out]; rintro e w4 ⟨rfl, rfl⟩)))
                      ((try simp only [Exit.inBlock, Exit.then]); refine bodyPost_ret (results_four rfl _ _ _) rfl ?_)
                      rw [HST.out, HJ.out]
                      exact ⟨3, i, 0, 0, rfl, ⟨rfl, rfl, rfl, rfl⟩, Below.refl _ _⟩
                    · have HV := Lib.hid hv
                      rw [hv] at HJ
                      clear hv
                      go_wp2_with (first | (go_at_call 66; ((with_reducible refine (rdig_calls _ _).mono ?_); rw [K6.out]; rintro e w4 ⟨rfl, rfl⟩)) | (go_at_call 69; ((with_reducible refine (rword_calls _ _).mono ?_); rw [HV.out]; rintro e w4 ⟨rfl, rfl⟩)))
                      ((try simp only [Exit.inBlock, Exit.then]); refine bodyPost_ret (results_four rfl _ _ _) rfl ?_)
                      rw [HST.out, HJ.out]
                      exact ⟨0, 0, 41, i, rfl, ⟨rfl, rfl, rfl, rfl⟩, Below.refl _ _⟩
                  · rw [show isDig (cls (s[i]'hli).toNat) = (cls (s[i]'hli).toNat == 4) from rfl, h6] at hi
                    have K6 := Lib.hid h6
                    have HI := Lib.hid (show runL isDig (tl s (i + 1)) (i + 1) = q2 from hi)
                    clear h6 hpi his hi
                    go_wp2_with (first | (go_at_call 66; ((with_reducible refine (rdig_calls _ _).mono ?_); rw [K6.out]; rintro e w4 ⟨rfl, rfl⟩)))
                    go_round
                    case rel => exact ⟨i + 1, rfl, by have := HPI.out; omega, hli, HI.out⟩
                    case measure => simp [RowKit.intOf]; omega
                · have w1 : decide ((i : Int) < (s.size : Int)) = false := decide_eq_false (by omega)
                  have w2 : decide (i < s.size) = false := decide_eq_false hli
                  obtain rfl : i = q2 := by rw [tl_nil hli] at hi; exact hi
                  clear hpi his hi
                  have j1 : decide ((i : Int) < (s.size : Int)) = false := decide_eq_false (by omega)
                  have j2 : decide (i < s.size) = false := decide_eq_false hli
                  have HJ := Lib.hid (show jam s i = false from dif_neg hli)
                  go_wp2_with fail
                  ((try simp only [Exit.inBlock, Exit.then]); refine bodyPost_ret (results_four rfl _ _ _) rfl ?_)
                  rw [HST.out, HJ.out]
                  exact ⟨3, i, 0, 0, rfl, ⟨rfl, rfl, rfl, rfl⟩, Below.refl _ _⟩
        · have y1 : decide ((q1 : Int) < (s.size : Int)) = false := decide_eq_false (by omega)
          have y2 : decide (q1 < s.size) = false := decide_eq_false hlt1
          have HST := Lib.hid (show st = if jam s j then .jam ⟨3, s.extract p j, p⟩ j else .tok ⟨3, s.extract p j, p⟩ j by rw [HW.out, num_none' s p j q1 hq1 hp HDF.out HQ.out (fun h1 h0 => absurd h1 hlt1), put_eq s 3 hpj])
          clear h4 hpj hjs hq1
          have j1 : decide ((j : Int) < (s.size : Int)) = true := decide_eq_true (by omega)
          have j2 : decide (j < s.size) = true := decide_eq_true hlt
          have j3 : (j : Int) < (s.size : Int) := by omega
          have HJ := Lib.hid (show jam s j = isVr (cls (s[j]'hlt).toNat) from dif_pos hlt)
          cases hv : isVr (cls (s[j]'hlt).toNat)
          · have HV := Lib.hid hv
            rw [hv] at HJ
            clear hv
            go_wp2_with (first | (go_at_call 66; ((with_reducible refine (rdig_calls _ _).mono ?_); rw [K4.out]; rintro e w4 ⟨rfl, rfl⟩)) | (go_at_call 69; ((with_reducible refine (rword_calls _ _).mono ?_); rw [HV.out]; rintro e w4 ⟨rfl, rfl⟩)))
            ((try simp only [Exit.inBlock, Exit.then]); refine bodyPost_ret (results_four rfl _ _ _) rfl ?_)
            rw [HST.out, HJ.out]
            exact ⟨3, j, 0, 0, rfl, ⟨rfl, rfl, rfl, rfl⟩, Below.refl _ _⟩
          · have HV := Lib.hid hv
            rw [hv] at HJ
            clear hv
            go_wp2_with (first | (go_at_call 66; ((with_reducible refine (rdig_calls _ _).mono ?_); rw [K4.out]; rintro e w4 ⟨rfl, rfl⟩)) | (go_at_call 69; ((with_reducible refine (rword_calls _ _).mono ?_); rw [HV.out]; rintro e w4 ⟨rfl, rfl⟩)))
            ((try simp only [Exit.inBlock, Exit.then]); refine bodyPost_ret (results_four rfl _ _ _) rfl ?_)
            rw [HST.out, HJ.out]
            exact ⟨0, 0, 41, j, rfl, ⟨rfl, rfl, rfl, rfl⟩, Below.refl _ _⟩
      · rw [show isDig (cls (s[j]'hlt).toNat) = (cls (s[j]'hlt).toNat == 4) from rfl, h4] at hj
        have K4 := Lib.hid h4
        have HJ1 := Lib.hid (show runL isDig (tl s (j + 1)) (j + 1) = q from hj)
        clear hj hpj hjs h4
        go_wp2_with (first | (go_at_call 66; ((with_reducible refine (rdig_calls _ _).mono ?_); rw [K4.out]; rintro e w4 ⟨rfl, rfl⟩)))
        go_round
        case rel => exact ⟨j + 1, rfl, by have := HPJ.out; omega, hlt, HJ1.out⟩
        case measure => simp [RowKit.intOf]; omega
    · have z1 : decide ((j : Int) < (s.size : Int)) = false := decide_eq_false (by omega)
      have z2 : decide (j < s.size) = false := decide_eq_false hlt
      obtain rfl : j = q := by rw [tl_nil hlt] at hj; exact hj
      obtain ⟨q1, hq1⟩ : ∃ q1, j + 1 = q1 := ⟨_, rfl⟩
      have e1 : (j : Int) + 1 = (q1 : Int) := by omega
      have y1 : decide ((q1 : Int) < (s.size : Int)) = false := decide_eq_false (by omega)
      have y2 : decide (q1 < s.size) = false := decide_eq_false (by omega)
      have HST := Lib.hid (show st = if jam s j then .jam ⟨3, s.extract p j, p⟩ j else .tok ⟨3, s.extract p j, p⟩ j by rw [HW.out, num_none' s p j q1 hq1 hp HDF.out HQ.out (fun h1 h0 => absurd h1 (by omega)), put_eq s 3 hpj])
      clear hpj hjs hj hq1
      have j1 : decide ((j : Int) < (s.size : Int)) = false := decide_eq_false (by omega)
      have j2 : decide (j < s.size) = false := decide_eq_false hlt
      have HJ := Lib.hid (show jam s j = false from dif_neg hlt)
      go_wp2_with fail
      ((try simp only [Exit.inBlock, Exit.then]); refine bodyPost_ret (results_four rfl _ _ _) rfl ?_)
      rw [HST.out, HJ.out]
      exact ⟨3, j, 0, 0, rfl, ⟨rfl, rfl, rfl, rfl⟩, Below.refl _ _⟩
theorem rone_quote (s : ByteArray) (p : Nat) (hp : p < s.size) (hz : s.size ≤ 65536) (h2 : (cls (s[p]'hp).toNat == 2) = false) (h3 : (cls (s[p]'hp).toNat == 3) = false) (h4 : (cls (s[p]'hp).toNat == 4) = false) (h1 : (cls (s[p]'hp).toNat == 1) = false) (hq : s[p]'hp = 34) (w : World) : Calls Tryz.prog 47 #[.string s, .int .i64 p] w (OneDone (Sx.step (tl s p) p) w) := by
  have hst : Sx.step (tl s p) p = Sx.step (s[p]'hp :: tl s (p + 1)) p := by rw [← tl_cons hp]
  rw [Sx.step_cons, ← tl_cons hp] at hst
  obtain ⟨st, hS⟩ : ∃ st, Sx.step (tl s p) p = st := ⟨_, rfl⟩
  rw [hS] at hst ⊢
  clear hS
  have HZ := Lib.hid hz
  have HP := Lib.hid hp
  have b1 : (0 : Int) ≤ (p : Int) := by omega
  have b2 : (p : Int) < (s.size : Int) := by omega
  have HD := Lib.hid (fun w => rdate_calls s p (Nat.le_of_lt hp) hz w)
  have hw : st = quoteS (tl s (p + 1)) p := by
    rw [hst, if_neg (by simpa using h1), if_neg (by simpa using h2), if_neg (by simpa using h3), if_neg (by simpa using h4), hq]; rfl
  have hcq : (((s[p]'hp).toNat : Int) == 34) = true := by rw [hq]; rfl
  have HDF := Lib.hid (show datedL (tl s p) = false by
    rw [tl_cons hp]
    show (dg8 (s[p]'hp) && datF 9 (tl s (p + 1))) = false
    have h1 : dg8 (s[p]'hp) = false := h4
    rw [h1]; rfl)
  have HC4 := Lib.hid h4
  have HC2 := Lib.hid h2
  have HC3 := Lib.hid h3
  obtain ⟨p1, hp1⟩ : ∃ p1, p + 1 = p1 := ⟨_, rfl⟩
  rw [hp1] at hw
  obtain ⟨Q, hQ⟩ : ∃ Q, p1 + ((tl s p1).takeWhile inQ).length = Q := ⟨_, rfl⟩
  have e1 : (p : Int) + 1 = (p1 : Int) := by omega
  have g0 : (0 : Int) ≤ (p1 : Int) := by omega
  have g9 : (p1 : Int) ≤ 65536 := by omega
  have HW := Lib.hid hw
  have HP1 := Lib.hid hp1
  have HQ := Lib.hid hQ
  clear hst hw hz h1 h2 h3 h4 hq hp1 hQ
  go_enter Tryz.func47, Tryz.ntmps47
  go_wp2_with (first | (go_at_call 65; ((with_reducible refine (HD.out _).mono ?_); rw [HDF.out]; rintro e w4 ⟨rfl, rfl⟩)) | (go_at_call 66; ((with_reducible refine (rdig_calls _ _).mono ?_); rw [HC4.out]; rintro e w4 ⟨rfl, rfl⟩)) | (go_at_call 67; ((with_reducible refine (rsmall_calls _ _).mono ?_); rw [HC2.out]; rintro e w4 ⟨rfl, rfl⟩)) | (go_at_call 68; ((with_reducible refine (rcap_calls _ _).mono ?_); rw [HC3.out]; rintro e w4 ⟨rfl, rfl⟩)))
  go_loop [9] (fun u9 => ∃ j : Nat, u9 = .int .i64 j ∧ p1 ≤ j ∧ j ≤ s.size ∧ j + ((tl s j).takeWhile inQ).length = Q) (fun u9 => s.size - (RowKit.intOf u9).toNat)
  case atStart => exact ⟨p1, rfl, Nat.le_refl _, by have h1 := HP.out; have h2 := HP1.out; omega, HQ.out⟩
  case round =>
    obtain ⟨j, rfl, hpj, hjs, hj⟩ := hrel
    have hzz := HZ.out
    have HPJ := Lib.hid hpj
    have g1 : (0 : Int) ≤ (j : Int) := by omega
    have g2 : (j : Int) ≤ 65536 := by omega
    have hqd : ∀ (c : UInt8) (t : List UInt8), j = Q → tl s j = c :: t → c = 34 ∨ c = 10 → st = if c = 34 then .tok ⟨5, s.extract p1 j, p⟩ (j + 1) else .no 42 p := by
      intro c t hjq ht hc
      have hm2 : ((tl s p1).takeWhile inQ).length = j - p1 := by have := HQ.out; omega
      have hdr : (tl s p1).drop (j - p1) = c :: t := by rw [tl_drop, show p1 + (j - p1) = j by omega, ht]
      rcases quote_idx (tl s p1) with ⟨_, hd⟩ | ⟨m, c2, t2, _, hm, htk, hd, _⟩
      · rw [hm2, hdr] at hd; cases hd
      · have hmj : m = j - p1 := by omega
        subst hmj
        rw [HW.out]
        rcases hc with rfl | rfl
        · rw [if_pos rfl]; exact quote_ok p p1 j (j - p1) HP1.out (by omega) hm htk hdr
        · rw [if_neg (by decide)]; exact quote_line p (j - p1) hm hdr
    have HQD := Lib.hid hqd
    clear hqd
    by_cases hlt : j < s.size
    · have z1 : decide ((j : Int) < (s.size : Int)) = true := decide_eq_true (by omega)
      have z2 : decide (j < s.size) = true := decide_eq_true hlt
      have z3 : (j : Int) < (s.size : Int) := by omega
      have z4 : ((j : Int) == (s.size : Int)) = false := by simp only [beq_eq_false_iff_ne, ne_eq]; omega
      have z5 : (j == s.size) = false := by simp only [beq_eq_false_iff_ne, ne_eq]; omega
      have htj := tl_cons hlt
      rw [htj, List.takeWhile_cons] at hj
      by_cases h34 : s[j]'hlt = 34
      · have i1 : (((s[j]'hlt).toNat : Int) != 34) = false := by rw [h34]; rfl
        have i2 : (((s[j]'hlt).toNat : Int) == 10) = false := by rw [h34]; rfl
        have i3 : (((s[j]'hlt).toNat : Int) != 10) = true := by rw [h34]; rfl
        have hjq : j = Q := by rw [h34] at hj; exact hj
        have HST := Lib.hid (show st = .tok ⟨5, s.extract p1 j, p⟩ (j + 1) by rw [HQD.out _ _ hjq htj (.inl h34), if_pos h34])
        obtain ⟨j1, hj1⟩ : ∃ j1, j + 1 = j1 := ⟨_, rfl⟩
        rw [hj1] at HST
        have e2 : (j : Int) + 1 = (j1 : Int) := by omega
        clear h34 hjq htj hj hpj hjs hj1
        go_wp2_with fail
        ((try simp only [Exit.inBlock, Exit.then]); refine bodyPost_ret (results_four rfl _ _ _) rfl ?_)
        rw [HST.out]
        exact ⟨5, j1, 0, 0, rfl, ⟨rfl, rfl, rfl, rfl⟩, Below.refl _ _⟩
      · have i1 : (((s[j]'hlt).toNat : Int) != 34) = true := by
          simp only [bne_iff_ne, ne_eq]; intro h2; exact h34 (UInt8.toNat_inj.1 (by show (s[j]'hlt).toNat = 34; omega))
        by_cases h10 : s[j]'hlt = 10
        · have i2 : (((s[j]'hlt).toNat : Int) == 10) = true := by rw [h10]; rfl
          have i3 : (((s[j]'hlt).toNat : Int) != 10) = false := by rw [h10]; rfl
          have hjq : j = Q := by rw [h10] at hj; exact hj
          have HST := Lib.hid (show st = .no 42 p by rw [HQD.out _ _ hjq htj (.inr h10), if_neg h34])
          clear h34 h10 hjq htj hj hpj hjs
          go_wp2_with fail
          ((try simp only [Exit.inBlock, Exit.then]); refine bodyPost_ret (results_four rfl _ _ _) rfl ?_)
          rw [HST.out]
          exact ⟨0, 0, 42, p, rfl, ⟨rfl, rfl, rfl, rfl⟩, Below.refl _ _⟩
        · have i3 : (((s[j]'hlt).toNat : Int) != 10) = true := by
            simp only [bne_iff_ne, ne_eq]; intro h2; exact h10 (UInt8.toNat_inj.1 (by show (s[j]'hlt).toNat = 10; omega))
          have hin : inQ (s[j]'hlt) = true := by unfold inQ; simp [h34, h10]
          rw [hin, if_pos rfl, List.length_cons] at hj
          have HJ1 := Lib.hid (show (j + 1) + ((tl s (j + 1)).takeWhile inQ).length = Q by omega)
          clear h34 h10 htj hj hpj hjs hin
          go_wp2_with fail
          go_round
          case rel => exact ⟨j + 1, rfl, by have := HPJ.out; omega, hlt, HJ1.out⟩
          case measure => simp [RowKit.intOf]; omega
    · have z1 : decide ((j : Int) < (s.size : Int)) = false := decide_eq_false (by omega)
      have z2 : decide (j < s.size) = false := decide_eq_false hlt
      obtain rfl : j = s.size := by omega
      have HST := Lib.hid (show st = .no 42 p by
        rw [HW.out]
        refine quote_none p ?_
        rw [tl_nil hlt] at hj
        have hm2 : ((tl s p1).takeWhile inQ).length = s.size - p1 := by have h1 := HQ.out; have h2 : s.size + 0 = Q := hj; omega
        rw [hm2, tl_drop, show p1 + (s.size - p1) = s.size by omega, tl_nil hlt])
      clear hj hpj hjs
      go_wp2_with fail
      ((try simp only [Exit.inBlock, Exit.then]); refine bodyPost_ret (results_four rfl _ _ _) rfl ?_)
      rw [HST.out]
      exact ⟨0, 0, 42, p, rfl, ⟨rfl, rfl, rfl, rfl⟩, Below.refl _ _⟩
theorem rone_mark (s : ByteArray) (p : Nat) (hp : p < s.size) (hz : s.size ≤ 65536) (h2 : (cls (s[p]'hp).toNat == 2) = false) (h3 : (cls (s[p]'hp).toNat == 3) = false) (h4 : (cls (s[p]'hp).toNat == 4) = false) (h1 : (cls (s[p]'hp).toNat == 1) = false) (hq : s[p]'hp ≠ 34) (hh : s[p]'hp ≠ 35) (w : World) : Calls Tryz.prog 47 #[.string s, .int .i64 p] w (OneDone (Sx.step (tl s p) p) w) := by
  have hst : Sx.step (tl s p) p = Sx.step (s[p]'hp :: tl s (p + 1)) p := by rw [← tl_cons hp]
  rw [Sx.step_cons, ← tl_cons hp] at hst
  obtain ⟨st, hS⟩ : ∃ st, Sx.step (tl s p) p = st := ⟨_, rfl⟩
  rw [hS] at hst ⊢
  clear hS
  have HZ := Lib.hid hz
  have HP := Lib.hid hp
  have b1 : (0 : Int) ≤ (p : Int) := by omega
  have b2 : (p : Int) < (s.size : Int) := by omega
  have HD := Lib.hid (fun w => rdate_calls s p (Nat.le_of_lt hp) hz w)
  have hw : st = markS (tl s p) p := by
    rw [hst, if_neg (by simpa using h1), if_neg (by simpa using h2), if_neg (by simpa using h3), if_neg (by simpa using h4), if_neg (by simpa using hq), if_neg (by simpa using hh)]
  have hcq : (((s[p]'hp).toNat : Int) == 34) = false := by
    simp only [beq_eq_false_iff_ne, ne_eq]; intro h9; exact hq (UInt8.toNat_inj.1 (by show (s[p]'hp).toNat = 34; omega))
  have HDF := Lib.hid (show datedL (tl s p) = false by
    rw [tl_cons hp]
    show (dg8 (s[p]'hp) && datF 9 (tl s (p + 1))) = false
    have h1 : dg8 (s[p]'hp) = false := h4
    rw [h1]; rfl)
  have HC4 := Lib.hid h4
  have HC2 := Lib.hid h2
  have HC3 := Lib.hid h3
  have HST := Lib.hid hw
  have HBG := Lib.hid (fun (m : ByteArray) (hm : m.size ≤ 16) (w : World) => rbegins_calls s p m (Nat.le_of_lt hp) hz hm w)
  obtain ⟨X, hX⟩ : ∃ X, w.alloc (.cells markCells.toArray 9) = X := ⟨_, rfl⟩
  have HBX := Lib.hid (show Below w.heap.size w X by rw [← hX]; exact (Below.refl _ w).alloc (Nat.le_refl _) _)
  have HMB := Lib.hid (show X.heap[w.heap.size]? = some (.cells markCells.toArray 9 (0, 0)) by rw [← hX]; exact heap_alloc_new w _)
  have HX := Lib.hid hX
  have HMC := Lib.hid (fun w : World => rmarks_calls w)
  clear hst hw hz h1 h2 h3 h4 hq hh hX
  go_enter Tryz.func47, Tryz.ntmps47
  go_wp2_with (first | (go_at_call 65; ((with_reducible refine (HD.out _).mono ?_); rw [HDF.out]; rintro e w4 ⟨rfl, rfl⟩)) | (go_at_call 66; ((with_reducible refine (rdig_calls _ _).mono ?_); rw [HC4.out]; rintro e w4 ⟨rfl, rfl⟩)) | (go_at_call 67; ((with_reducible refine (rsmall_calls _ _).mono ?_); rw [HC2.out]; rintro e w4 ⟨rfl, rfl⟩)) | (go_at_call 68; ((with_reducible refine (rcap_calls _ _).mono ?_); rw [HC3.out]; rintro e w4 ⟨rfl, rfl⟩)) | (go_at_call 70; ((with_reducible refine (HMC.out _).mono ?_); rintro e w4 ⟨rfl, rfl⟩; rw [HX.out])))
  go_loop [12] (fun u12 => ∃ i : Nat, u12 = .int .i64 i ∧ i ≤ 21 ∧ st = markL (tl s p) p (marks8.drop i)) (fun u12 => 21 - (RowKit.intOf u12).toNat)
  case atStart => exact ⟨0, rfl, by omega, HST.out⟩
  case round =>
    obtain ⟨i, rfl, hi, hf⟩ := hrel
    by_cases hlt : i < 21
    · have hlm : i < marks8.length := hlt
      have hms8 : (marks8[i]).length ≤ 16 := (show ∀ m ∈ marks8, m.length ≤ 16 by decide) _ (List.getElem_mem hlm)
      obtain ⟨m, hm⟩ : ∃ m, marks8[i] = m := ⟨_, rfl⟩
      have ymi := mark_at HMB.out i hlm
      rw [List.drop_eq_getElem_cons hlm, markL_cons] at hf
      rw [hm] at hf ymi hms8
      have x1 : (i : Int) < 21 := by omega
      have x2 : (0 : Int) ≤ (i : Int) := by omega
      have x3 : decide ((i : Int) < 21) = true := decide_eq_true x1
      obtain ⟨tm, htm⟩ : ∃ tm : ByteArray, ⟨m.toArray⟩ = tm := ⟨_, rfl⟩
      rw [htm] at hf ymi
      have hmsz : tm.size = m.length := by rw [← htm]; show m.toArray.size = _; rw [List.size_toArray]
      have hml : tm.data.toList = m := by rw [← htm]
      have HB := Lib.hid (HBG.out tm (by omega))
      rw [hml] at HB
      cases hb : m.isPrefixOf (tl s p)
      · rw [hb] at hf HB
        have HFF := Lib.hid (show st = markL (tl s p) p (marks8.drop (i + 1)) from hf)
        clear hf hb hms8 hlm hm htm hmsz hml
        go_wp2_with (first | (go_at_call 71; ((with_reducible refine (HB.out _).mono ?_); rintro e w5 ⟨rfl, rfl⟩)))
        go_round
        case rel => exact ⟨i + 1, rfl, by omega, HFF.out⟩
        case measure => simp [RowKit.intOf]; omega
      · rw [hb] at hf HB
        have hpl := prefix_len hb
        have htl := tl_len s p
        obtain ⟨q, hq⟩ : ∃ q, p + m.length = q := ⟨_, rfl⟩
        rw [hq] at hf
        have HFF := Lib.hid (show st = .tok ⟨6, tm, p⟩ q from hf)
        have hzz := HZ.out
        have e4 : (p : Int) + (tm.size : Int) = (q : Int) := by omega
        have U := Lib.hid (w64 q (by omega))
        clear hf hb hms8 hlm hm htm hmsz hml hpl htl hq hzz
        obtain ⟨u1, u2⟩ := U.out
        go_upto_region 9 with (first | (go_at_call 71; ((with_reducible refine (HB.out _).mono ?_); rintro e w5 ⟨rfl, rfl⟩)))
        go_quiet (fail)
        go_wp2_with fail
        ((try simp only [Exit.inBlock, Exit.then]); refine bodyPost_ret (results_four rfl _ _ _) rfl ?_)
        rw [HFF.out]
        exact ⟨6, q, 0, 0, rfl, ⟨rfl, rfl, rfl, rfl⟩, by first | exact HBX.out | (repeat (first | exact HBX.out | refine below_drewn ?_ _))⟩
    · have HFF := Lib.hid (show st = .no 41 p by rw [hf, List.drop_eq_nil_of_le (by show 21 ≤ i; omega)]; rfl)
      have x3 : decide ((i : Int) < 21) = false := decide_eq_false (by omega)
      clear hf
      go_wp2_with fail
      ((try simp only [Exit.inBlock, Exit.then]); refine bodyPost_ret (results_four rfl _ _ _) rfl ?_)
      rw [HFF.out]
      exact ⟨0, 0, 41, p, rfl, ⟨rfl, rfl, rfl, rfl⟩, HBX.out⟩
theorem rone_calls (s : ByteArray) (p : Nat) (hp : p < s.size) (hz : s.size ≤ 65536) (hb : cls (s[p]'hp).toNat ≠ 1) (hh : s[p]'hp ≠ 35) (w : World) : Calls Tryz.prog 47 #[.string s, .int .i64 p] w (OneDone (Sx.step (tl s p) p) w) := by
  by_cases h2 : cls (s[p]'hp).toNat = 2
  · exact rone_small s p hp hz h2 w
  by_cases h3 : cls (s[p]'hp).toNat = 3
  · exact rone_cap s p hp hz h3 w
  by_cases h4 : cls (s[p]'hp).toNat = 4
  · cases hd : datedL (tl s p)
    · exact rone_num s p hp hz h4 hd w
    · exact rone_date s p hp hz h4 hd w
  have k1 : (cls (s[p]'hp).toNat == 1) = false := by simpa using hb
  have k2 : (cls (s[p]'hp).toNat == 2) = false := by simpa using h2
  have k3 : (cls (s[p]'hp).toNat == 3) = false := by simpa using h3
  have k4 : (cls (s[p]'hp).toNat == 4) = false := by simpa using h4
  by_cases hq : s[p]'hp = 34
  · exact rone_quote s p hp hz k2 k3 k4 k1 hq w
  · exact rone_mark s p hp hz k2 k3 k4 k1 hq hh w
theorem Sx.tok_text {s : ByteArray} {p q : Nat} {t : S48} (hp : p < s.size) (h : Sx.step (tl s p) p = .tok t q) : t.f2 = p ∧ p < q ∧ q ≤ s.size ∧ (t.f0 ≠ 5 → t.f1 = s.extract p q) ∧ (t.f0 = 5 → t.f1 = s.extract (p + 1) (q - 1) ∧ p + 1 ≤ q - 1) := by
  have hf := step_fit (p := p) (tl_ne hp)
  rw [h] at hf
  have hl := tl_len s p
  refine ⟨hf.2.2.2, hf.1, by have := hf.2.1; omega, ?_⟩
  have hput : ∀ k n, 0 < n → putS k n (tl s p) p = .tok t q → k ≠ 5 → (t.f0 ≠ 5 → t.f1 = s.extract p q) ∧ (t.f0 = 5 → t.f1 = s.extract (p + 1) (q - 1) ∧ p + 1 ≤ q - 1) := by
    intro k n hn hk h5
    unfold putS at hk
    split at hk
    · cases hk
    · injection hk with h1 h2
      subst h1 h2
      refine ⟨fun _ => ?_, fun e => absurd e h5⟩
      rw [Sx.extract_eq, show p + n - p = n by omega]
      rfl
  have hwd : ∀ k (g : Int → Bool), 0 < runN g (tl s p) → wordS k g (tl s p) p = .tok t q → k ≠ 5 → (t.f0 ≠ 5 → t.f1 = s.extract p q) ∧ (t.f0 = 5 → t.f1 = s.extract (p + 1) (q - 1) ∧ p + 1 ≤ q - 1) := by
    intro k g hn hk h5
    unfold wordS at hk
    split at hk
    · cases hk
    · exact hput k _ hn hk h5
  have hr : ∀ g : Int → Bool, g (cls (s[p]'hp).toNat) = true → 0 < runN g (tl s p) := fun g hg => by rw [tl_cons hp, runN_cons, hg]; simp
  have h2 : Sx.step (s[p]'hp :: tl s (p + 1)) p = .tok t q := by rw [← tl_cons hp]; exact h
  rw [Sx.step_cons, ← tl_cons hp] at h2
  split at h2
  · cases h2
  split at h2
  · rename_i hc; exact hwd 1 isNm (hr _ (by rw [hc]; rfl)) h2 (by decide)
  split at h2
  · rename_i hc; exact hwd 2 isVr (hr _ (by rw [hc]; rfl)) h2 (by decide)
  split at h2
  · rename_i hc
    unfold numberS at h2
    split at h2
    · exact hput 4 10 (by decide) h2 (by decide)
    · exact hput 3 _ (by rw [tl_cons hp]; exact numN_pos (by rw [hc]; rfl)) h2 (by decide)
  split at h2
  · rcases quote_idx (tl s (p + 1)) with ⟨_, hd⟩ | ⟨m, c, t2, _, hm, htk, hd, hc⟩
    · rw [quote_none p hd] at h2; cases h2
    · rcases hc with rfl | rfl
      · rw [quote_ok p (p + 1) (p + 1 + m) m rfl rfl hm htk hd] at h2
        injection h2 with e1 e2
        subst e1 e2
        exact ⟨fun e => absurd rfl e, fun _ => ⟨by rw [show p + 1 + m + 1 - 1 = p + 1 + m by omega], by omega⟩⟩
      · rw [quote_line p m hm hd] at h2; cases h2
  split at h2
  · cases h2
  · unfold markS at h2
    rcases markL_len (l := tl s p) (p := p) (ms := marks8) (by decide) with ⟨m, hm, hpr, _, he⟩ | he
    · rw [he] at h2
      injection h2 with e1 e2
      subst e1 e2
      refine ⟨fun _ => ?_, fun e => (by cases e)⟩
      rw [Sx.extract_eq, show p + m.length - p = m.length by omega]
      have h9 := prefix_take (m := m) (l := tl s p)
      rw [hpr] at h9
      have h8 : (tl s p).take m.length = m := by simpa using h9.symm
      show (⟨m.toArray⟩ : ByteArray) = ⟨((tl s p).take m.length).toArray⟩
      rw [h8]
    · rw [he] at h2; cases h2
structure Sx.Rw (w wr : World) (s : ByteArray) (p : Nat) (l : List S48) (rm : List ByteArray) (tv rv : Value) : Prop where
  b : Below w.heap.size w wr
  rt : Kd.R k48 48 wr w.heap.size (fun k => w.heap.size ≤ k) tv l
  rr : Kd.R Kd.string 9 wr w.heap.size (fun k => w.heap.size ≤ k) rv rm
  le : p ≤ s.size
  nt : l.length ≤ p
  nr : rm.length ≤ p
  f : lex s = lexT s p l
theorem Sx.Rw.pushT {w wr w3 : World} {s : ByteArray} {p q : Nat} {l : List S48} {rm : List ByteArray} {tv rv v9 : Value} {t : S48} (h : Rw w wr s p l rm tv rv) (hs3 : Kd.R k48 48 w3 w.heap.size (fun k => w.heap.size ≤ k) v9 (l ++ [t])) (hb3 : Below w.heap.size wr w3) (hg3 : wr.grownBy w3 tv.ownBlock) (hpq : p < q) (hq : q ≤ s.size) (hf : lex s = lexT s q (l ++ [t])) : Rw w w3 s q (l ++ [t]) rm v9 rv :=
  ⟨h.b.trans hb3, hs3, Kd.R_mono (Kd.R_step (Kd.R_apartR h.rr h.rt (by decide)) (fun i hi hlt => hg3.block i hlt hi.2)) (fun k hk => hk.1), hq, by rw [List.length_append, List.length_singleton]; have := h.nt; omega, by have := h.nr; omega, hf⟩
theorem Sx.Rw.pushR {w wr w3 : World} {s : ByteArray} {p q : Nat} {l : List S48} {rm : List ByteArray} {tv rv v9 : Value} {t : ByteArray} (h : Rw w wr s p l rm tv rv) (hs3 : Kd.R Kd.string 9 w3 w.heap.size (fun k => w.heap.size ≤ k) v9 (rm ++ [t])) (hb3 : Below w.heap.size wr w3) (hg3 : wr.grownBy w3 rv.ownBlock) (hpq : p < q) (hq : q ≤ s.size) (hf : lex s = lexT s q l) : Rw w w3 s q l (rm ++ [t]) tv v9 :=
  ⟨h.b.trans hb3, Kd.R_mono (Kd.R_step (Kd.R_apartR h.rt h.rr (by decide)) (fun i hi hlt => hg3.block i hlt hi.2)) (fun k hk => hk.1), hs3, hq, by have := h.nt; omega, by rw [List.length_append, List.length_singleton]; have := h.nr; omega, hf⟩
theorem Sx.Rw.below {w wr w1 : World} {s : ByteArray} {p : Nat} {l : List S48} {rm : List ByteArray} {tv rv : Value} (h : Rw w wr s p l rm tv rv) (b : Below wr.heap.size wr w1) : Rw w w1 s p l rm tv rv :=
  ⟨h.b.trans (b.mono h.b.size), Kd.R_below h.rt b, Kd.R_below h.rr b, h.le, h.nt, h.nr, h.f⟩
theorem Sx.rem_step {s : ByteArray} {p : Nat} (hp : p < s.size) (hc : s[p]'hp = 35) : Sx.step (tl s p) p = .rem ⟨((tl s (p + 1)).takeWhile inLine).toArray⟩ (p + 1 + ((tl s (p + 1)).takeWhile inLine).length) := by
  rw [tl_cons hp, Sx.step_cons, hc]
  rfl
theorem Sx.go_step {s : ByteArray} {p : Nat} (hp : p < s.size) (hc : cls (s[p]'hp).toNat = 1) : Sx.step (tl s p) p = .go (p + 1) := by
  rw [tl_cons hp, Sx.step_cons, if_pos hc]
def Sx.WalkDone (X : Lx) (w : World) (e : Ending) (w' : World) : Prop := ∃ tv rv, e = .returned (.tuple #[tv, rv, .int .i64 X.e, .int .i64 X.at_]) ∧ Kd.R k48 48 w' w.heap.size (fun k => w.heap.size ≤ k) tv X.l ∧ Below w.heap.size w w'
theorem rwalk_calls (s : ByteArray) (w : World) : Calls Tryz.prog 28 #[.string s] w (WalkDone (lex s) w) := by
  by_cases hbig : 65536 < s.size
  · have z1 : decide ((65536 : Int) < (s.size : Int)) = true := decide_eq_true (by omega)
    have HL := Lib.hid (show lex s = ⟨[], 5, 0⟩ by unfold lex; rw [if_pos hbig])
    clear hbig
    go_enter Tryz.func28, Tryz.ntmps28
    go_wp2_with fail
    ((try simp only [Exit.inBlock, Exit.then]); refine bodyPost_ret (results_four rfl _ _ _) rfl ?_)
    rw [HL.out]
    exact ⟨_, _, rfl, Kd.R_nil _ _ _ _ _, Below.refl _ _⟩
  · have z1 : decide ((65536 : Int) < (s.size : Int)) = false := decide_eq_false (by omega)
    have HL := Lib.hid (lex_start hbig)
    have HZ := Lib.hid (show s.size ≤ 65536 by omega)
    clear hbig
    go_enter Tryz.func28, Tryz.ntmps28
    go_wp2_with fail
    go_loopw [6, 7, 8] (fun u6 u7 u8 wr => ∃ (p : Nat) (l : List S48) (rm : List ByteArray), u8 = .int .i64 p ∧ Rw w wr s p l rm u6 u7) (fun _ _ u8 _ => s.size - (RowKit.intOf u8).toNat)
    case atStart => exact ⟨0, [], [], rfl, Below.refl _ _, Kd.R_nil _ _ _ _ _, Kd.R_nil _ _ _ _ _, Nat.zero_le _, Nat.le_refl _, Nat.le_refl _, HL.out⟩
    case round =>
      obtain ⟨p, l, rm, rfl, hrw⟩ := hrel
      obtain ⟨A0, c0, rfl⟩ := Kd.R_slice hrw.rt
      obtain ⟨B0, d0, rfl⟩ := Kd.R_slice hrw.rr
      obtain ⟨W1, rfl⟩ : ∃ X : World, X = wr := ⟨_, rfl⟩
      have HRW := Lib.hid hrw
      have hzz := HZ.out
      have hle := hrw.le
      have g1 : (0 : Int) ≤ (p : Int) := by omega
      have g2 : (p : Int) ≤ 65536 := by omega
      by_cases hlt : p < s.size
      · have z2 : decide ((p : Int) < (s.size : Int)) = true := decide_eq_true (by omega)
        have z3 : decide (p < s.size) = true := decide_eq_true hlt
        have z4 : (p : Int) < (s.size : Int) := by omega
        by_cases hb : cls (s[p]'hlt).toNat = 1
        · have HBK := Lib.hid (show (cls (s[p]'hlt).toNat == 1) = true by rw [hb]; rfl)
          have HN := Lib.hid (lexT_ok (l := l) hlt (go_step hlt hb) rfl)
          clear hb hrw hle
          go_wp2_with (first | (go_at_call 46; ((with_reducible refine (rblank_calls _ _).mono ?_); rw [HBK.out]; rintro e w4 ⟨rfl, rfl⟩)))
          go_roundw
          case rel => exact ⟨p + 1, l, rm, rfl, HRW.out.b, HRW.out.rt, HRW.out.rr, hlt, by have := HRW.out.nt; omega, by have := HRW.out.nr; omega, HRW.out.f.trans HN.out.1⟩
          case measure => simp [RowKit.intOf]; omega
        · have HBK := Lib.hid (show (cls (s[p]'hlt).toNat == 1) = false by simpa using hb)
          by_cases hh : s[p]'hlt = 35
          · skip
            have h35 : (((s[p]'hlt).toNat : Int) == 35) = true := by rw [hh]; rfl
            obtain ⟨p1, hp1⟩ : ∃ p1, p + 1 = p1 := ⟨_, rfl⟩
            obtain ⟨Q, hQ⟩ : ∃ Q, p1 + ((tl s p1).takeWhile inLine).length = Q := ⟨_, rfl⟩
            have e1 : (p : Int) + 1 = (p1 : Int) := by omega
            have hst := rem_step hlt hh
            rw [hp1, hQ] at hst
            have HN := Lib.hid (lexT_ok (l := l) hlt hst rfl)
            have HQ := Lib.hid (show p + ((tl s p).takeWhile inLine).length = Q by
              rw [tl_cons hlt, List.takeWhile_cons, hh, hp1]
              show p + (((tl s p1).takeWhile inLine).length + 1) = Q
              omega)
            have HQP := Lib.hid (show p1 ≤ Q ∧ p < p1 by omega)
            have HLR := Lib.hid (show (rm.length + 1) * 16 ≤ 140737488355328 by have := HRW.out.nr; omega)
            clear hst hb hh hrw hle hp1 hQ
            go_wp2_with (first | (go_at_call 46; ((with_reducible refine (rblank_calls _ _).mono ?_); rw [HBK.out]; rintro e w4 ⟨rfl, rfl⟩)))
            go_loop [9] (fun u9 => ∃ j : Nat, u9 = .int .i64 j ∧ p ≤ j ∧ j ≤ s.size ∧ j + ((tl s j).takeWhile inLine).length = Q) (fun u9 => s.size - (RowKit.intOf u9).toNat)
            case atStart => exact ⟨p, rfl, Nat.le_refl _, Nat.le_of_lt hlt, HQ.out⟩
            case round =>
              obtain ⟨j, rfl, hpj, hjs, hj⟩ := hrel
              have HPJ := Lib.hid hpj
              have j1 : (0 : Int) ≤ (j : Int) := by omega
              have j2 : (j : Int) ≤ 65536 := by omega
              by_cases hlj : j < s.size
              · have w1 : decide ((j : Int) < (s.size : Int)) = true := decide_eq_true (by omega)
                have w2 : decide (j < s.size) = true := decide_eq_true hlj
                have w3 : (j : Int) < (s.size : Int) := by omega
                rw [tl_cons hlj, List.takeWhile_cons] at hj
                by_cases h10 : s[j]'hlj = 10
                · have i3 : (((s[j]'hlj).toNat : Int) != 10) = false := by rw [h10]; rfl
                  obtain rfl : j = Q := by rw [h10] at hj; exact hj
                  clear hj h10
                  have HPJ1 := Lib.hid (show p < j by have := HQP.out; omega)
                  have HJS := Lib.hid hjs
                  have m1 : (p1 : Int) ≤ (j : Int) := by have := HQP.out; omega
                  have m2 : (j : Int) ≤ (s.size : Int) := by omega
                  have m3 : ¬ ((j : Int) < (p1 : Int)) := by omega
                  have m4 : ¬ ((s.size : Int) < (j : Int)) := by omega
                  have m5 : (0 : Int) ≤ (p1 : Int) := by omega
                  clear hpj hjs
                  go_wp2_with (first | (at_builtin; refine Kd.R_append Kd.string (w0 := W1) w.heap.size rfl (.tmp 45) (.tmp 51) 23 9 (.string ⟨#[]⟩) 16 rfl Tryz.underlying23 info_st rfl (by decide) (by decide) (.slice B0 rm.length d0) rm (s.extract p1 j) [.string (s.extract p1 j)] (fun k => w.heap.size ≤ k) (fun _ => False) rfl rfl (by rfl) (fun _ hk => hk.elim) (fun k hk => Nat.le_trans HRW.out.b.size hk) HRW.out.rr (Below.refl _ _) HRW.out.b.size HLR.out ?_; intro v3 w3 hs3 hb3 hg3 hat3; obtain ⟨A9, c9, rfl⟩ := Kd.R_slice hs3; rw [List.length_append, List.length_singleton] at hs3; have HR3 := Lib.hid (HRW.out.pushR hs3 hb3 hg3 HPJ1.out HJS.out (HRW.out.f.trans HN.out.1)); clear hs3 hb3 hg3 hat3))
                  go_roundw
                  case rel => exact ⟨j, l, rm ++ [s.extract p1 j], rfl, HR3.out⟩
                  case measure => (have h9 := HPJ1.out; have h8 := HJS.out; simp [RowKit.intOf]; omega)
                · have i3 : (((s[j]'hlj).toNat : Int) != 10) = true := by
                    simp only [bne_iff_ne, ne_eq]; intro h2; exact h10 (UInt8.toNat_inj.1 (by show (s[j]'hlj).toNat = 10; omega))
                  have hin : inLine (s[j]'hlj) = true := by unfold inLine; simp [h10]
                  rw [hin, if_pos rfl, List.length_cons] at hj
                  have HJ1 := Lib.hid (show (j + 1) + ((tl s (j + 1)).takeWhile inLine).length = Q by omega)
                  clear h10 hj hpj hjs hin
                  go_wp2_with fail
                  go_round
                  case rel => exact ⟨j + 1, rfl, by have := HPJ.out; omega, hlj, HJ1.out⟩
                  case measure => simp [RowKit.intOf]; omega
              · have w1 : decide ((j : Int) < (s.size : Int)) = false := decide_eq_false (by omega)
                have w2 : decide (j < s.size) = false := decide_eq_false hlj
                obtain rfl : j = Q := by rw [tl_nil hlj] at hj; exact hj
                clear hj
                have HPJ1 := Lib.hid (show p < j by have := HQP.out; omega)
                have HJS := Lib.hid hjs
                have m1 : (p1 : Int) ≤ (j : Int) := by have := HQP.out; omega
                have m2 : (j : Int) ≤ (s.size : Int) := by omega
                have m3 : ¬ ((j : Int) < (p1 : Int)) := by omega
                have m4 : ¬ ((s.size : Int) < (j : Int)) := by omega
                have m5 : (0 : Int) ≤ (p1 : Int) := by omega
                clear hpj hjs
                go_wp2_with (first | (at_builtin; refine Kd.R_append Kd.string (w0 := W1) w.heap.size rfl (.tmp 45) (.tmp 51) 23 9 (.string ⟨#[]⟩) 16 rfl Tryz.underlying23 info_st rfl (by decide) (by decide) (.slice B0 rm.length d0) rm (s.extract p1 j) [.string (s.extract p1 j)] (fun k => w.heap.size ≤ k) (fun _ => False) rfl rfl (by rfl) (fun _ hk => hk.elim) (fun k hk => Nat.le_trans HRW.out.b.size hk) HRW.out.rr (Below.refl _ _) HRW.out.b.size HLR.out ?_; intro v3 w3 hs3 hb3 hg3 hat3; obtain ⟨A9, c9, rfl⟩ := Kd.R_slice hs3; rw [List.length_append, List.length_singleton] at hs3; have HR3 := Lib.hid (HRW.out.pushR hs3 hb3 hg3 HPJ1.out HJS.out (HRW.out.f.trans HN.out.1)); clear hs3 hb3 hg3 hat3))
                go_roundw
                case rel => exact ⟨j, l, rm ++ [s.extract p1 j], rfl, HR3.out⟩
                case measure => (have h9 := HPJ1.out; have h8 := HJS.out; simp [RowKit.intOf]; omega)
          · have h35 : (((s[p]'hlt).toNat : Int) == 35) = false := by
              simp only [beq_eq_false_iff_ne, ne_eq]; intro h9; exact hh (UInt8.toNat_inj.1 (by show (s[p]'hlt).toNat = 35; omega))
            obtain ⟨st, hst⟩ : ∃ st, Sx.step (tl s p) p = st := ⟨_, rfl⟩
            have hO := rone_calls s p hlt hzz hb hh W1
            rw [hst] at hO
            have hfit := step_fit (p := p) (tl_ne hlt)
            rw [hst] at hfit
            cases st with
            | go q =>
              have HO := Lib.hid hO
              clear hO hst hfit hb hh hrw hle
              go_wp2_with (first | (go_at_call 46; ((with_reducible refine (rblank_calls _ _).mono ?_); rw [HBK.out]; rintro e w4 ⟨rfl, rfl⟩)) | (go_at_call 47; ((with_reducible refine HO.out.mono ?_); rintro e w5 ⟨k, en, er, a, rfl, hone, hb5⟩; exact hone.elim)))
            | rem r q =>
              have HO := Lib.hid hO
              clear hO hst hfit hb hh hrw hle
              go_wp2_with (first | (go_at_call 46; ((with_reducible refine (rblank_calls _ _).mono ?_); rw [HBK.out]; rintro e w4 ⟨rfl, rfl⟩)) | (go_at_call 47; ((with_reducible refine HO.out.mono ?_); rintro e w5 ⟨k, en, er, a, rfl, hone, hb5⟩; exact hone.elim)))
            | jam t q =>
              have HN := Lib.hid (lexT_no (l := l) hlt hst rfl)
              have HO := Lib.hid hO
              clear hO hst hfit hb hh hrw hle
              go_wp2_with (first | (go_at_call 46; ((with_reducible refine (rblank_calls _ _).mono ?_); rw [HBK.out]; rintro e w4 ⟨rfl, rfl⟩)) | (go_at_call 47; ((with_reducible refine HO.out.mono ?_); rintro e w5 ⟨k, en, er, a, rfl, ⟨rfl, rfl, rfl, rfl⟩, hb5⟩; have HB5 := Lib.hid (HRW.out.b.trans (hb5.mono HRW.out.b.size)); clear hb5)))
              ((try simp only [Exit.inBlock, Exit.then]); refine bodyPost_ret (results_four rfl _ _ _) rfl ?_)
              rw [HRW.out.f, HN.out.1]
              exact ⟨_, _, rfl, Kd.R_nil _ _ _ _ _, HB5.out⟩
            | no e0 a0 =>
              have hno := lexT_no (l := l) hlt hst rfl
              have hne : (e0 != 0) = true := by simpa using hfit.1
              have HN := Lib.hid hno
              have HO := Lib.hid hO
              clear hO hst hfit hb hh hrw hle hno
              go_wp2_with (first | (go_at_call 46; ((with_reducible refine (rblank_calls _ _).mono ?_); rw [HBK.out]; rintro e w4 ⟨rfl, rfl⟩)) | (go_at_call 47; ((with_reducible refine HO.out.mono ?_); rintro e w5 ⟨k, en, er, a, rfl, ⟨rfl, rfl, rfl, rfl⟩, hb5⟩; have HB5 := Lib.hid (HRW.out.b.trans (hb5.mono HRW.out.b.size)); clear hb5)))
              ((try simp only [Exit.inBlock, Exit.then]); refine bodyPost_ret (results_four rfl _ _ _) rfl ?_)
              rw [HRW.out.f, HN.out.1]
              exact ⟨_, _, rfl, Kd.R_nil _ _ _ _ _, HB5.out⟩
            | tok t q =>
              obtain ⟨k, tx, a⟩ := t
              obtain ⟨ha, hpq, hqs, ht1, ht2⟩ := tok_text hlt hst
              dsimp only at ha ht1 ht2
              subst ha
              have HN := Lib.hid (lexT_ok (l := l) hlt hst rfl)
              have HO := Lib.hid hO
              have HPQ := Lib.hid (And.intro hpq hqs)
              have HLL := Lib.hid (show (l.length + 1) * 32 ≤ 140737488355328 by have := HRW.out.nt; omega)
              have k1 : (p : Int) ≤ (q : Int) := by omega
              have k2 : (q : Int) ≤ (s.size : Int) := by omega
              have k3 : ¬ ((q : Int) < (p : Int)) := by omega
              have k4 : ¬ ((s.size : Int) < (q : Int)) := by omega
              have k5 : p ≤ q := by omega
              have k6 : (0 : Int) ≤ (q : Int) := by omega
              by_cases h5 : k = 5
              · subst h5
                obtain ⟨htx, hpq1⟩ := ht2 rfl
                obtain ⟨p1, hp1⟩ : ∃ p1, p + 1 = p1 := ⟨_, rfl⟩
                obtain ⟨q1, hq1⟩ : ∃ q1, q - 1 = q1 := ⟨_, rfl⟩
                rw [hp1, hq1] at htx hpq1
                subst htx
                have e1 : (p : Int) + 1 = (p1 : Int) := by omega
                have e2 : (q : Int) - 1 = (q1 : Int) := by omega
                have m0 : (0 : Int) ≤ (p1 : Int) := by omega
                have m1 : (p1 : Int) ≤ (q1 : Int) := by omega
                have m2 : (q1 : Int) ≤ (s.size : Int) := by omega
                have m3 : ¬ ((q1 : Int) < (p1 : Int)) := by omega
                have m4 : ¬ ((s.size : Int) < (q1 : Int)) := by omega
                clear hO hst hfit hb hh hrw hle hpq hqs ht1 ht2 hp1 hq1
                go_wp2_with (first | (go_at_call 46; ((with_reducible refine (rblank_calls _ _).mono ?_); rw [HBK.out]; rintro e w4 ⟨rfl, rfl⟩)) | (go_at_call 47; ((with_reducible refine HO.out.mono ?_); rintro e w5 ⟨k, en, er, a, rfl, ⟨rfl, rfl, rfl, rfl⟩, hb5⟩; have HRW2 := Lib.hid (HRW.out.below hb5); clear hb5)) | (at_builtin; refine Kd.R_append k48 (w0 := w5) w.heap.size rfl (.tmp 78) (.tmp 83) 40 48 (.agg #[.int .i64 0, .string ⟨#[]⟩, .int .i64 0]) 32 rfl Tryz.underlying40 info_tk rfl (by decide) (by decide) (.slice A0 l.length c0) l (⟨5, s.extract p1 q1, p⟩ : S48) [.int .i64 5, .string (s.extract p1 q1), .int .i64 p] (fun k => w.heap.size ≤ k) (fun _ => False) rfl rfl (k48_mkM _ _ _ ⟨5, s.extract p1 q1, p⟩) (fun _ hk => hk.elim) (fun k hk => Nat.le_trans HRW2.out.b.size hk) HRW2.out.rt (Below.refl _ _) HRW2.out.b.size HLL.out ?_; intro v3 w3 hs3 hb3 hg3 hat3; obtain ⟨A9, c9, rfl⟩ := Kd.R_slice hs3; rw [List.length_append, List.length_singleton] at hs3; have HR3 := Lib.hid (HRW2.out.pushT hs3 hb3 hg3 HPQ.out.1 HPQ.out.2 (HRW2.out.f.trans HN.out.1)); clear hs3 hb3 hg3 hat3))
                go_roundw
                case rel => exact ⟨q, l ++ [⟨5, s.extract p1 q1, p⟩], rm, rfl, HR3.out⟩
                case measure => (have h9 := HPQ.out; simp [RowKit.intOf]; omega)
              · have htx := ht1 h5
                subst htx
                have hk5 : (k == 5) = false := by simpa using h5
                clear hO hst hfit hb hh hrw hle hpq hqs ht1 ht2 h5
                go_wp2_with (first | (go_at_call 46; ((with_reducible refine (rblank_calls _ _).mono ?_); rw [HBK.out]; rintro e w4 ⟨rfl, rfl⟩)) | (go_at_call 47; ((with_reducible refine HO.out.mono ?_); rintro e w5 ⟨k, en, er, a, rfl, ⟨rfl, rfl, rfl, rfl⟩, hb5⟩; have HRW2 := Lib.hid (HRW.out.below hb5); clear hb5)) | (at_builtin; refine Kd.R_append k48 (w0 := w5) w.heap.size rfl (.tmp 78) (.tmp 83) 40 48 (.agg #[.int .i64 0, .string ⟨#[]⟩, .int .i64 0]) 32 rfl Tryz.underlying40 info_tk rfl (by decide) (by decide) (.slice A0 l.length c0) l (⟨k, s.extract p q, p⟩ : S48) [.int .i64 k, .string (s.extract p q), .int .i64 p] (fun k => w.heap.size ≤ k) (fun _ => False) rfl rfl (k48_mkM _ _ _ ⟨k, s.extract p q, p⟩) (fun _ hk => hk.elim) (fun k hk => Nat.le_trans HRW2.out.b.size hk) HRW2.out.rt (Below.refl _ _) HRW2.out.b.size HLL.out ?_; intro v3 w3 hs3 hb3 hg3 hat3; obtain ⟨A9, c9, rfl⟩ := Kd.R_slice hs3; rw [List.length_append, List.length_singleton] at hs3; have HR3 := Lib.hid (HRW2.out.pushT hs3 hb3 hg3 HPQ.out.1 HPQ.out.2 (HRW2.out.f.trans HN.out.1)); clear hs3 hb3 hg3 hat3))
                go_roundw
                case rel => exact ⟨q, l ++ [⟨k, s.extract p q, p⟩], rm, rfl, HR3.out⟩
                case measure => (have h9 := HPQ.out; simp [RowKit.intOf]; omega)
      · have z2 : decide ((p : Int) < (s.size : Int)) = false := decide_eq_false (by omega)
        have z3 : decide (p < s.size) = false := decide_eq_false hlt
        have HE := Lib.hid (lexT_end (l := l) hlt)
        have HPE := Lib.hid (show p = s.size by omega)
        clear hrw hle
        go_wp2_with fail
        ((try simp only [Exit.inBlock, Exit.then]); refine bodyPost_ret (results_four rfl _ _ _) rfl ?_)
        rw [HRW.out.f, HE.out, HPE.out]
        exact ⟨_, _, rfl, HRW.out.rt, HRW.out.b⟩
end Go.Proofs.YtcakgennlliejaaGreatDoor
namespace Go.Proofs.YtcakgennlliejaaGreatDoor
open Go.Shelf Go.RowKit Go.Lib
open Go.Proofs.YtcakgennlliejaaGreatDoorW.PrintWords
open Go.Proofs.YtcakgennlliejaaGreatDoor.PSyntaxJoined
set_option linter.unusedVariables false
set_option linter.unusedSimpArgs false
namespace Sx
def lexL (r : List UInt8) (p : Nat) (l : List S48) : Lx := lexM r.length r p l
theorem lexL_step {c : UInt8} {r : List UInt8} {p : Nat} {l : List S48} : lexL (c :: r) p l = nxt r.length (c :: r) p l (Sx.step (c :: r) p) := lexM_succ _ _ _ _ (List.cons_ne_nil _ _)
theorem lexL_go {c : UInt8} {r : List UInt8} {p q : Nat} {l : List S48} (h : Sx.step (c :: r) p = .go q) (hq : p < q) : lexL (c :: r) p l = lexL ((c :: r).drop (q - p)) q l := by
  rw [lexL_step, h]
  exact lexM_fuel _ _ _ _ _ (by rw [List.length_drop, List.length_cons]; omega) (Nat.le_refl _)
theorem lexL_rem {c : UInt8} {r : List UInt8} {b : ByteArray} {p q : Nat} {l : List S48} (h : Sx.step (c :: r) p = .rem b q) (hq : p < q) : lexL (c :: r) p l = lexL ((c :: r).drop (q - p)) q l := by
  rw [lexL_step, h]
  exact lexM_fuel _ _ _ _ _ (by rw [List.length_drop, List.length_cons]; omega) (Nat.le_refl _)
theorem lexL_tok {c : UInt8} {r : List UInt8} {t : S48} {p q : Nat} {l : List S48} (h : Sx.step (c :: r) p = .tok t q) (hq : p < q) : lexL (c :: r) p l = lexL ((c :: r).drop (q - p)) q (l ++ [t]) := by
  rw [lexL_step, h]
  exact lexM_fuel _ _ _ _ _ (by rw [List.length_drop, List.length_cons]; omega) (Nat.le_refl _)
theorem lexL_blank {c : UInt8} {r : List UInt8} {p : Nat} {l : List S48} (hc : cls c.toNat = 1) : lexL (c :: r) p l = lexL r (p + 1) l := by
  rw [lexL_go (q := p + 1) (by rw [Sx.step_cons, if_pos hc]) (Nat.lt_succ_self p), show p + 1 - p = 1 by omega]
  rfl
def gap0 : List UInt8 := [32]
def gap1 : List UInt8 := [10, 9]
def gap2 : List UInt8 := [32, 35, 32, 97, 32, 114, 101, 109, 97, 114, 107, 46, 32, 107, 105, 110, 100, 10]
def gap3 : List UInt8 := [32, 32, 13, 10]
def IsGap (g : List UInt8) : Prop := g = gap0 ∨ g = gap1 ∨ g = gap2 ∨ g = gap3
theorem gap_head {g : List UInt8} (h : IsGap g) : ∃ b t, g = b :: t ∧ (b = 32 ∨ b = 10) := by
  rcases h with rfl | rfl | rfl | rfl
  · exact ⟨32, _, rfl, .inl rfl⟩
  · exact ⟨10, _, rfl, .inr rfl⟩
  · exact ⟨32, _, rfl, .inl rfl⟩
  · exact ⟨32, _, rfl, .inl rfl⟩
theorem lexL_gap {g : List UInt8} (h : IsGap g) (r : List UInt8) (p : Nat) (l : List S48) : lexL (g ++ r) p l = lexL r (p + g.length) l := by
  rcases h with rfl | rfl | rfl | rfl
  · exact lexL_blank (by decide)
  · show lexL (10 :: 9 :: r) p l = _
    rw [lexL_blank (by decide), lexL_blank (by decide)]
    rfl
  · show lexL (32 :: 35 :: 32 :: 97 :: 32 :: 114 :: 101 :: 109 :: 97 :: 114 :: 107 :: 46 :: 32 :: 107 :: 105 :: 110 :: 100 :: 10 :: r) p l = _
    rw [lexL_blank (by decide), lexL_rem (b := ⟨#[32, 97, 32, 114, 101, 109, 97, 114, 107, 46, 32, 107, 105, 110, 100]⟩) (q := p + 17) rfl (by omega), show p + 17 - (p + 1) = 16 by omega]
    show lexL (10 :: r) (p + 17) l = _
    rw [lexL_blank (by decide)]
    rfl
  · show lexL (32 :: 32 :: 13 :: 10 :: r) p l = _
    rw [lexL_blank (by decide), lexL_blank (by decide), lexL_blank (by decide), lexL_blank (by decide)]
    rfl
def tokB (t : S48) : List UInt8 := if t.f0 = 5 then 34 :: (t.f1.data.toList ++ [34]) else t.f1.data.toList
theorem tw_stop (f : UInt8 → Bool) : ∀ (W : List UInt8) (b : UInt8) (r : List UInt8), (∀ x ∈ W, f x = true) → f b = false → (W ++ b :: r).takeWhile f = W
  | [], b, r, _, h => by rw [List.nil_append, List.takeWhile_cons, h]; rfl
  | x :: W, b, r, hW, h => by
    rw [List.cons_append, List.takeWhile_cons, hW x List.mem_cons_self, if_pos rfl, tw_stop f W b r (fun y hy => hW y (List.mem_cons_of_mem _ hy)) h]
theorem tw_all (f : UInt8 → Bool) : ∀ (l : List UInt8), ∀ x ∈ l.takeWhile f, f x = true
  | [], x, h => by cases h
  | y :: l, x, h => by
    rw [List.takeWhile_cons] at h
    cases hy : f y
    · rw [hy] at h; cases h
    · rw [hy, if_pos rfl] at h
      rcases List.mem_cons.1 h with rfl | h2
      · exact hy
      · exact tw_all f l x h2
theorem tw_take (f : UInt8 → Bool) : ∀ (l : List UInt8), l.take (l.takeWhile f).length = l.takeWhile f
  | [] => rfl
  | y :: l => by
    rw [List.takeWhile_cons]
    cases hy : f y
    · rfl
    · rw [if_pos rfl, List.length_cons, List.take_succ_cons, tw_take f l]
theorem blank_byte {b : UInt8} (h : b = 32 ∨ b = 10) : cls b.toNat = 1 := by rcases h with rfl | rfl <;> decide
theorem put_again {k : Int} {W : List UInt8} {b : UInt8} {r : List UInt8} (p : Nat) (h : b = 32 ∨ b = 10) : putS k W.length (W ++ b :: r) p = .tok ⟨k, ⟨W.toArray⟩, p⟩ (p + W.length) := by
  unfold putS
  rw [List.drop_left, List.take_left]
  show (if isVr (cls b.toNat) = true then _ else _) = _
  rw [blank_byte h]
  rfl
theorem word_again {k : Int} {g : Int → Bool} {c : UInt8} {l : List UInt8} {b : UInt8} {r : List UInt8} (p : Nat) (hg1 : g 1 = false) (hn : ¬ 32 < runN g (c :: l)) (h : b = 32 ∨ b = 10) :
    wordS k g ((c :: l).takeWhile (good8 g) ++ b :: r) p = .tok ⟨k, ⟨((c :: l).takeWhile (good8 g)).toArray⟩, p⟩ (p + ((c :: l).takeWhile (good8 g)).length) := by
  have h1 : runN g ((c :: l).takeWhile (good8 g) ++ b :: r) = ((c :: l).takeWhile (good8 g)).length := by
    unfold runN
    rw [tw_stop (good8 g) _ b r (tw_all _ _) (by unfold good8; rw [blank_byte h]; exact hg1)]
  unfold wordS
  rw [h1, if_neg (show ¬ 32 < ((c :: l).takeWhile (good8 g)).length from hn), put_again p h]
theorem datF_five {l : List UInt8} (h : datF 10 l = true) : ∃ a b c d r, l = a :: b :: c :: d :: 45 :: r ∧ dg8 a = true ∧ dg8 b = true ∧ dg8 c = true ∧ dg8 d = true := by
  match l, h with
  | a :: b :: c :: d :: e :: r, h =>
    have h1 : (dg8 a && (dg8 b && (dg8 c && (dg8 d && (e == 45 && datF 5 r))))) = true := h
    simp only [Bool.and_eq_true, beq_iff_eq] at h1
    obtain ⟨ha, hb, hc, hd, he, _⟩ := h1
    subst he
    exact ⟨a, b, c, d, r, rfl, ha, hb, hc, hd⟩
  | [], h => cases h
  | [a], h => exact absurd (datF_len h) (by simp)
  | [a, b], h => exact absurd (datF_len h) (by simp)
  | [a, b, c], h => exact absurd (datF_len h) (by simp)
  | [a, b, c, d], h => exact absurd (datF_len h) (by simp)
theorem datF_take : ∀ (n : Nat) (l r : List UInt8), datF n l = true → datF n (l.take n ++ r) = true
  | 0, _, _, _ => rfl
  | n + 1, [], _, h => by cases h
  | n + 1, c :: l, r, h => by
    have h2 : ((if n = 5 ∨ n = 2 then c == 45 else dg8 c) && datF n l) = true := h
    rw [Bool.and_eq_true] at h2
    show ((if n = 5 ∨ n = 2 then c == 45 else dg8 c) && datF n (l.take n ++ r)) = true
    rw [h2.1, datF_take n l r h2.2]
    rfl
theorem no_date {N : List UInt8} {b : UInt8} {r : List UInt8} (hN : ∀ x ∈ N, x ≠ 45) (h : b = 32 ∨ b = 10) : datedL (N ++ b :: r) = false := by
  cases hd : datedL (N ++ b :: r) with
  | false => rfl
  | true =>
    obtain ⟨a1, a2, a3, a4, r2, hl, h1, h2, h3, h4⟩ := datF_five hd
    have hb : dg8 b = false := by unfold dg8; rw [blank_byte h]; rfl
    have hb2 : b ≠ 45 := by rcases h with rfl | rfl <;> decide
    match N, hN, hl with
    | [], _, hl => injection hl with e _; rw [e, h1] at hb; cases hb
    | [_], _, hl => injection hl with _ hl; injection hl with e _; rw [e, h2] at hb; cases hb
    | [_, _], _, hl => injection hl with _ hl; injection hl with _ hl; injection hl with e _; rw [e, h3] at hb; cases hb
    | [_, _, _], _, hl => injection hl with _ hl; injection hl with _ hl; injection hl with _ hl; injection hl with e _; rw [e, h4] at hb; cases hb
    | [_, _, _, _], _, hl => injection hl with _ hl; injection hl with _ hl; injection hl with _ hl; injection hl with _ hl; injection hl with e _; exact absurd e hb2
    | x1 :: x2 :: x3 :: x4 :: x5 :: N2, hN, hl =>
      injection hl with _ hl; injection hl with _ hl; injection hl with _ hl; injection hl with _ hl; injection hl with e _
      exact absurd e (hN x5 (by simp))
theorem dig_not {c : UInt8} (h : good8 isDig c = true) : c ≠ 45 := by rintro rfl; exact absurd h (by decide)
theorem num_form (l : List UInt8) : ∃ D, (∀ x ∈ D, good8 isDig x = true) ∧ (l.take (numN l) = D ∨ ∃ e E, l.take (numN l) = D ++ 46 :: e :: E ∧ good8 isDig e = true ∧ ∀ x ∈ E, good8 isDig x = true) ∧ (∀ c r, l = c :: r → good8 isDig c = true → ∃ D2, D = c :: D2) := by
  refine ⟨l.takeWhile (good8 isDig), tw_all _ _, ?_, fun c r h hc => ⟨r.takeWhile (good8 isDig), by rw [h, List.takeWhile_cons, hc]; rfl⟩⟩
  unfold numN
  have h0 : runN isDig l = (l.takeWhile (good8 isDig)).length := rfl
  have h1 := tw_take (good8 isDig) l
  have hdr : l = l.takeWhile (good8 isDig) ++ l.drop (runN isDig l) := by
    have h3 := List.take_append_drop (l.takeWhile (good8 isDig)).length l
    rw [h1] at h3; exact h3.symm
  split
  · rename_i c d r hc
    split
    · rename_i hcd
      rw [Bool.and_eq_true, beq_iff_eq] at hcd
      obtain ⟨rfl, hd⟩ := hcd
      have h6 : runN isDig (d :: r) = (r.takeWhile (good8 isDig)).length + 1 := by
        rw [runN_cons, show isDig (cls d.toNat) = true from hd]; rfl
      refine .inr ⟨d, r.takeWhile (good8 isDig), ?_, hd, tw_all _ _⟩
      rw [hc] at hdr
      rw [h6]
      generalize l.takeWhile (good8 isDig) = D at *
      rw [h0, hdr, show D.length + 1 + ((r.takeWhile (good8 isDig)).length + 1) = D.length + ((r.takeWhile (good8 isDig)).length + 2) by omega, List.take_length_add_append, List.take_succ_cons, List.take_succ_cons, tw_take]
    · exact .inl (by rw [h0, h1])
  · exact .inl (by rw [h0, h1])
theorem num_again {l : List UInt8} {b : UInt8} {r : List UInt8} (h : b = 32 ∨ b = 10) : numN (l.take (numN l) ++ b :: r) = (l.take (numN l)).length ∧ datedL (l.take (numN l) ++ b :: r) = false := by
  obtain ⟨D, hD, hform, _⟩ := num_form l
  have hb : good8 isDig b = false := by unfold good8; rw [blank_byte h]; rfl
  have hb2 : ¬ (b = 46) := by rcases h with rfl | rfl <;> decide
  rcases hform with hN | ⟨e, E, hN, he, hE⟩
  · rw [hN]
    refine ⟨?_, no_date (fun x hx => dig_not (hD x hx)) h⟩
    have h1 : runN isDig (D ++ b :: r) = D.length := by unfold runN; rw [tw_stop _ D b r hD hb]
    unfold numN
    rw [h1, List.drop_left]
    cases r with
    | nil => rfl
    | cons d r =>
      show (if (b == 46 && dg8 d) = true then _ else _) = _
      rw [show (b == 46) = false by simpa using hb2]; rfl
  · rw [hN]
    have e46 : good8 isDig 46 = false := by decide
    refine ⟨?_, no_date (fun x hx => ?_) h⟩
    · have h1 : runN isDig ((D ++ 46 :: e :: E) ++ b :: r) = D.length := by
        unfold runN
        rw [List.append_assoc, List.cons_append, tw_stop _ D 46 _ hD e46]
      have h2 : runN isDig (e :: (E ++ b :: r)) = E.length + 1 := by
        unfold runN
        rw [show e :: (E ++ b :: r) = (e :: E) ++ b :: r from rfl, tw_stop _ (e :: E) b r (fun x hx => by rcases List.mem_cons.1 hx with rfl | hx; exact he; exact hE x hx) hb]
        rfl
      unfold numN
      rw [h1, List.append_assoc, List.drop_left]
      show (if ((46 : UInt8) == 46 && dg8 e) = true then D.length + 1 + runN isDig (e :: (E ++ b :: r)) else D.length) = _
      rw [h2, show dg8 e = true from he, if_pos (by decide)]
      rw [List.length_append, List.length_cons, List.length_cons]
      omega
    · rcases List.mem_append.1 hx with hx | hx
      · exact dig_not (hD x hx)
      · rcases List.mem_cons.1 hx with rfl | hx
        · decide
        · rcases List.mem_cons.1 hx with rfl | hx
          · exact dig_not he
          · exact dig_not (hE x hx)
theorem mark_again : ∀ m ∈ marks8, ∀ (b : UInt8) (r : List UInt8) (p : Nat), b = 32 ∨ b = 10 → markS (m ++ b :: r) p = .tok ⟨6, ⟨m.toArray⟩, p⟩ (p + m.length) ∧ ∃ c t, m = c :: t ∧ cls c.toNat ≠ 1 ∧ cls c.toNat ≠ 2 ∧ cls c.toNat ≠ 3 ∧ cls c.toNat ≠ 4 ∧ (c == 34) = false ∧ (c == 35) = false := by
  have key : ∀ m ∈ marks8, ∀ b ∈ ([32, 10] : List UInt8), ∀ (r : List UInt8) (p : Nat), markS (m ++ b :: r) p = .tok ⟨6, ⟨m.toArray⟩, p⟩ (p + m.length) := by
    intro m hm b hb r p
    simp only [marks8, List.mem_cons, List.not_mem_nil, or_false] at hm hb
    rcases hm with rfl | rfl | rfl | rfl | rfl | rfl | rfl | rfl | rfl | rfl | rfl | rfl | rfl | rfl | rfl | rfl | rfl | rfl | rfl | rfl | rfl <;> rcases hb with rfl | rfl <;> rfl
  have key2 : ∀ m ∈ marks8, ∃ c t, m = c :: t ∧ cls c.toNat ≠ 1 ∧ cls c.toNat ≠ 2 ∧ cls c.toNat ≠ 3 ∧ cls c.toNat ≠ 4 ∧ (c == 34) = false ∧ (c == 35) = false := by
    intro m hm
    simp only [marks8, List.mem_cons, List.not_mem_nil, or_false] at hm
    rcases hm with rfl | rfl | rfl | rfl | rfl | rfl | rfl | rfl | rfl | rfl | rfl | rfl | rfl | rfl | rfl | rfl | rfl | rfl | rfl | rfl | rfl <;> exact ⟨_, _, rfl, by decide, by decide, by decide, by decide, by decide, by decide⟩
  exact fun m hm b r p hb => ⟨key m hm b (by rcases hb with rfl | rfl <;> simp) r p, key2 m hm⟩
theorem tok_again {c : UInt8} {l : List UInt8} {p q : Nat} {t : S48} (h : Sx.step (c :: l) p = .tok t q) (b : UInt8) (r : List UInt8) (hb : b = 32 ∨ b = 10) (p2 : Nat) :
    (∃ c2 l2, tokB t = c2 :: l2) ∧ Sx.step (tokB t ++ b :: r) p2 = .tok ⟨t.f0, t.f1, p2⟩ (p2 + (tokB t).length) := by
  have plain : ∀ (k : Int) (W : List UInt8), k ≠ 5 → tokB (⟨k, ⟨W.toArray⟩, p⟩ : S48) = W := fun k W hk => by unfold tokB; rw [if_neg hk]
  rw [Sx.step_cons] at h
  have hcl := fun k (hk : cls c.toNat = k) => hk
  -- a word
  have word : ∀ (k : Int) (g : Int → Bool), g 1 = false → k ≠ 5 → g (cls c.toNat) = true → wordS k g (c :: l) p = .tok t q →
      (∀ (c2 : UInt8) (r2 : List UInt8), c2 = c → Sx.step (c2 :: r2) p2 = wordS k g (c2 :: r2) p2) →
      (∃ c2 l2, tokB t = c2 :: l2) ∧ Sx.step (tokB t ++ b :: r) p2 = .tok ⟨t.f0, t.f1, p2⟩ (p2 + (tokB t).length) := by
    intro k g hg1 hk5 hgc hw hstep
    unfold wordS at hw
    split at hw
    · cases hw
    · rename_i hn
      unfold putS at hw
      split at hw
      · cases hw
      · injection hw with e1 e2
        subst e1
        have htk : (c :: l).take (runN g (c :: l)) = (c :: l).takeWhile (good8 g) := tw_take (good8 g) (c :: l)
        rw [htk]
        have hW : (c :: l).takeWhile (good8 g) = c :: l.takeWhile (good8 g) := by rw [List.takeWhile_cons, show good8 g c = true from hgc]; rfl
        rw [plain k _ hk5]
        refine ⟨⟨_, _, hW⟩, ?_⟩
        have h9 := word_again (k := k) (g := g) (c := c) (l := l) (b := b) (r := r) p2 hg1 hn hb
        rw [hW] at h9 ⊢
        rw [List.cons_append, hstep c _ rfl, ← List.cons_append]
        exact h9
  split at h
  · cases h
  split at h
  · rename_i h1 h2
    exact word 1 isNm rfl (by decide) (by rw [h2]; rfl) h (fun c2 r2 e => by subst e; rw [Sx.step_cons, if_neg h1, if_pos h2])
  split at h
  · rename_i h1 h2 h3
    exact word 2 isVr rfl (by decide) (by rw [h3]; rfl) h (fun c2 r2 e => by subst e; rw [Sx.step_cons, if_neg h1, if_neg h2, if_pos h3])
  split at h
  · rename_i h1 h2 h3 h4
    have hstep : ∀ r2, Sx.step (c :: r2) p2 = numberS (c :: r2) p2 := fun r2 => by rw [Sx.step_cons, if_neg h1, if_neg h2, if_neg h3, if_pos h4]
    unfold numberS at h
    split at h
    · rename_i hd
      unfold putS at h
      split at h
      · cases h
      · injection h with e1 e2
        subst e1
        have hlen := datedL_len hd
        have h10 : (c :: l).take 10 = c :: l.take 9 := rfl
        rw [plain 4 _ (by decide)]
        refine ⟨⟨_, _, h10⟩, ?_⟩
        have hd2 : datedL ((c :: l).take 10 ++ b :: r) = true := datF_take 10 _ _ hd
        have hl10 : ((c :: l).take 10).length = 10 := by rw [List.length_take]; omega
        have hp := put_again (k := 4) (W := (c :: l).take 10) (b := b) (r := r) p2 hb
        rw [hl10] at hp
        rw [hl10]
        rw [h10] at hp hd2 ⊢
        rw [List.cons_append, hstep]
        unfold numberS
        rw [← List.cons_append, hd2, if_pos rfl]
        exact hp
    · unfold putS at h
      split at h
      · cases h
      · injection h with e1 e2
        subst e1
        obtain ⟨hn, hnd⟩ := num_again (l := c :: l) (b := b) (r := r) hb
        have hpos : 0 < numN (c :: l) := numN_pos (by rw [h4]; rfl)
        obtain ⟨n, hnn⟩ : ∃ n, numN (c :: l) = n + 1 := ⟨numN (c :: l) - 1, by omega⟩
        have hW : (c :: l).take (numN (c :: l)) = c :: l.take n := by rw [hnn]; rfl
        rw [plain 3 _ (by decide)]
        refine ⟨⟨_, _, hW⟩, ?_⟩
        have hp := put_again (k := 3) (W := (c :: l).take (numN (c :: l))) (b := b) (r := r) p2 hb
        generalize (c :: l).take (numN (c :: l)) = N at *
        rw [hW] at hp hn hnd ⊢
        rw [List.cons_append, hstep]
        unfold numberS
        rw [← List.cons_append, hnd, if_neg (by decide), hn]
        exact hp
  split at h
  · rename_i h34
    unfold quoteS at h
    split at h
    · split at h
      · injection h with e1 e2
        subst e1
        have hT : tokB (⟨5, ⟨(l.takeWhile inQ).toArray⟩, p⟩ : S48) = 34 :: (l.takeWhile inQ ++ [34]) := by unfold tokB; rw [if_pos rfl]
        rw [hT]
        refine ⟨⟨_, _, rfl⟩, ?_⟩
        have hin : inQ 34 = false := by decide
        rw [List.cons_append, Sx.step_cons, if_neg (by decide), if_neg (by decide), if_neg (by decide), if_neg (by decide), if_pos (by decide)]
        unfold quoteS
        rw [List.append_assoc, List.singleton_append, tw_stop inQ _ 34 _ (tw_all _ _) hin, List.drop_left]
        show (if ((34 : UInt8) == 34) = true then _ else _) = _
        rw [if_pos (by decide), List.length_cons, List.length_append, List.length_singleton]
        rfl
      · cases h
    · cases h
  split at h
  · cases h
  · unfold markS at h
    rcases markL_len (l := c :: l) (p := p) (ms := marks8) (by decide) with ⟨m, hm, hpr, hmem, he⟩ | he
    · rw [he] at h
      injection h with e1 e2
      subst e1
      obtain ⟨hag, c2, t2, rfl, n1, n2, n3, n4, n5, n6⟩ := mark_again m hmem b r p2 hb
      rw [plain 6 _ (by decide)]
      refine ⟨⟨_, _, rfl⟩, ?_⟩
      rw [List.cons_append, Sx.step_cons, if_neg n1, if_neg n2, if_neg n3, if_neg n4, n5, if_neg (by decide), n6, if_neg (by decide), ← List.cons_append]
      exact hag
    · rw [he] at h; cases h
end Sx
end Go.Proofs.YtcakgennlliejaaGreatDoor
