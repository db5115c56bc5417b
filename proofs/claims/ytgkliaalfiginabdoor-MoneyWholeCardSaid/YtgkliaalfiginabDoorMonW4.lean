import Derived.Test.YtgkliaalfiginabDoorMonW3
import Derived.BigQuiet
/- the walk of MoneyWhole -/
namespace Go.Proofs.YtgkliaalfiginabDoor
open Go.RowKit Go.Lib
set_option linter.unusedVariables false
set_option linter.unusedSimpArgs false
set_option maxRecDepth 100000 in
theorem whole_bad (total : Int) (xs : List Int) (v : Value) (w : World) (hv : RdI w v xs) (he : Mo.shareErr total xs ≠ 0) :
    Calls Tryd.prog 6 #[.int .i64 total, v] w fun e w' => e = .returned (.bool true) ∧ Below w.heap.size w w' := by
  have HS := Lib.hid (fun w1 (b : Below w.heap.size w w1) => share_bad total xs v w1 (hv.below b) he)
  obtain ⟨er, her⟩ : ∃ er, Mo.shareErr total xs = er := ⟨_, rfl⟩
  rw [her] at HS he
  have e1 : (er != 0) = true := by simpa using he
  clear hv he her
  go_enter Tryd.func6, Tryd.ntmps6
  go_wp2_with (first
    | (go_at_call 16; refine (works_calls _).mono ?_; rintro e w1 ⟨rfl, b1⟩; have B1 := Lib.hid b1; clear b1)
    | (go_at_call 21; refine (HS.out _ B1.out).mono ?_; rintro e w2 ⟨rfl, rfl⟩))
  go_ret
  exact ⟨by first | rfl | simp, B1.out⟩
set_option maxHeartbeats 4000000 in
set_option maxRecDepth 100000 in
theorem whole_good (total : Int) (xs : List Int) (v : Value) (w : World) (hv : RdI w v xs) (he : Mo.shareErr total xs = 0) :
    Calls Tryd.prog 6 #[.int .i64 total, v] w fun e w' => e = .returned (.bool true) ∧ Below w.heap.size w w' := by
  obtain ⟨T, n, A, L, W, Q, R, rfl, hn, hT, h1, h2, hx, hw, hA, ha, hQ, hR, hL⟩ := share_ok total xs he
  have HS := Lib.hid (fun w1 (b : Below w.heap.size w w1) => share_good T n A L xs W Q R v w1 (hv.below b) hn hT h1 h2 hx hw hA ha hQ hR hL)
  have HLaw := Lib.hid (fun f (hs : St.Srt R f 0 n) (hf : ∀ i, i < n → f i < n) => Wh.law T n A L W Q R f hA ha h1 hQ hR hL hs hf)
  obtain ⟨A0, cp, rfl, hlen, hc⟩ := hv
  rw [hn] at hc HS ⊢
  obtain ⟨a, rfl, hcc⟩ := hc h1
  have HC := Lib.hid (fun w1 (b : Below w.heap.size w w1) j (hj : j < n) => (b.cell (p := a.add j) (World.block_lt_of_cell? w _ (hcc j _ (hx j hj)))).trans (hcc j _ (hx j hj)))
  have HT := Lib.hid hT
  clear hc hcc he hx hw hA ha hQ hR hL hlen
  go_enter Tryd.func6, Tryd.ntmps6
  go_wp2_with (first
    | (go_at_call 16; refine (works_calls _).mono ?_; rintro e w1 ⟨rfl, b1⟩; have B1 := Lib.hid b1; clear b1)
    | (go_at_call 21; refine (HS.out _ B1.out).mono ?_; rintro e w2 ⟨gp, f, rfl, hge, b2, hs, hf, hcell, -⟩
       have hok := HLaw.out f hs hf
       obtain ⟨B, hB⟩ : ∃ B, Sh.bump Q f L = B := ⟨_, rfl⟩
       rw [hB] at hok hcell
       have HOK := Lib.hid hok
       have B2 := Lib.hid (B1.out.trans (b2.mono B1.out.size))
       have HP := Lib.hid (fun wr (b : Below w2.heap.size w2 wr) j (hj : j < n) => (b.cell (p := ⟨gp, j, none⟩) (World.block_lt_of_cell? w2 _ (hcell j hj))).trans (hcell j hj))
       have hsum : Mo.sumE (Wh.pl n B) = ((T : Int), 0) := by rw [Wh.pl_sumE n B (by rw [hok.sum]; exact HT.out), hok.sum]
       have hr := sum_calls (Wh.pl n B) _ w2 (rdI_parts h2 hcell)
       rw [hsum] at hr
       have HSum := Lib.hid hr
       clear hge b2 hs hf hcell hok hsum hr hB HLaw HS)
    | (go_at_call 18; refine HSum.out.mono ?_; rintro e w3 ⟨rfl, rfl⟩; clear HSum))
  go_loop [9] (fun i => ∃ k : Nat, k ≤ n ∧ i = .int .i64 k) (fun i => n - (intOf i).toNat)
  case atStart => exact ⟨0, Nat.zero_le _, rfl⟩
  case round =>
    obtain ⟨k, hk, rfl⟩ := hrel
    by_cases hlt : k < n
    · have z1 : (k : Int) < n := by omega
      have z2 : (0 : Int) ≤ k := by omega
      have c1 := HP.out _ (Below.refl _ _) k hlt
      have c2 := HC.out _ B2.out k hlt
      have e1 : decide ((B k : Int) < 0) = false := decide_eq_false (by omega)
      by_cases hz : W k = 0
      · have hb := HOK.out.zero k hlt hz
        have e2 : ((W k : Int) == 0) = true := by rw [hz]; rfl
        have e3 : ((B k : Int) != 0) = false := by rw [hb]; rfl
        clear hb hz
        go_wp2_with fail
        go_round
        case rel => exact ⟨k + 1, by omega, by go_num⟩
        case measure => simp [intOf]; omega
      · have e2 : ((W k : Int) == 0) = false := by simp; omega
        clear hz
        go_wp2_with fail
        go_round
        case rel => exact ⟨k + 1, by omega, by go_num⟩
        case measure => simp [intOf]; omega
    · obtain rfl : n = k := by omega
      go_wp2_with fail
      go_loopw [10] (fun x wr => ∃ i : Nat, i ≤ n ∧ x = .int .i64 i ∧ Below w2.heap.size w2 wr) (fun x _ => n - (intOf x).toNat)
      case atStart => exact ⟨0, Nat.zero_le _, rfl, Below.refl _ _⟩
      case round =>
        obtain ⟨i, hi, rfl, hb⟩ := hrel
        have HB := Lib.hid hb
        clear hb
        have c1 := fun j (hj : j < n) => HP.out _ HB.out j hj
        by_cases c : i < n ∧ i < 64
        · have z1 : (i : Int) < n := by omega
          have z2 : (0 : Int) ≤ i := by omega
          have z3 : (i : Int) < 64 := by omega
          have hin := c.1
          clear c c1
          go_wp2_with fail
          go_loopw [11] (fun x wr => ∃ k : Nat, k ≤ i ∧ x = .int .i64 k ∧ Below w2.heap.size w2 wr) (fun x _ => i - (intOf x).toNat)
          case atStart => exact ⟨0, Nat.zero_le _, rfl, HB.out⟩
          case round =>
            obtain ⟨k, hk, rfl, hb⟩ := hrel
            have HB2 := Lib.hid hb
            clear hb
            by_cases hlt : k < i
            · have y1 : (k : Int) < i := by omega
              have y2 : (0 : Int) ≤ k := by omega
              have y3 : (k : Int) < n := by omega
              have q1 := HP.out _ HB2.out i hin
              have q2 := HP.out _ HB2.out k (by omega)
              have q3 := HC.out _ (B2.out.trans (HB2.out.mono B2.out.size)) i hin
              have q4 := HC.out _ (B2.out.trans (HB2.out.mono B2.out.size)) k (by omega)
              have hup := HOK.out.up i k hin (by omega)
              have hdn := HOK.out.up k i (by omega) hin
              have hsm := HOK.out.same i k hlt hin
              have bi : B i ≤ 1000000000000000 := by have := Sh.le_pre B i n hin; rw [HOK.out.sum] at this; exact Nat.le_trans this HT.out
              have bk : B k ≤ 1000000000000000 := by have := Sh.le_pre B k n (by omega); rw [HOK.out.sum] at this; exact Nat.le_trans this HT.out
              generalize B i = x at *
              generalize B k = y at *
              generalize W i = p at *
              generalize W k = r at *
              rcases Nat.lt_trichotomy p r with h | h | h
              · have hxy := hdn h
                have e1 : ((p : Int) == (r : Int)) = false := by simp; omega
                have e2 : decide ((p : Int) < r) = true := decide_eq_true (by omega)
                have e3 : decide ((r : Int) < p) = false := decide_eq_false (by omega)
                have e4 : decide ((y : Int) < x) = false := decide_eq_false (by omega)
                clear hup hdn hsm bi bk h hxy
                generalize (p : Int) = pI at *
                generalize (r : Int) = rI at *
                generalize (x : Int) = xI at *
                generalize (y : Int) = yI at *
                go_upto_region 20 with (fail)
                go_quiet (fail)
                go_upto_region 21 with (fail)
                go_quiet (fail)
                go_wp2_with fail
                go_roundw
                case rel => exact ⟨k + 1, by omega, by go_num, below_drewn HB2.out _⟩
                case measure => simp [intOf]; omega
              · have hxy := hsm h
                have e1 : ((p : Int) == (r : Int)) = true := by rw [h]; simp
                have e2 : decide ((p : Int) < r) = false := decide_eq_false (by omega)
                have e3 : decide ((r : Int) < p) = false := decide_eq_false (by omega)
                have e4 : decide ((y : Int) < x) = false := decide_eq_false (by omega)
                have e5 : IntKind.i64.wrap ((y : Int) - x) = (y : Int) - x := IntWalk.i64_in _ (by omega)
                have e6 : decide ((1 : Int) < (y : Int) - x) = false := decide_eq_false (by omega)
                clear hup hdn hsm bi bk hxy h
                generalize (p : Int) = pI at *
                generalize (r : Int) = rI at *
                generalize (x : Int) = xI at *
                generalize (y : Int) = yI at *
                go_upto_region 20 with (fail)
                go_quiet (fail)
                go_upto_region 21 with (fail)
                go_quiet (fail)
                go_wp2_with fail
                go_roundw
                case rel => exact ⟨k + 1, by omega, by go_num, below_drewn HB2.out _⟩
                case measure => simp [intOf]; omega
              · have hxy := hup h
                have e1 : ((p : Int) == (r : Int)) = false := by simp; omega
                have e2 : decide ((p : Int) < r) = false := decide_eq_false (by omega)
                have e3 : decide ((r : Int) < p) = true := decide_eq_true (by omega)
                have e4 : decide ((x : Int) < y) = false := decide_eq_false (by omega)
                clear hup hdn hsm bi bk h hxy
                generalize (p : Int) = pI at *
                generalize (r : Int) = rI at *
                generalize (x : Int) = xI at *
                generalize (y : Int) = yI at *
                go_upto_region 20 with (fail)
                go_quiet (fail)
                go_upto_region 21 with (fail)
                go_quiet (fail)
                go_wp2_with fail
                go_roundw
                case rel => exact ⟨k + 1, by omega, by go_num, below_drewn HB2.out _⟩
                case measure => simp [intOf]; omega
            · obtain rfl : i = k := by omega
              go_wp2_with fail
              go_roundw
              case rel => exact ⟨i + 1, by omega, by go_num, HB2.out⟩
              case measure => simp [intOf]; omega
        · clear c1
          by_cases c2 : i < n
          · have z1 : (i : Int) < n := by omega
            have z3 : ¬ ((i : Int) < 64) := by omega
            go_wp2_with fail
            go_ret
            exact ⟨by first | rfl | simp, B2.out.trans (HB.out.mono B2.out.size)⟩
          · have z1 : ¬ ((i : Int) < n) := by omega
            go_wp2_with fail
            go_ret
            exact ⟨by first | rfl | simp, B2.out.trans (HB.out.mono B2.out.size)⟩
end Go.Proofs.YtgkliaalfiginabDoor
