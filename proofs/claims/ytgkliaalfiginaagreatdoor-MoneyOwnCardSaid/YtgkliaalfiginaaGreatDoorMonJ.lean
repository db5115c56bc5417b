import Derived.Test.YtgkliaalfiginaaGreatDoorMonQ3
import Derived.Test.YtgkliaalfiginaaGreatDoorMonQ2
import Derived.Shelf.Abstract
namespace Go.Proofs.YtgkliaalfiginaaGreatDoor
open Go.RowKit Go.Lib
set_option linter.unusedVariables false
set_option linter.unusedSimpArgs false

namespace Mo
def sgn (m num : Int) : Bool := decide (m < 0) != decide (num < 0)
/-- how 'Scale' answers behind its tests: x the product's size -/
def scale2 (neg : Bool) (x den r : Nat) : Int × Int :=
  if den ≤ x / 18446744073709551616 then (0, 22)
  else if 1000000000000000 < wayN r neg (x / den) (x % den) den then (0, 22)
  else ((if neg = true then -(wayN r neg (x / den) (x % den) den : Int) else (wayN r neg (x / den) (x % den) den : Int)), 0)
theorem inc_lt (n : Nat) : inc n < 18446744073709551616 := Nat.mod_lt _ (by decide)
theorem wayN_lt (r : Nat) (neg : Bool) (n rest den : Nat) (h : n < 18446744073709551616) : wayN r neg n rest den < 18446744073709551616 := by
  have hu : upN n rest < 18446744073709551616 := by unfold upN; split; exact h; exact inc_lt n
  have hh : halfN n rest den < 18446744073709551616 := by unfold halfN; split; exact inc_lt n; exact h
  unfold wayN
  split
  · exact h
  · exact hu
  · split; exact hu; exact h
  · split; exact h; exact hu
  · exact hh
  · unfold evenN; split; exact Nat.mod_lt _ (by decide); exact hh
theorem div_lt {x den hi lo : Nat} (h : hi * 18446744073709551616 + lo = x) (hlo : lo < 18446744073709551616) (hh : hi < den) : x / den < 18446744073709551616 := by
  rw [Nat.div_lt_iff_lt_mul (by omega)]
  have h7 := Nat.mul_le_mul_right 18446744073709551616 (show hi + 1 ≤ den by omega)
  rw [Nat.mul_comm]
  omega
end Mo
/-- what Div64 does at these -/
def DivOk (hi lo y : Nat) : Prop := ∀ w, Calls Tryz.prog 14 #[.int .u64 hi, .int .u64 lo, .int .u64 y] w fun e w' => e = .returned (.tuple #[.int .u64 (((hi * 18446744073709551616 + lo) / y : Nat) : Int), .int .u64 (((hi * 18446744073709551616 + lo) % y : Nat) : Int)]) ∧ ∃ n, w' = w.drewN n
theorem zeroF : ∀ w, (zeroValue 86).run Tryz.prog w = .ok .nilFunc w := fun w => by kernel_rfl

theorem way_enters (r : Nat) (h1 : 1 ≤ r) (h2 : r ≤ 6) : ∀ args w, (callFunc (Mo.wayF r) args).run Tryz.prog w = .ok (.enter (Mo.wayF r) args) w := by
  have : r = 1 ∨ r = 2 ∨ r = 3 ∨ r = 4 ∨ r = 5 ∨ r = 6 := by omega
  rcases this with rfl | rfl | rfl | rfl | rfl | rfl
  · exact Go.Proofs.enters_of (f := 82) Tryz.func82 (by kernel_rfl) rfl
  · exact Go.Proofs.enters_of (f := 83) Tryz.func83 (by kernel_rfl) rfl
  · exact Go.Proofs.enters_of (f := 84) Tryz.func84 (by kernel_rfl) rfl
  · exact Go.Proofs.enters_of (f := 85) Tryz.func85 (by kernel_rfl) rfl
  · exact Go.Proofs.enters_of (f := 86) Tryz.func86 (by kernel_rfl) rfl
  · exact Go.Proofs.enters_of (f := 87) Tryz.func87 (by kernel_rfl) rfl

set_option maxHeartbeats 2000000 in
set_option maxRecDepth 100000 in
theorem scale_in (m num : Int) (den r : Nat) (hk : Mo.chk m = 0) (h1 : 1 ≤ den) (h2 : den ≤ 1000000000) (h3 : -1000000000 ≤ num) (h4 : num ≤ 1000000000) (r1 : 1 ≤ r) (r2 : r ≤ 6) (w : World)
    (hD : m.natAbs * num.natAbs / 18446744073709551616 < den → DivOk (m.natAbs * num.natAbs / 18446744073709551616) (m.natAbs * num.natAbs % 18446744073709551616) den) :
    Calls Tryz.prog 10 #[.int .i64 m, .int .i64 num, .int .i64 den, .int .i64 r] w fun e w' => e = .returned (.tuple #[.int .i64 (Mo.scale2 (Mo.sgn m num) (m.natAbs * num.natAbs) den r).1, .int .i64 (Mo.scale2 (Mo.sgn m num) (m.natAbs * num.natAbs) den r).2]) ∧ Below w.heap.size w w' := by
  have hb := chk_bound m hk
  have k1 : (Mo.chk m != 0) = false := by rw [hk]; rfl
  have A1 := Lib.hid (fun w => abs_calls m (by omega) (by omega) w)
  have A2 := Lib.hid (fun w => abs_calls num (by omega) (by omega) w)
  have M1 := Lib.hid (fun w => Tryz.bits_Mul64 m.natAbs num.natAbs (by omega) (by omega) w)
  have W1 := Lib.hid (ways_calls w)
  obtain ⟨g1, g2⟩ := Mo.ways_at r r1 r2
  have hkey := keyR r (by have : r ≤ 6 := r2; exact wf_nat r (by omega))
  have c1 : decide ((den : Int) < 1) = false := decide_eq_false (by omega)
  have c2 : decide ((1000000000 : Int) < (den : Int)) = false := decide_eq_false (by omega)
  have c3 : decide (num < -1000000000) = false := decide_eq_false (by omega)
  have c4 : decide ((1000000000 : Int) < num) = false := decide_eq_false (by omega)
  have c5 : IntKind.u64.wrap (den : Int) = den := by rw [IntKind.wrap_u64]; omega
  have HK := Lib.hid (And.intro h1 (And.intro h2 (And.intro r1 r2)))
  have HG1 := Lib.hid g1
  have HG2 := Lib.hid g2
  unfold Mo.sgn
  generalize m.natAbs * num.natAbs = x at *
  generalize hS : Mo.scale2 (decide (m < 0) != decide (num < 0)) x den r = res at *
  have HS := Lib.hid hS
  clear hb hk h1 h2 h3 h4 r1 r2 g1 hS
  go_enter Tryz.func10, Tryz.ntmps10
  go_upto_region 6 with (first
    | (go_at_call 12; refine (check_calls _ _).mono ?_; rintro e W2 ⟨rfl, rfl⟩)
    | (go_at_call 47; refine W1.out.mono ?_; rintro e w1 ⟨rfl, hown, hb1⟩; have HOWN := Lib.hid hown; have HB1 := Lib.hid hb1; clear hown hb1)
    | (at_lookup; refine wpList_lookup_own_ok _ rfl _ _ 88 rfl 62 86 lawR Tryz.underlying88 Mo.funR (zeroF _) .nil [] rfl w.heap.size 6 Mo.waysD rfl HOWN.out _ _ rfl hkey ?_; intro v ps hv; rw [HG1.out] at hv; obtain rfl := Mo.funR_inv hv; rw [HG2.out]; clear hv))
  have HD := Lib.hid hD
  clear hD g2 hkey W1 HG1 HG2 HOWN k1 c1 c2 c3 c4
  have hlo : x % 18446744073709551616 < 18446744073709551616 := Nat.mod_lt _ (by decide)
  have hxx : x / 18446744073709551616 * 18446744073709551616 + x % 18446744073709551616 = x := by omega
  unfold Mo.scale2 at HS
  generalize x / 18446744073709551616 = hi at *
  generalize x % 18446744073709551616 = lo at *
  by_cases hge : den ≤ hi
  · have d1 : decide ((den : Int) ≤ (hi : Int)) = true := decide_eq_true (by omega)
    have d1' : decide (den ≤ hi) = true := decide_eq_true hge
    have hr := Lib.hid hge
    clear hge
    go_wp2_with (first
      | (go_at_call 48; (with_reducible refine (A1.out _).mono ?_); rintro e W2 ⟨rfl, rfl⟩)
      | (go_at_call 48; (with_reducible refine (A2.out _).mono ?_); rintro e W2 ⟨rfl, rfl⟩)
      | (go_at_call 13; refine (M1.out _).mono ?_; rintro e W2 ⟨rfl, rfl⟩))
    go_ret2
    have := HS.out
    rw [if_pos hr.out] at this
    exact ⟨by rw [← this]; rfl, HB1.out⟩
  · have d1 : decide ((den : Int) ≤ (hi : Int)) = false := decide_eq_false (by omega)
    have d1' : decide (den ≤ hi) = false := decide_eq_false hge
    have eW := way_enters r HK.out.2.2.1 HK.out.2.2.2
    have hr := Lib.hid hge
    have HV := Lib.hid (HD.out (by omega))
    unfold DivOk at HV
    rw [hxx] at HV
    clear HD hge
    have hrest : x % den < den := Nat.mod_lt _ (by have := HK.out; omega)
    have HW := Lib.hid (fun w => way_calls r HK.out.2.2.1 HK.out.2.2.2 (x / den) (x % den) den (decide (m < 0) != decide (num < 0)) w hrest (by have := HK.out; omega))
    have hd0 : 0 < den := by have := HK.out; omega
    have hHS := HS.out
    rw [if_neg hr.out] at hHS
    have HS2 := Lib.hid hHS
    have hvlt : Mo.wayN r (decide (m < 0) != decide (num < 0)) (x / den) (x % den) den < 18446744073709551616 := Mo.wayN_lt r _ _ _ _ (Mo.div_lt hxx hlo (by have := hr.out; omega))
    clear HS hHS hr hxx hlo hrest
    generalize Mo.wayN r (decide (m < 0) != decide (num < 0)) (x / den) (x % den) den = v at *
    generalize x / den = n at *
    generalize x % den = rest at *
    generalize hsg : (decide (m < 0) != decide (num < 0)) = sg at *
    cases hm : decide (m < 0) <;> cases hn : decide (num < 0)
    all_goals
      rw [hm, hn] at hsg
      have hsg2 := hsg.symm
      simp only [bne_self_eq_false, Bool.false_bne, Bool.bne_false, Bool.true_bne, Bool.not_false, Bool.not_true] at hsg2
      clear hsg
      subst hsg2
      by_cases hov : 1000000000000000 < v
      · have d2 : decide ((1000000000000000 : Int) < (v : Int)) = true := decide_eq_true (by omega)
        have d2' : decide (1000000000000000 < v) = true := decide_eq_true hov
        have ho := Lib.hid hov
        clear hov
        go_wp2_with (first
          | (go_at_call 48; (with_reducible refine (A1.out _).mono ?_); rintro e W2 ⟨rfl, rfl⟩)
          | (go_at_call 48; (with_reducible refine (A2.out _).mono ?_); rintro e W2 ⟨rfl, rfl⟩)
          | (go_at_call 13; refine (M1.out _).mono ?_; rintro e W2 ⟨rfl, rfl⟩)
          | (go_at_call 14; refine (HV.out _).mono ?_; rintro e W3 ⟨rfl, nq, rfl⟩)
          | ((with_reducible refine (HW.out _).mono ?_); rintro e W4 ⟨rfl, hb4⟩))
        go_ret2
        have := HS2.out
        rw [if_pos ho.out] at this
        exact ⟨by rw [← this]; rfl, (below_drewn HB1.out _).trans (hb4.mono (below_drewn HB1.out _).size)⟩
      · have d2 : decide ((1000000000000000 : Int) < (v : Int)) = false := decide_eq_false (by omega)
        have d2' : decide (1000000000000000 < v) = false := decide_eq_false hov
        have v1 : IntKind.i64.wrap (v : Int) = v := IntWalk.i64_in _ (by omega)
        have v2 : IntKind.i64.wrap (-(v : Int)) = -(v : Int) := IntWalk.i64_in _ (by omega)
        have ho := Lib.hid hov
        clear hov
        go_wp2_with (first
          | (go_at_call 48; (with_reducible refine (A1.out _).mono ?_); rintro e W2 ⟨rfl, rfl⟩)
          | (go_at_call 48; (with_reducible refine (A2.out _).mono ?_); rintro e W2 ⟨rfl, rfl⟩)
          | (go_at_call 13; refine (M1.out _).mono ?_; rintro e W2 ⟨rfl, rfl⟩)
          | (go_at_call 14; refine (HV.out _).mono ?_; rintro e W3 ⟨rfl, nq, rfl⟩)
          | ((with_reducible refine (HW.out _).mono ?_); rintro e W4 ⟨rfl, hb4⟩))
        go_ret2
        have := HS2.out
        rw [if_neg ho.out] at this
        exact ⟨by rw [← this]; rfl, (below_drewn HB1.out _).trans (hb4.mono (below_drewn HB1.out _).size)⟩
end Go.Proofs.YtgkliaalfiginaaGreatDoor
