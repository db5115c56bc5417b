import Derived.Test.YtgkliaalfiginaaGreatDoorMonQ1
import Derived.Deep.DeepCutAuto
import Derived.Deep.Cut
import Derived.Lib.SmallJoins
namespace Go.Proofs.YtgkliaalfiginaaGreatDoor
open Go.RowKit Go.Lib
set_option linter.unusedVariables false
set_option linter.unusedSimpArgs false

namespace Mo
def c1 (wh : List UInt8) : Bool := !digB wh || (decide (1 < wh.length) && (wh[0]? == some 48))
def c2 (ha : Bool) (ce : List UInt8) : Bool := ha && (ce.length != 2 || !digB ce || ce == [48, 48])
def c3 (neg : Bool) (wh : List UInt8) (ha : Bool) : Bool := neg && wh == [48] && !ha
/-- the number of cents that the text spells, without the sign -/
def cents (wh : List UInt8) (ha : Bool) (ce : List UInt8) : Int := (val 0 wh : Int) * 100 + (if ha then (dg (ce.getD 0 0) : Int) * 10 + (dg (ce.getD 1 0) : Int) else 0)
/-- how 'Parse' answers -/
def parse3 (neg : Bool) (wh ce : List UInt8) (ha : Bool) : Int × Int :=
  if c1 wh = true then (0, 21) else if c2 ha ce = true then (0, 21) else if c3 neg wh ha = true then (0, 21) else if 14 < wh.length then (0, 22)
  else if chk (if neg then -cents wh ha ce else cents wh ha ce) = 0 then ((if neg then -cents wh ha ce else cents wh ha ce), 0) else (0, 22)
def parse (l : List UInt8) : Int × Int :=
  parse3 (Lib.hasPrefix l [45]) (cutDot (Lib.trimPrefix l [45])).1 (cutDot (Lib.trimPrefix l [45])).2.1 (cutDot (Lib.trimPrefix l [45])).2.2
theorem val_lt (l : List UInt8) (h : digB l = true) (hl : l.length ≤ 14) : val 0 l < 100000000000000 := by
  unfold digB at h
  simp only [Bool.and_eq_true] at h
  have hv := val_le l 0 h.2
  have hp : 10 ^ l.length ≤ 10 ^ 14 := Nat.pow_le_pow_right (by omega) hl
  have : (10 : Nat) ^ 14 = 100000000000000 := by decide
  omega
theorem cut_len (l : List UInt8) : (cutDot l).1.length ≤ l.length ∧ (cutDot l).2.1.length ≤ l.length := by
  unfold cutDot
  split
  · simp
  · simp; omega
theorem trim_len (l : List UInt8) : (Lib.trimPrefix l [45]).length ≤ l.length := by
  unfold Lib.trimPrefix
  split
  · simp
  · exact Nat.le_refl _
end Mo

theorem below_drewn {B : Nat} {w w1 : World} (h : Below B w w1) (n : Nat) : Below B w (w1.drewN n) := ⟨h.os, h.tape, h.output, h.size, h.block⟩
theorem below_bytes (w : World) (t : ByteArray) : Below w.heap.size w (Lib.bytesWorld w 5 t) :=
  Go.Joins.below_bytesWorld _ _ _ _ (Nat.le_refl _)

set_option maxHeartbeats 4000000 in
set_option maxRecDepth 100000 in
theorem parse_calls (l : List UInt8) (hl : l.length ≤ 9223372036854770000) (w : World) :
    Calls Tryz.prog 8 #[.string (Mo.S l)] w fun e w' => e = .returned (.tuple #[.int .i64 (Mo.parse l).1, .int .i64 (Mo.parse l).2]) ∧ Below w.heap.size w w' := by
  have hP := Tryz.strings_CutPrefix (Mo.S l) ⟨#[45]⟩ w
  have hl1 := Mo.trim_len l
  have hC := fun w => cut_calls (Lib.trimPrefix l [45]) (by omega) w
  have hl2 := Mo.cut_len (Lib.trimPrefix l [45])
  rw [Mo.S_data] at hP
  unfold Mo.parse
  have e1 : (⟨#[45]⟩ : ByteArray).data.toList = [45] := rfl
  rw [e1] at hP
  generalize Lib.hasPrefix l [45] = neg at *
  generalize hb : Lib.trimPrefix l [45] = b at *
  generalize (Mo.cutDot b).1 = wh at *
  generalize (Mo.cutDot b).2.1 = ce at *
  generalize (Mo.cutDot b).2.2 = ha at *
  have HP := Lib.hid (hP.mono (fun e w' (h : _ ∧ _) => And.intro h.1 h.2.symm))
  have HC := Lib.hid hC
  have HW := Lib.hid hl2
  clear hP hC hb e1
  go_enter Tryz.func8, Tryz.ntmps8
  go_upto_region 3 with (first | (go_at_call 42; refine HP.out.mono ?_; rintro e w' ⟨rfl, rfl⟩) | (go_at_call 43; refine (HC.out _).mono ?_; rintro e w' ⟨rfl, n1, rfl⟩))
  have hb1 := Lib.hid (below_drewn (Below.refl w.heap.size w) n1)
  clear HP HC
  have hsz := Mo.S_size wh
  have hsc := Mo.S_size ce
  go_cut [22] (fun v W => v = .bool (Mo.c1 wh) ∧ Below w.heap.size w W)
  case first =>
    have hD := fun W => digits_calls (Mo.S wh) W
    rw [Mo.S_data] at hD
    have hnil : Mo.digB wh = true → wh ≠ [] := by rintro h rfl; simp [Mo.digB] at h
    cases hd : Mo.digB wh with
    | false =>
      rw [hd] at hD
      have HD := Lib.hid hD
      have hc := Lib.hid (show Mo.c1 wh = true by simp [Mo.c1, hd])
      clear hD
      go_wp2_with (first | (go_at_call 44; refine (HD.out _).mono ?_; rintro e W ⟨rfl, hB⟩))
      go_meet
      exact ⟨by rw [hc.out], hb1.out.trans (hB.mono hb1.out.size)⟩
    | true =>
      rw [hd] at hD
      have HD := Lib.hid hD
      clear hD
      by_cases hlen : 1 < wh.length
      · have d1 : decide ((1 : Int) < (wh.length : Int)) = true := decide_eq_true (by omega)
        have d2 : decide (1 < wh.length) = true := decide_eq_true hlen
        obtain ⟨x, hx⟩ : ∃ x, wh[0]? = some x := ⟨_, List.getElem?_eq_getElem (by omega)⟩
        have hsz0 : 0 < (Mo.S wh).size := by omega
        have hsz1 : (0 : Int) < ((Mo.S wh).size : Int) := by omega
        have hg := Mo.S_get wh 0 x hx
        by_cases hx0 : x.toNat = 48
        · have hc := Lib.hid (show Mo.c1 wh = true by
            have : x = 48 := UInt8.toNat_inj.1 hx0
            simp [Mo.c1, hd, hlen, hx, this])
          have d3 : ((x.toNat : Int) == 48) = true := by rw [hx0]; rfl
          generalize hT : Mo.S wh = T at *
          have hg2 := hg hsz0
          clear hg
          go_wp2_with (first | (go_at_call 44; refine (HD.out _).mono ?_; rintro e W ⟨rfl, hB⟩))
          go_meet
          exact ⟨by rw [hc.out], hb1.out.trans (hB.mono hb1.out.size)⟩
        · have hc := Lib.hid (show Mo.c1 wh = false by
            have : ¬ x = 48 := fun e => hx0 (by rw [e]; rfl)
            simp [Mo.c1, hd, hlen, hx, this])
          have d3 : ((x.toNat : Int) == 48) = false := by simp; omega
          generalize hT : Mo.S wh = T at *
          have hg2 := hg hsz0
          clear hg
          go_wp2_with (first | (go_at_call 44; refine (HD.out _).mono ?_; rintro e W ⟨rfl, hB⟩))
          go_meet
          exact ⟨by rw [hc.out], hb1.out.trans (hB.mono hb1.out.size)⟩
      · have d1 : decide ((1 : Int) < (wh.length : Int)) = false := decide_eq_false (by omega)
        have d2 : decide (1 < wh.length) = false := decide_eq_false hlen
        have hc := Lib.hid (show Mo.c1 wh = false by simp [Mo.c1, hd, d2])
        go_wp2_with (first | (go_at_call 44; refine (HD.out _).mono ?_; rintro e W ⟨rfl, hB⟩))
        go_meet
        exact ⟨by rw [hc.out], hb1.out.trans (hB.mono hb1.out.size)⟩
  case rest =>
    obtain ⟨rfl, hb2⟩ := hcut
    have HB2 := Lib.hid hb2
    clear hb1 hb2
    cases h1 : Mo.c1 wh with
    | true =>
      have hr := Lib.hid (show Mo.parse3 neg wh ce ha = (0, 21) by simp [Mo.parse3, h1])
      go_wp2
      go_ret2
      exact ⟨by rw [hr.out]; rfl, HB2.out⟩
    | false =>
      have hdw : Mo.digB wh = true := by
        cases h : Mo.digB wh with
        | true => rfl
        | false => simp [Mo.c1, h] at h1
      go_upto_region 5 with (fail)
      go_cut [36] (fun v W => v = .bool (Mo.c2 ha ce) ∧ Below w.heap.size w W)
      case first =>
        cases ha with
        | false =>
          have hc := Lib.hid (show Mo.c2 false ce = false by simp [Mo.c2])
          go_wp2
          go_meet
          exact ⟨by rw [hc.out], HB2.out⟩
        | true =>
          by_cases hlen : ce.length = 2
          · have d1 : ((ce.length : Int) != 2) = false := by rw [hlen]; rfl
            have d2 : (ce.length != 2) = false := by rw [hlen]; rfl
            have hD := fun W => digits_calls (Mo.S ce) W
            rw [Mo.S_data] at hD
            cases hd : Mo.digB ce with
            | false =>
              rw [hd] at hD
              have HD := Lib.hid hD
              have hc := Lib.hid (show Mo.c2 true ce = true by simp [Mo.c2, hd])
              clear hD
              go_wp2_with (first | (go_at_call 44; refine (HD.out _).mono ?_; rintro e W ⟨rfl, hB⟩))
              go_meet
              exact ⟨by rw [hc.out], HB2.out.trans (hB.mono HB2.out.size)⟩
            | true =>
              rw [hd] at hD
              have HD := Lib.hid hD
              have d3 : ((Mo.S ce).toList == [48, 48]) = (ce == [48, 48]) := by rw [Mo.S_toList]
              have hc := Lib.hid (show Mo.c2 true ce = (ce == [48, 48]) by simp [Mo.c2, hd, hlen])
              clear hD
              go_wp2_with (first | (go_at_call 44; refine (HD.out _).mono ?_; rintro e W ⟨rfl, hB⟩))
              go_meet
              exact ⟨by rw [hc.out, ← d3], HB2.out.trans (hB.mono HB2.out.size)⟩
          · have d1 : ((ce.length : Int) != 2) = true := by simpa using fun h => hlen (by omega)
            have d2 : (ce.length != 2) = true := by simpa using hlen
            have hc := Lib.hid (show Mo.c2 true ce = true by simp [Mo.c2, hlen])
            go_wp2
            go_meet
            exact ⟨by rw [hc.out], HB2.out⟩
      case rest =>
        obtain ⟨rfl, hb3⟩ := hcut
        have HB3 := Lib.hid hb3
        clear HB2 hb3
        cases h2 : Mo.c2 ha ce with
        | true =>
          have hr := Lib.hid (show Mo.parse3 neg wh ce ha = (0, 21) by simp [Mo.parse3, h1, h2])
          go_wp2
          go_ret2
          exact ⟨by rw [hr.out]; rfl, HB3.out⟩
        | false =>
          go_upto_region 7 with (fail)
          go_cut [52] (fun v W => v = .bool (Mo.c3 neg wh ha) ∧ Below w.heap.size w W)
          case first =>
            have d3 : ((Mo.S wh).toList == [48]) = (wh == [48]) := by rw [Mo.S_toList]
            cases neg <;> cases hw : (wh == [48]) <;> cases ha
            all_goals
              rw [hw] at d3
              have HW3 := Lib.hid hw
              clear hw
              go_wp2
              go_meet
            all_goals exact ⟨by simp [Mo.c3, HW3.out], HB3.out⟩
          case rest =>
            obtain ⟨rfl, hb4⟩ := hcut
            have HB4 := Lib.hid hb4
            clear HB3 hb4
            cases h3 : Mo.c3 neg wh ha with
            | true =>
              have hr := Lib.hid (show Mo.parse3 neg wh ce ha = (0, 21) by simp [Mo.parse3, h1, h2, h3])
              go_wp2
              go_ret2
              exact ⟨by rw [hr.out]; rfl, HB4.out⟩
            | false =>
              by_cases h4 : 14 < wh.length
              · have hr := Lib.hid (show Mo.parse3 neg wh ce ha = (0, 22) by simp [Mo.parse3, h1, h2, h3, h4])
                have d1 : decide ((14 : Int) < (wh.length : Int)) = true := decide_eq_true (by omega)
                have d2 : decide (14 < wh.length) = true := decide_eq_true h4
                go_wp2
                go_ret2
                exact ⟨by rw [hr.out]; rfl, HB4.out⟩
              · have d1 : decide ((14 : Int) < (wh.length : Int)) = false := decide_eq_false (by omega)
                have d2 : decide (14 < wh.length) = false := decide_eq_false h4
                have hN := Lib.hid (Tryz.strconv_ParseInt_10_at64_ok (Mo.S wh) (by rw [hsz]; omega) (Mo.val 0 wh : Nat) (by rw [Mo.S_data]; exact Mo.parseI wh hdw (by omega)) wc)
                have hr := Lib.hid (show Mo.parse3 neg wh ce ha = if Mo.chk (if neg then -Mo.cents wh ha ce else Mo.cents wh ha ce) = 0 then ((if neg then -Mo.cents wh ha ce else Mo.cents wh ha ce), 0) else (0, 22) by simp [Mo.parse3, h1, h2, h3, h4])
                have hv := Mo.val_lt wh hdw (by omega)
                generalize hV : Mo.val 0 wh = V at *
                have HV := Lib.hid hV
                have m1 : IntKind.i64.wrap ((V : Int) * 100) = (V : Int) * 100 := IntWalk.i64_in _ (by omega)
                clear hV
                go_upto_region 13 with (first | (go_at_call 45; refine hN.out.mono ?_; rintro e W ⟨rfl, hW⟩))
                have HB5 := Lib.hid (show Below w.heap.size w W by
                  rcases hW with rfl | ⟨t, rfl⟩
                  · exact HB4.out
                  · exact HB4.out.trans ((below_bytes _ _).mono HB4.out.size))
                clear hW hN HB4
                cases ha with
                | false =>
                  have hT := Lib.hid (show Mo.cents wh false ce = (V : Int) * 100 by simp [Mo.cents, HV.out])
                  have hb : (0 : Int) ≤ (V : Int) * 100 ∧ (V : Int) * 100 < 10000000000000000 := by omega
                  have hneg : IntKind.i64.wrap (-((V : Int) * 100)) = -((V : Int) * 100) := IntWalk.i64_in _ (by omega)
                  cases neg with
                  | false =>
                    have hr2 := hr.out
                    rw [hT.out] at hr2
                    simp only [Bool.false_eq_true, if_false] at hr2
                    cases hk : (Mo.chk ((V : Int) * 100) == 0)
                    all_goals
                      have HR := Lib.hid hr2
                      have HK := Lib.hid hk
                      have hk2 : (Mo.chk ((V : Int) * 100) != 0) = !(Mo.chk ((V : Int) * 100) == 0) := rfl
                      rw [hk] at hk2
                      clear hr2
                      go_wp2_with (first | (go_at_call 12; refine (check_calls _ _).mono ?_; rintro e W2 ⟨rfl, rfl⟩))
                      go_ret2
                      refine ⟨?_, HB5.out⟩
                      rw [HR.out]
                      have := HK.out
                      simp at this
                      simp [this]
                  | true =>
                    have hr2 := hr.out
                    rw [hT.out] at hr2
                    simp only [if_true] at hr2
                    cases hk : (Mo.chk (-((V : Int) * 100)) == 0)
                    all_goals
                      have HR := Lib.hid hr2
                      have HK := Lib.hid hk
                      have hk2 : (Mo.chk (-((V : Int) * 100)) != 0) = !(Mo.chk (-((V : Int) * 100)) == 0) := rfl
                      rw [hk] at hk2
                      clear hr2
                      go_wp2_with (first | (go_at_call 12; refine (check_calls _ _).mono ?_; rintro e W2 ⟨rfl, rfl⟩))
                      go_ret2
                      refine ⟨?_, HB5.out⟩
                      rw [HR.out]
                      have := HK.out
                      simp at this
                      simp [this]
                | true =>
                  obtain ⟨x0, x1, rfl, q0, q1⟩ : ∃ x0 x1, ce = [x0, x1] ∧ (48 ≤ x0.toNat ∧ x0.toNat ≤ 57) ∧ (48 ≤ x1.toNat ∧ x1.toNat ≤ 57) := by
                    simp only [Mo.c2, Bool.true_and, Bool.or_eq_false_iff] at h2
                    obtain ⟨⟨g1, g2⟩, -⟩ := h2
                    have g1' : ce.length = 2 := by simpa using g1
                    match ce, g1' with
                    | [x0, x1], _ =>
                      have g3 : Mo.digB [x0, x1] = true := by simpa using g2
                      simp only [Mo.digB, List.all_cons, List.all_nil, Bool.and_true, Bool.and_eq_true] at g3
                      exact ⟨x0, x1, rfl, (Mo.tens_iff x0).1 g3.2.1, (Mo.tens_iff x1).1 g3.2.2⟩
                  have w0 := Mo.dg_eq x0
                  have w1 := Mo.dg_eq x1
                  have hT := Lib.hid (show Mo.cents wh true [x0, x1] = (V : Int) * 100 + (((x0.toNat : Int) - 48) * 10 + ((x1.toNat : Int) - 48)) by simp [Mo.cents, HV.out]; omega)
                  have hb : (0 : Int) ≤ (V : Int) * 100 + (((x0.toNat : Int) - 48) * 10 + ((x1.toNat : Int) - 48)) ∧ (V : Int) * 100 + (((x0.toNat : Int) - 48) * 10 + ((x1.toNat : Int) - 48)) < 20000000000000000 := by omega
                  have hneg : IntKind.i64.wrap (-((V : Int) * 100 + (((x0.toNat : Int) - 48) * 10 + ((x1.toNat : Int) - 48)))) = -((V : Int) * 100 + (((x0.toNat : Int) - 48) * 10 + ((x1.toNat : Int) - 48))) := IntWalk.i64_in _ (by omega)
                  have s0 : IntKind.u8.wrap ((x0.toNat : Int) - 48) = (x0.toNat : Int) - 48 := by rw [IntKind.wrap_u8]; omega
                  have s1 : IntKind.u8.wrap ((x1.toNat : Int) - 48) = (x1.toNat : Int) - 48 := by rw [IntKind.wrap_u8]; omega
                  have s2 : IntKind.i64.wrap ((x0.toNat : Int) - 48) = (x0.toNat : Int) - 48 := IntWalk.i64_in _ (by omega)
                  have s3 : IntKind.i64.wrap ((x1.toNat : Int) - 48) = (x1.toNat : Int) - 48 := IntWalk.i64_in _ (by omega)
                  have s4 : IntKind.i64.wrap (((x0.toNat : Int) - 48) * 10) = ((x0.toNat : Int) - 48) * 10 := IntWalk.i64_in _ (by omega)
                  have s5 : IntKind.i64.wrap (((x0.toNat : Int) - 48) * 10 + ((x1.toNat : Int) - 48)) = ((x0.toNat : Int) - 48) * 10 + ((x1.toNat : Int) - 48) := IntWalk.i64_in _ (by omega)
                  have s6 : IntKind.i64.wrap ((V : Int) * 100 + (((x0.toNat : Int) - 48) * 10 + ((x1.toNat : Int) - 48))) = (V : Int) * 100 + (((x0.toNat : Int) - 48) * 10 + ((x1.toNat : Int) - 48)) := IntWalk.i64_in _ (by omega)
                  have k0 : 0 < (Mo.S [x0, x1]).size := by rw [Mo.S_size]; simp
                  have k1 : 1 < (Mo.S [x0, x1]).size := by rw [Mo.S_size]; simp
                  have k2 : (0 : Int) < ((Mo.S [x0, x1]).size : Int) := by omega
                  have k3 : (1 : Int) < ((Mo.S [x0, x1]).size : Int) := by omega
                  have k4 : (Mo.S [x0, x1])[0]'k0 = x0 := Mo.S_get _ 0 x0 rfl k0
                  have k5 : (Mo.S [x0, x1])[1]'k1 = x1 := Mo.S_get _ 1 x1 rfl k1
                  generalize Mo.S [x0, x1] = C at *
                  cases neg with
                  | false =>
                    have hr2 := hr.out
                    rw [hT.out] at hr2
                    simp only [Bool.false_eq_true, if_false] at hr2
                    cases hk : (Mo.chk ((V : Int) * 100 + (((x0.toNat : Int) - 48) * 10 + ((x1.toNat : Int) - 48))) == 0)
                    all_goals
                      have HR := Lib.hid hr2
                      have HK := Lib.hid hk
                      have hk2 : (Mo.chk ((V : Int) * 100 + (((x0.toNat : Int) - 48) * 10 + ((x1.toNat : Int) - 48))) != 0) = !(Mo.chk ((V : Int) * 100 + (((x0.toNat : Int) - 48) * 10 + ((x1.toNat : Int) - 48))) == 0) := rfl
                      rw [hk] at hk2
                      clear hr2 hsc
                      go_wp2
                      go_quiet (fail)
                      go_wp2_with (first | (go_at_call 12; refine (check_calls _ _).mono ?_; rintro e W2 ⟨rfl, rfl⟩))
                      go_ret2
                      refine ⟨?_, below_drewn HB5.out _⟩
                      rw [HR.out]
                      have := HK.out
                      simp at this
                      simp [this]
                  | true =>
                    have hr2 := hr.out
                    rw [hT.out] at hr2
                    simp only [if_true] at hr2
                    cases hk : (Mo.chk (-((V : Int) * 100 + (((x0.toNat : Int) - 48) * 10 + ((x1.toNat : Int) - 48)))) == 0)
                    all_goals
                      have HR := Lib.hid hr2
                      have HK := Lib.hid hk
                      have hk2 : (Mo.chk (-((V : Int) * 100 + (((x0.toNat : Int) - 48) * 10 + ((x1.toNat : Int) - 48)))) != 0) = !(Mo.chk (-((V : Int) * 100 + (((x0.toNat : Int) - 48) * 10 + ((x1.toNat : Int) - 48)))) == 0) := rfl
                      rw [hk] at hk2
                      clear hr2 hsc
                      go_wp2
                      go_quiet (fail)
                      go_wp2_with (first | (go_at_call 12; refine (check_calls _ _).mono ?_; rintro e W2 ⟨rfl, rfl⟩))
                      go_ret2
                      refine ⟨?_, below_drewn HB5.out _⟩
                      rw [HR.out]
                      have := HK.out
                      simp at this
                      simp [this]
end Go.Proofs.YtgkliaalfiginaaGreatDoor
