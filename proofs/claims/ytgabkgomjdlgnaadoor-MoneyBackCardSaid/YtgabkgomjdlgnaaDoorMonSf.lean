import Derived.Test.YtgabkgomjdlgnaaDoorMonSh
namespace Go.Proofs.YtgabkgomjdlgnaaDoor
open Go.RowKit Go.Lib
set_option linter.unusedVariables false
set_option linter.unusedSimpArgs false

namespace Mo
def okW (x : Int) : Bool := decide (0 ≤ x) && decide (x ≤ 1000000000000000)
/-- a weight, as a number -/
def wOf (xs : List Int) (i : Nat) : Nat := (xs.getD i 0).toNat
/-- Share's error -/
def shareErr (total : Int) (xs : List Int) : Int :=
  if total < 0 then 22 else if chk total ≠ 0 then 22 else if xs.length = 0 then 3 else if 4096 < xs.length then 3 else if xs.all okW = false then 4 else if Sh.pre (wOf xs) xs.length = 0 then 1 else 0
theorem wOf_at (xs : List Int) (i : Nat) (h : xs.all okW = true) (hi : i < xs.length) : xs[i]? = some (wOf xs i : Int) ∧ wOf xs i ≤ 1000000000000000 := by
  have h1 : xs[i]? = some xs[i] := List.getElem?_eq_getElem hi
  have h2 := List.all_eq_true.1 h xs[i] (List.getElem_mem hi)
  unfold okW at h2
  simp only [Bool.and_eq_true, decide_eq_true_eq] at h2
  have h3 : wOf xs i = xs[i].toNat := by unfold wOf; rw [List.getD_eq_getElem?_getD, h1]; rfl
  rw [h1, h3]
  exact ⟨by congr 1; omega, by omega⟩
end Mo
/-- Share answers no parts, and an error -/
def NoShare (w : World) (err : Int) (e : Ending) (w' : World) : Prop := e = .returned (.tuple #[.slice none 0 0, .int .i64 err]) ∧ w = w'

set_option maxHeartbeats 1000000 in
set_option maxRecDepth 100000 in
theorem share_bad (total : Int) (xs : List Int) (v : Value) (w : World) (hv : RdI w v xs) (he : Mo.shareErr total xs ≠ 0) :
    Calls Tryd.prog 18 #[.int .i64 total, v] w (NoShare w (Mo.shareErr total xs)) := by
  obtain ⟨A0, c, rfl, hlen, hc⟩ := hv
  unfold Mo.shareErr at he ⊢
  by_cases c1 : total < 0
  · rw [if_pos c1]
    have d1 : decide (total < 0) = true := decide_eq_true c1
    clear he hc c1
    go_enter Tryd.func18, Tryd.ntmps18
    go_wp2_with (first | (go_at_call 27; refine (check_calls _ _).mono ?_; rintro e W2 ⟨rfl, rfl⟩))
    go_ret2
    exact ⟨rfl, rfl⟩
  rw [if_neg c1] at he ⊢
  have d1 : decide (total < 0) = false := decide_eq_false c1
  by_cases c2 : Mo.chk total ≠ 0
  · rw [if_pos c2]
    have k1 : (Mo.chk total != 0) = true := by simpa using c2
    clear he hc c1 c2
    go_enter Tryd.func18, Tryd.ntmps18
    go_wp2_with (first | (go_at_call 27; refine (check_calls _ _).mono ?_; rintro e W2 ⟨rfl, rfl⟩))
    go_ret2
    exact ⟨rfl, rfl⟩
  rw [if_neg c2] at he ⊢
  have k1 : (Mo.chk total != 0) = false := by simpa using c2
  clear c1 c2
  by_cases c3 : xs.length = 0
  · rw [if_pos c3]
    have d2 : ((xs.length : Int) == 0) = true := by rw [c3]; rfl
    clear he hc c3
    generalize xs.length = n at *
    go_enter Tryd.func18, Tryd.ntmps18
    go_wp2_with (first | (go_at_call 27; refine (check_calls _ _).mono ?_; rintro e W2 ⟨rfl, rfl⟩))
    go_ret2
    exact ⟨rfl, rfl⟩
  rw [if_neg c3] at he ⊢
  have d2 : ((xs.length : Int) == 0) = false := by
    have : ¬ (xs.length : Int) = 0 := by omega
    simpa using this
  by_cases c4 : 4096 < xs.length
  · rw [if_pos c4]
    have d3 : decide ((4096 : Int) < (xs.length : Int)) = true := decide_eq_true (by omega)
    clear he hc c3 c4
    generalize xs.length = n at *
    go_enter Tryd.func18, Tryd.ntmps18
    go_wp2_with (first | (go_at_call 27; refine (check_calls _ _).mono ?_; rintro e W2 ⟨rfl, rfl⟩))
    go_ret2
    exact ⟨rfl, rfl⟩
  rw [if_neg c4] at he ⊢
  have d3 : decide ((4096 : Int) < (xs.length : Int)) = false := decide_eq_false (by omega)
  obtain ⟨a, rfl, hcc⟩ := hc (by omega)
  have HC := Lib.hid hcc
  clear hc hcc
  by_cases c5 : xs.all Mo.okW = false
  · rw [if_pos c5]
    have H5 := Lib.hid c5
    have hpre := Lib.hid (fun k (hk : k ≤ xs.length) (h : ∀ i, i < k → Mo.wOf xs i ≤ 1000000000000000) => Nat.le_trans (Sh.pre_le (Mo.wOf xs) 1000000000000000 k h) (Nat.mul_le_mul_right 1000000000000000 (show k ≤ 4096 by omega)))
    clear he c3 c5
    go_enter Tryd.func18, Tryd.ntmps18
    go_wp2_with (first | (go_at_call 27; refine (check_calls _ _).mono ?_; rintro e W2 ⟨rfl, rfl⟩))
    go_loop [6, 40] (fun s i => ∃ k : Nat, k ≤ xs.length ∧ i = .int .i64 k ∧ s = .int .u64 (Sh.pre (Mo.wOf xs) k : Int) ∧ (∀ j x, j < k → xs[j]? = some x → Mo.okW x = true ∧ Mo.wOf xs j ≤ 1000000000000000)) (fun _ i => xs.length - (intOf i).toNat)
    case atStart => exact ⟨0, Nat.zero_le _, rfl, rfl, fun j x hj => by omega⟩
    case round =>
      obtain ⟨k, hk, rfl, rfl, hg⟩ := hrel
      by_cases hlt : k < xs.length
      · have hx : xs[k]? = some xs[k] := List.getElem?_eq_getElem hlt
        have hcell := HC.out k _ hx
        have hw0 : Mo.wOf xs k = xs[k].toNat := by unfold Mo.wOf; rw [List.getD_eq_getElem?_getD, hx]; rfl
        have z1 : (k : Int) < xs.length := by omega
        have z2 : (0 : Int) ≤ k := by omega
        have HG := Lib.hid hg
        have HX := Lib.hid hx
        have hp := hpre.out k hk (fun i hi => (hg i _ hi (List.getElem?_eq_getElem (by omega))).2)
        have hs := Lib.hid (Sh.pre_succ (Mo.wOf xs) k)
        have HW0 := Lib.hid hw0
        clear hg hx hw0
        generalize xs[k] = x at *
        generalize Sh.pre (Mo.wOf xs) k = P at *
        by_cases b1 : x < 0
        · have e1 : decide (x < 0) = true := decide_eq_true b1
          go_wp2
          go_ret2
          exact ⟨rfl, rfl⟩
        · have e1 : decide (x < 0) = false := decide_eq_false b1
          by_cases b2 : 1000000000000000 < x
          · have e2 : decide ((1000000000000000 : Int) < x) = true := decide_eq_true b2
            go_wp2
            go_ret2
            exact ⟨rfl, rfl⟩
          · have e2 : decide ((1000000000000000 : Int) < x) = false := decide_eq_false b2
            have e3 : IntKind.u64.wrap x = x := by rw [IntKind.wrap_u64]; omega
            have e4 : IntKind.u64.wrap ((P : Int) + x) = (P : Int) + x := by rw [IntKind.wrap_u64]; omega
            go_wp2
            go_round
            case rel =>
              refine ⟨k + 1, by omega, by go_num, by rw [hs.out, HW0.out]; go_num, fun j y hj hy => ?_⟩
              by_cases hjk : j < k
              · exact HG.out j y hjk hy
              · obtain rfl : j = k := by omega
                obtain rfl : x = y := Option.some.inj (HX.out.symm.trans hy)
                rw [HW0.out]
                exact ⟨by unfold Mo.okW; simp; omega, by omega⟩
            case measure => simp [intOf]; omega
      · exfalso
        have : xs.all Mo.okW = true := by
          rw [List.all_eq_true]
          intro x hx
          obtain ⟨j, hj, rfl⟩ := List.getElem_of_mem hx
          exact (hg j _ (by omega) (List.getElem?_eq_getElem hj)).1
        have h5 := H5.out
        rw [this] at h5
        cases h5
  rw [if_neg c5] at he ⊢
  have c5' : xs.all Mo.okW = true := by simpa using c5
  have HW := Lib.hid (fun j hj => Mo.wOf_at xs j c5' hj)
  by_cases c6 : Sh.pre (Mo.wOf xs) xs.length = 0
  · rw [if_pos c6]
    have H6 := Lib.hid c6
    have hpre := Lib.hid (fun k (hk : k ≤ xs.length) => Nat.le_trans (Sh.pre_le (Mo.wOf xs) 1000000000000000 k (fun i hi => (HW.out i (by omega)).2)) (Nat.mul_le_mul_right 1000000000000000 (show k ≤ 4096 by omega)))
    clear he c3 c5 c5' c6
    go_enter Tryd.func18, Tryd.ntmps18
    go_wp2_with (first | (go_at_call 27; refine (check_calls _ _).mono ?_; rintro e W2 ⟨rfl, rfl⟩))
    go_loop [6, 40] (fun s i => ∃ k : Nat, k ≤ xs.length ∧ i = .int .i64 k ∧ s = .int .u64 (Sh.pre (Mo.wOf xs) k : Int)) (fun _ i => xs.length - (intOf i).toNat)
    case atStart => exact ⟨0, Nat.zero_le _, rfl, rfl⟩
    case round =>
      obtain ⟨k, hk, rfl, rfl⟩ := hrel
      by_cases hlt : k < xs.length
      · have hcell := HC.out k _ (HW.out k hlt).1
        have hwk := (HW.out k hlt).2
        have z1 : (k : Int) < xs.length := by omega
        have z2 : (0 : Int) ≤ k := by omega
        have hp := hpre.out k hk
        have hs := Lib.hid (Sh.pre_succ (Mo.wOf xs) k)
        generalize Sh.pre (Mo.wOf xs) k = P at *
        generalize Mo.wOf xs k = X at *
        have e1 : decide ((X : Int) < 0) = false := decide_eq_false (by omega)
        have e2 : decide ((1000000000000000 : Int) < (X : Int)) = false := decide_eq_false (by omega)
        have e3 : IntKind.u64.wrap (X : Int) = (X : Int) := u64w _ (by omega)
        have e4 : IntKind.u64.wrap ((P : Int) + X) = (P : Int) + X := by rw [IntKind.wrap_u64]; omega
        go_wp2
        go_round
        case rel => exact ⟨k + 1, by omega, by go_num, by rw [hs.out]; go_num⟩
        case measure => simp [intOf]; omega
      · obtain rfl : k = xs.length := by omega
        rw [H6.out]
        have e0 : (((0 : Nat) : Int) == 0) = true := rfl
        go_wp2
        go_ret2
        exact ⟨rfl, rfl⟩
  rw [if_neg c6] at he
  exact absurd rfl he
end Go.Proofs.YtgabkgomjdlgnaaDoor
