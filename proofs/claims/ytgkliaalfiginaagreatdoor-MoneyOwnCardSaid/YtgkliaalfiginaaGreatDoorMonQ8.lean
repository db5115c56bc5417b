import Derived.Test.YtgkliaalfiginaaGreatDoorMonSh
import Derived.Test.YtgkliaalfiginaaGreatDoorMonQ2
import Derived.Lib.LaidTab
namespace Go.Proofs.YtgkliaalfiginaaGreatDoor
open Go.RowKit Go.Lib
set_option linter.unusedVariables false
set_option linter.unusedSimpArgs false

namespace Mo
def okW (x : Int) : Bool := decide (0 ≤ x) && decide (x ≤ 1000000000000000)
/-- a weight, as a number -/
def wOf (xs : List Int) (i : Nat) : Nat := (xs.getD i 0).toNat
/-- Share's error -/
def shareErr (total : Int) (xs : List Int) : Int :=
  if total < 0 then 22 else if chk total ≠ 0 then 22 else if xs.length = 0 then 3 else if 4096 < xs.length then 3 else if xs.all okW = false then 4 else if Sh.pre (wOf xs) xs.length = 0 then 1 else 0
theorem wOf_at (xs : List Int) (i : Nat) (h : xs.all okW = true) (hi : i < xs.length) : xs[i]? = some (wOf xs i : Int) ∧ wOf xs i ≤ 1000000000000000 := by
  have h1 : xs[i]? = some xs[i] := List.getElem?_eq_getElem hi
  have h2 := List.all_eq_true.1 h xs[i] (List.getElem_mem hi)
  unfold okW at h2
  simp only [Bool.and_eq_true, decide_eq_true_eq] at h2
  have h3 : wOf xs i = xs[i].toNat := by unfold wOf; rw [List.getD_eq_getElem?_getD, h1]; rfl
  rw [h1, h3]
  exact ⟨by congr 1; omega, by omega⟩
end Mo
/-- Share answers no parts, and an error -/
def NoShare (w : World) (err : Int) (e : Ending) (w' : World) : Prop := e = .returned (.tuple #[.slice none 0 0, .int .i64 err]) ∧ w = w'

set_option maxHeartbeats 1000000 in
set_option maxRecDepth 100000 in
theorem share_bad (total : Int) (xs : List Int) (v : Value) (w : World) (hv : RdI w v xs) (he : Mo.shareErr total xs ≠ 0) :
    Calls Tryz.prog 5 #[.int .i64 total, v] w (NoShare w (Mo.shareErr total xs)) := by
  obtain ⟨A0, c, rfl, hlen, hc⟩ := hv
  unfold Mo.shareErr at he ⊢
  by_cases c1 : total < 0
  · rw [if_pos c1]
    have d1 : decide (total < 0) = true := decide_eq_true c1
    clear he hc c1
    go_enter Tryz.func5, Tryz.ntmps5
    go_wp2_with (first | (go_at_call 12; refine (check_calls _ _).mono ?_; rintro e W2 ⟨rfl, rfl⟩))
    go_ret2
    exact ⟨rfl, rfl⟩
  rw [if_neg c1] at he ⊢
  have d1 : decide (total < 0) = false := decide_eq_false c1
  by_cases c2 : Mo.chk total ≠ 0
  · rw [if_pos c2]
    have k1 : (Mo.chk total != 0) = true := by simpa using c2
    clear he hc c1 c2
    go_enter Tryz.func5, Tryz.ntmps5
    go_wp2_with (first | (go_at_call 12; refine (check_calls _ _).mono ?_; rintro e W2 ⟨rfl, rfl⟩))
    go_ret2
    exact ⟨rfl, rfl⟩
  rw [if_neg c2] at he ⊢
  have k1 : (Mo.chk total != 0) = false := by simpa using c2
  clear c1 c2
  by_cases c3 : xs.length = 0
  · rw [if_pos c3]
    have d2 : ((xs.length : Int) == 0) = true := by rw [c3]; rfl
    clear he hc c3
    generalize xs.length = n at *
    go_enter Tryz.func5, Tryz.ntmps5
    go_wp2_with (first | (go_at_call 12; refine (check_calls _ _).mono ?_; rintro e W2 ⟨rfl, rfl⟩))
    go_ret2
    exact ⟨rfl, rfl⟩
  rw [if_neg c3] at he ⊢
  have d2 : ((xs.length : Int) == 0) = false := by
    have : ¬ (xs.length : Int) = 0 := by omega
    simpa using this
  by_cases c4 : 4096 < xs.length
  · rw [if_pos c4]
    have d3 : decide ((4096 : Int) < (xs.length : Int)) = true := decide_eq_true (by omega)
    clear he hc c3 c4
    generalize xs.length = n at *
    go_enter Tryz.func5, Tryz.ntmps5
    go_wp2_with (first | (go_at_call 12; refine (check_calls _ _).mono ?_; rintro e W2 ⟨rfl, rfl⟩))
    go_ret2
    exact ⟨rfl, rfl⟩
  rw [if_neg c4] at he ⊢
  have d3 : decide ((4096 : Int) < (xs.length : Int)) = false := decide_eq_false (by omega)
  obtain ⟨a, rfl, hcc⟩ := hc (by omega)
  have HC := Lib.hid hcc
  clear hc hcc
  by_cases c5 : xs.all Mo.okW = false
  · rw [if_pos c5]
    have H5 := Lib.hid c5
    have hpre := Lib.hid (fun k (hk : k ≤ xs.length) (h : ∀ i, i < k → Mo.wOf xs i ≤ 1000000000000000) => Nat.le_trans (Sh.pre_le (Mo.wOf xs) 1000000000000000 k h) (Nat.mul_le_mul_right 1000000000000000 (show k ≤ 4096 by omega)))
    clear he c3 c5
    go_enter Tryz.func5, Tryz.ntmps5
    go_wp2_with (first | (go_at_call 12; refine (check_calls _ _).mono ?_; rintro e W2 ⟨rfl, rfl⟩))
    go_loop [6, 40] (fun s i => ∃ k : Nat, k ≤ xs.length ∧ i = .int .i64 k ∧ s = .int .u64 (Sh.pre (Mo.wOf xs) k : Int) ∧ (∀ j x, j < k → xs[j]? = some x → Mo.okW x = true ∧ Mo.wOf xs j ≤ 1000000000000000)) (fun _ i => xs.length - (intOf i).toNat)
    case atStart => exact ⟨0, Nat.zero_le _, rfl, rfl, fun j x hj => by omega⟩
    case round =>
      obtain ⟨k, hk, rfl, rfl, hg⟩ := hrel
      by_cases hlt : k < xs.length
      · have hx : xs[k]? = some xs[k] := List.getElem?_eq_getElem hlt
        have hcell := HC.out k _ hx
        have hw0 : Mo.wOf xs k = xs[k].toNat := by unfold Mo.wOf; rw [List.getD_eq_getElem?_getD, hx]; rfl
        have z1 : (k : Int) < xs.length := by omega
        have z2 : (0 : Int) ≤ k := by omega
        have HG := Lib.hid hg
        have HX := Lib.hid hx
        have hp := hpre.out k hk (fun i hi => (hg i _ hi (List.getElem?_eq_getElem (by omega))).2)
        have hs := Lib.hid (Sh.pre_succ (Mo.wOf xs) k)
        have HW0 := Lib.hid hw0
        clear hg hx hw0
        generalize xs[k] = x at *
        generalize Sh.pre (Mo.wOf xs) k = P at *
        by_cases b1 : x < 0
        · have e1 : decide (x < 0) = true := decide_eq_true b1
          go_wp2
          go_ret2
          exact ⟨rfl, rfl⟩
        · have e1 : decide (x < 0) = false := decide_eq_false b1
          by_cases b2 : 1000000000000000 < x
          · have e2 : decide ((1000000000000000 : Int) < x) = true := decide_eq_true b2
            go_wp2
            go_ret2
            exact ⟨rfl, rfl⟩
          · have e2 : decide ((1000000000000000 : Int) < x) = false := decide_eq_false b2
            have e3 : IntKind.u64.wrap x = x := by rw [IntKind.wrap_u64]; omega
            have e4 : IntKind.u64.wrap ((P : Int) + x) = (P : Int) + x := by rw [IntKind.wrap_u64]; omega
            go_wp2
            go_round
            case rel =>
              refine ⟨k + 1, by omega, by go_num, by rw [hs.out, HW0.out]; go_num, fun j y hj hy => ?_⟩
              by_cases hjk : j < k
              · exact HG.out j y hjk hy
              · obtain rfl : j = k := by omega
                obtain rfl : x = y := Option.some.inj (HX.out.symm.trans hy)
                rw [HW0.out]
                exact ⟨by unfold Mo.okW; simp; omega, by omega⟩
            case measure => simp [intOf]; omega
      · exfalso
        have : xs.all Mo.okW = true := by
          rw [List.all_eq_true]
          intro x hx
          obtain ⟨j, hj, rfl⟩ := List.getElem_of_mem hx
          exact (hg j _ (by omega) (List.getElem?_eq_getElem hj)).1
        have h5 := H5.out
        rw [this] at h5
        cases h5
  rw [if_neg c5] at he ⊢
  have c5' : xs.all Mo.okW = true := by simpa using c5
  have HW := Lib.hid (fun j hj => Mo.wOf_at xs j c5' hj)
  by_cases c6 : Sh.pre (Mo.wOf xs) xs.length = 0
  · rw [if_pos c6]
    have H6 := Lib.hid c6
    have hpre := Lib.hid (fun k (hk : k ≤ xs.length) => Nat.le_trans (Sh.pre_le (Mo.wOf xs) 1000000000000000 k (fun i hi => (HW.out i (by omega)).2)) (Nat.mul_le_mul_right 1000000000000000 (show k ≤ 4096 by omega)))
    clear he c3 c5 c5' c6
    go_enter Tryz.func5, Tryz.ntmps5
    go_wp2_with (first | (go_at_call 12; refine (check_calls _ _).mono ?_; rintro e W2 ⟨rfl, rfl⟩))
    go_loop [6, 40] (fun s i => ∃ k : Nat, k ≤ xs.length ∧ i = .int .i64 k ∧ s = .int .u64 (Sh.pre (Mo.wOf xs) k : Int)) (fun _ i => xs.length - (intOf i).toNat)
    case atStart => exact ⟨0, Nat.zero_le _, rfl, rfl⟩
    case round =>
      obtain ⟨k, hk, rfl, rfl⟩ := hrel
      by_cases hlt : k < xs.length
      · have hcell := HC.out k _ (HW.out k hlt).1
        have hwk := (HW.out k hlt).2
        have z1 : (k : Int) < xs.length := by omega
        have z2 : (0 : Int) ≤ k := by omega
        have hp := hpre.out k hk
        have hs := Lib.hid (Sh.pre_succ (Mo.wOf xs) k)
        generalize Sh.pre (Mo.wOf xs) k = P at *
        generalize Mo.wOf xs k = X at *
        have e1 : decide ((X : Int) < 0) = false := decide_eq_false (by omega)
        have e2 : decide ((1000000000000000 : Int) < (X : Int)) = false := decide_eq_false (by omega)
        have e3 : IntKind.u64.wrap (X : Int) = (X : Int) := u64w _ (by omega)
        have e4 : IntKind.u64.wrap ((P : Int) + X) = (P : Int) + X := by rw [IntKind.wrap_u64]; omega
        go_wp2
        go_round
        case rel => exact ⟨k + 1, by omega, by go_num, by rw [hs.out]; go_num⟩
        case measure => simp [intOf]; omega
      · obtain rfl : k = xs.length := by omega
        rw [H6.out]
        have e0 : (((0 : Nat) : Int) == 0) = true := rfl
        go_wp2
        go_ret2
        exact ⟨rfl, rfl⟩
  rw [if_neg c6] at he
  exact absurd rfl he
end Go.Proofs.YtgkliaalfiginaaGreatDoor
namespace Go.Proofs.YtgkliaalfiginaaGreatDoor
open Go.RowKit Go.Lib
set_option linter.unusedVariables false
set_option linter.unusedSimpArgs false

theorem parse_ex : Mo.parse [49, 50, 48, 46, 53, 48] = (12050, 0) := by kernel_rfl
theorem print_ex : Mo.print (-5) = ([45, 48, 46, 48, 53], 0) := by kernel_rfl
theorem scale_ex : Mo.scale2 (Mo.sgn (-3) 1) ((-3 : Int).natAbs * (1 : Int).natAbs) 2 6 = (-2, 0) := by kernel_rfl
theorem chk_in (m : Int) (h1 : -1000000000000000 ≤ m) (h2 : m ≤ 1000000000000000) : Mo.chk m = 0 := by unfold Mo.chk; rw [if_neg (by omega)]
theorem formatSmall (i : Nat) (hi : i < 100) (w : World) : Calls Tryz.prog 46 #[.int .i64 (i : Int), .int .i64 10] w fun e w' => e = .returned (.string (Mo.S (Lib.decDigits i))) ∧ Below w.heap.size w w' :=
  (Tryz.strconv_FormatInt_10_small i hi w).mono fun e w' ⟨he, hw⟩ => ⟨he, hw ▸ Below.refl _ _⟩
/-- Share of 1000 by three weights of 1 -/
theorem share3 (v : Value) (w : World) (hv : RdI w v [1, 1, 1]) : Calls Tryz.prog 5 #[.int .i64 1000, v] w fun e w' => ∃ gp : Nat, e = .returned (.tuple #[.slice (some ⟨gp, 0, none⟩) 3 3, .int .i64 0]) ∧ Below w.heap.size w w' ∧
    w'.cell? ⟨gp, 0, none⟩ = some (.int .i64 334) ∧ w'.cell? ⟨gp, 2, none⟩ = some (.int .i64 333) := by
  have h := share_good 1000 3 3 1 [1, 1, 1] (fun _ => 1) (fun _ => 333) (fun _ => 1) v w hv rfl (by omega) (by omega) (by omega) (fun i hi => by
    match i, hi with
    | 0, _ => rfl
    | 1, _ => rfl
    | 2, _ => rfl) (fun i _ => by omega) (by kernel_rfl) (by omega) (by kernel_rfl) (by kernel_rfl) (by kernel_rfl)
  refine h.mono fun e w' ⟨gp, f, he, hgp, hb, hs, hf, hc, hfr⟩ => ⟨gp, he, hb, ?_, ?_⟩
  all_goals
    have s01 : 1 < 1 ∨ 1 = 1 ∧ f 0 < f 1 := hs 0 1 (by omega) (by omega) (by omega)
    have s12 : 1 < 1 ∨ 1 = 1 ∧ f 1 < f 2 := hs 1 2 (by omega) (by omega) (by omega)
    have f2 := hf 2 (by omega)
    have f0 : f 0 = 0 := by omega
  · rw [hc 0 (by omega)]
    show some (Value.int .i64 ((if 0 = f 0 then 333 + 1 else 333 : Nat) : Int)) = _
    rw [if_pos f0.symm]; rfl
  · rw [hc 2 (by omega)]
    show some (Value.int .i64 ((if 2 = f 0 then 333 + 1 else 333 : Nat) : Int)) = _
    rw [if_neg (by omega)]; rfl
theorem rdI3 (w : World) (T : TypeId) (x y z : Int) : RdI (w.alloc (.cells #[.int .i64 x, .int .i64 y, .int .i64 z] T)) (.slice (some ⟨w.heap.size, 0, none⟩) 3 3) [x, y, z] := by
  refine ⟨_, 3, rfl, by simp, fun _ => ⟨_, rfl, fun j u hj => ?_⟩⟩
  rw [add_at]
  refine blk_cell (heap_alloc_new w _) j ?_
  match j, hj with
  | 0, hj => obtain rfl := Option.some.inj hj; rfl
  | 1, hj => obtain rfl := Option.some.inj hj; rfl
  | 2, hj => obtain rfl := Option.some.inj hj; rfl
theorem len6 : ([49, 50, 48, 46, 53, 48] : List UInt8).length ≤ 9223372036854770000 := by
  have h : ([49, 50, 48, 46, 53, 48] : List UInt8).length = 6 := rfl
  omega
theorem parse_w (w : World) : Calls Tryz.prog 8 #[.string ⟨#[49, 50, 48, 46, 53, 48]⟩] w fun e w' => e = .returned (.tuple #[.int .i64 12050, .int .i64 0]) ∧ Below w.heap.size w w' := by
  have h := parse_calls [49, 50, 48, 46, 53, 48] len6 w
  rw [parse_ex] at h
  exact h
set_option maxRecDepth 100000 in
theorem print_w (w : World) : Calls Tryz.prog 9 #[.int .i64 (-5)] w fun e w' => e = .returned (.tuple #[.string ⟨#[45, 48, 46, 48, 53]⟩, .int .i64 0]) ∧ Below w.heap.size w w' := by
  have e : (-5 : Int).natAbs / 100 = 0 := by decide
  have h := print_calls (-5) w (fun _ => by rw [e]; exact formatSmall 0 (by omega) w)
  rw [print_ex] at h
  exact h
set_option maxRecDepth 100000 in
theorem scale_w (w : World) : Calls Tryz.prog 10 #[.int .i64 (-3), .int .i64 1, .int .i64 2, .int .i64 6] w fun e w' => e = .returned (.tuple #[.int .i64 (-2), .int .i64 0]) ∧ Below w.heap.size w w' := by
  have h := scale_in (-3) 1 2 6 (chk_in _ (by omega) (by omega)) (by omega) (by omega) (by omega) (by omega) (by omega) (by omega) w (fun h => div64_calls _ _ _ h (by omega) (Nat.mod_lt _ (by omega)))
  rw [scale_ex] at h
  exact h
set_option maxHeartbeats 1000000 in
set_option maxRecDepth 100000 in
theorem works_calls (w : World) : Calls Tryz.prog 4 #[] w fun e w' => e = .returned (.bool true) ∧ Below w.heap.size w w' := by
  have HP := Lib.hid parse_w
  have HPr := Lib.hid print_w
  have HS := Lib.hid scale_w
  have HSh := Lib.hid (fun v w hv => share3 v w hv)
  go_enter Tryz.func4, Tryz.ntmps4
  go_wp2_with fail
  refine (HP.out _).mono ?_
  rintro e w1 ⟨rfl, b1⟩
  have B1 := Lib.hid b1
  clear b1
  go_wp2_with fail
  refine (HPr.out _).mono ?_
  rintro e w2 ⟨rfl, b2⟩
  have B2 := Lib.hid (B1.out.trans (b2.mono B1.out.size))
  clear b2 B1
  go_wp2_with fail
  refine (HSh.out _ _ (rdI3 _ _ _ _ _)).mono ?_
  rintro e w3 ⟨gp, rfl, b3, c1, c2⟩
  have B3 := Lib.hid ((B2.out.alloc B2.out.size _).trans (b3.mono (by have := B2.out.size; simp; omega)))
  have HC := Lib.hid (And.intro c1 c2)
  clear b3 B2 c1 c2
  go_wp2_with fail
  refine (HS.out _).mono ?_
  rintro e w4 ⟨rfl, b4⟩
  have c1 := (b4.cell (p := ⟨gp, 0, none⟩) (World.block_lt_of_cell? _ _ HC.out.1)).trans HC.out.1
  have c2 := (b4.cell (p := ⟨gp, 2, none⟩) (World.block_lt_of_cell? _ _ HC.out.2)).trans HC.out.2
  have B4 := Lib.hid (B3.out.trans (b4.mono B3.out.size))
  clear b4 B3
  go_wp2_with (first | (go_at_call 11; refine (num_calls _ _).mono ?_; rintro e w' ⟨rfl, rfl⟩))
  go_ret
  exact ⟨rfl, B4.out⟩
end Go.Proofs.YtgkliaalfiginaaGreatDoor
namespace Go.Proofs.YtgkliaalfiginaaGreatDoor
open Go.RowKit Go.Lib
set_option linter.unusedVariables false
set_option linter.unusedSimpArgs false

/-- the table of the powers of ten -/
abbrev gTab : Nat := 5
theorem gTab_named : Tryz.prog.globalNamed "internal/strconv.uint64pow10" = some gTab := by kernel_rfl
theorem gTab_type : (Tryz.prog.globals[gTab]?).map (·.type) = some 227 := by kernel_rfl
theorem gTab_under : Tryz.prog.underlying 227 = some (.array 20 65) := by kernel_rfl
theorem gTab_elem : Tryz.prog.underlying 65 = some (.int .u64) := by kernel_rfl
abbrev Tab (w : World) : Prop := Lib.TabIs Tryz.prog w "internal/strconv.uint64pow10" .u64 Lib.pow10Tab
theorem Tab.below {w w' : World} (h : Tab w) (hb : Below w.heap.size w w') : Tab w' := by
  have hgn := gTab_named
  unfold Tab Lib.TabIs World.var? at h ⊢
  rw [hgn] at h ⊢
  simp only [Option.bind_some] at h ⊢
  have hlt : gTab < w.heap.size := by
    rcases Nat.lt_or_ge gTab w.heap.size with h' | h'
    · exact h'
    · rw [Array.getElem?_eq_none h'] at h; cases h
  rw [hb.block gTab hlt]
  exact h
theorem below_grow (w : World) (k : Nat) (os : Array Obj) : Below w.heap.size w (Go.Sort.grow (w.drewN k) os) :=
  ⟨rfl, rfl, rfl, by rw [Go.Sort.size_grow]; exact Nat.le_add_right _ _, fun i hi => Go.Sort.heap_grow_old (w.drewN k) os hi⟩
theorem format_calls (u : Nat) (hu : u ≤ 9223372036854775807) (w : World) (hT : Tab w) : Calls Tryz.prog 46 #[.int .i64 (u : Int), .int .i64 10] w fun e w' => e = .returned (.string (Mo.S (Lib.decDigits u))) ∧ Below w.heap.size w w' := by
  refine (Tryz.strconv_FormatInt_10 (u : Int) (by omega) (by omega) w hT).mono fun e w' ⟨he, k, os, hw⟩ => ?_
  rw [Lib.itoa_nonneg] at he
  exact ⟨he, hw ▸ below_grow w k os⟩
theorem print_tab (m : Int) (w : World) (hT : Tab w) : Calls Tryz.prog 9 #[.int .i64 m] w fun e w' => e = .returned (.tuple #[.string (Mo.S (Mo.print m).1), .int .i64 (Mo.print m).2]) ∧ Below w.heap.size w w' :=
  print_calls m w (fun hk => format_calls _ (by have := chk_bound m hk; omega) w hT)
theorem parse_str (s : ByteArray) (hs : s.size ≤ 9223372036854770000) (w : World) : Calls Tryz.prog 8 #[.string s] w fun e w' => e = .returned (.tuple #[.int .i64 (Mo.parse s.data.toList).1, .int .i64 (Mo.parse s.data.toList).2]) ∧ Below w.heap.size w w' := by
  have h := parse_calls s.data.toList (by rw [Array.length_toList]; exact hs) w
  rwa [Mo.S_of] at h
end Go.Proofs.YtgkliaalfiginaaGreatDoor
