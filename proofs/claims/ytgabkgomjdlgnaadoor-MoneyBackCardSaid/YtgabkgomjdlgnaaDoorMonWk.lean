import Derived.Test.YtgabkgomjdlgnaaDoorMonSf
import Derived.Test.YtgabkgomjdlgnaaDoorMonF
namespace Go.Proofs.YtgabkgomjdlgnaaDoor
open Go.RowKit Go.Lib
set_option linter.unusedVariables false
set_option linter.unusedSimpArgs false

theorem parse_ex : Mo.parse [49, 50, 48, 46, 53, 48] = (12050, 0) := by kernel_rfl
theorem print_ex : Mo.print (-5) = ([45, 48, 46, 48, 53], 0) := by kernel_rfl
theorem scale_ex : Mo.scale2 (Mo.sgn (-3) 1) ((-3 : Int).natAbs * (1 : Int).natAbs) 2 6 = (-2, 0) := by kernel_rfl
theorem chk_in (m : Int) (h1 : -1000000000000000 ≤ m) (h2 : m ≤ 1000000000000000) : Mo.chk m = 0 := by unfold Mo.chk; rw [if_neg (by omega)]
theorem formatSmall (i : Nat) (hi : i < 100) (w : World) : Calls Tryd.prog 48 #[.int .i64 (i : Int), .int .i64 10] w fun e w' => e = .returned (.string (Mo.S (Lib.decDigits i))) ∧ Below w.heap.size w w' :=
  (Tryd.strconv_FormatInt_10_small i hi w).mono fun e w' ⟨he, hw⟩ => ⟨he, hw ▸ Below.refl _ _⟩
/-- Share of 1000 by three weights of 1 -/
theorem share3 (v : Value) (w : World) (hv : RdI w v [1, 1, 1]) : Calls Tryd.prog 18 #[.int .i64 1000, v] w fun e w' => ∃ gp : Nat, e = .returned (.tuple #[.slice (some ⟨gp, 0, none⟩) 3 3, .int .i64 0]) ∧ Below w.heap.size w w' ∧
    w'.cell? ⟨gp, 0, none⟩ = some (.int .i64 334) ∧ w'.cell? ⟨gp, 2, none⟩ = some (.int .i64 333) := by
  have h := share_good 1000 3 3 1 [1, 1, 1] (fun _ => 1) (fun _ => 333) (fun _ => 1) v w hv rfl (by omega) (by omega) (by omega) (fun i hi => by
    match i, hi with
    | 0, _ => rfl
    | 1, _ => rfl
    | 2, _ => rfl) (fun i _ => by omega) (by kernel_rfl) (by omega) (by kernel_rfl) (by kernel_rfl) (by kernel_rfl)
  refine h.mono fun e w' ⟨gp, f, he, hgp, hb, hs, hf, hc, hfr⟩ => ⟨gp, he, hb, ?_, ?_⟩
  all_goals
    have s01 : 1 < 1 ∨ 1 = 1 ∧ f 0 < f 1 := hs 0 1 (by omega) (by omega) (by omega)
    have s12 : 1 < 1 ∨ 1 = 1 ∧ f 1 < f 2 := hs 1 2 (by omega) (by omega) (by omega)
    have f2 := hf 2 (by omega)
    have f0 : f 0 = 0 := by omega
  · rw [hc 0 (by omega)]
    show some (Value.int .i64 ((if 0 = f 0 then 333 + 1 else 333 : Nat) : Int)) = _
    rw [if_pos f0.symm]; rfl
  · rw [hc 2 (by omega)]
    show some (Value.int .i64 ((if 2 = f 0 then 333 + 1 else 333 : Nat) : Int)) = _
    rw [if_neg (by omega)]; rfl
theorem rdI3 (w : World) (T : TypeId) (x y z : Int) : RdI (w.alloc (.cells #[.int .i64 x, .int .i64 y, .int .i64 z] T)) (.slice (some ⟨w.heap.size, 0, none⟩) 3 3) [x, y, z] := by
  refine ⟨_, 3, rfl, by simp, fun _ => ⟨_, rfl, fun j u hj => ?_⟩⟩
  rw [add_at]
  refine blk_cell (heap_alloc_new w _) j ?_
  match j, hj with
  | 0, hj => obtain rfl := Option.some.inj hj; rfl
  | 1, hj => obtain rfl := Option.some.inj hj; rfl
  | 2, hj => obtain rfl := Option.some.inj hj; rfl
theorem len6 : ([49, 50, 48, 46, 53, 48] : List UInt8).length ≤ 9223372036854770000 := by
  have h : ([49, 50, 48, 46, 53, 48] : List UInt8).length = 6 := rfl
  omega
theorem parse_w (w : World) : Calls Tryd.prog 12 #[.string ⟨#[49, 50, 48, 46, 53, 48]⟩] w fun e w' => e = .returned (.tuple #[.int .i64 12050, .int .i64 0]) ∧ Below w.heap.size w w' := by
  have h := parse_calls [49, 50, 48, 46, 53, 48] len6 w
  rw [parse_ex] at h
  exact h
set_option maxRecDepth 100000 in
theorem print_w (w : World) : Calls Tryd.prog 21 #[.int .i64 (-5)] w fun e w' => e = .returned (.tuple #[.string ⟨#[45, 48, 46, 48, 53]⟩, .int .i64 0]) ∧ Below w.heap.size w w' := by
  have e : (-5 : Int).natAbs / 100 = 0 := by decide
  have h := print_calls (-5) w (fun _ => by rw [e]; exact formatSmall 0 (by omega) w)
  rw [print_ex] at h
  exact h
set_option maxRecDepth 100000 in
theorem scale_w (w : World) : Calls Tryd.prog 16 #[.int .i64 (-3), .int .i64 1, .int .i64 2, .int .i64 6] w fun e w' => e = .returned (.tuple #[.int .i64 (-2), .int .i64 0]) ∧ Below w.heap.size w w' := by
  have h := scale_in (-3) 1 2 6 (chk_in _ (by omega) (by omega)) (by omega) (by omega) (by omega) (by omega) (by omega) (by omega) w (fun h => div64_calls _ _ _ h (by omega) (Nat.mod_lt _ (by omega)))
  rw [scale_ex] at h
  exact h
set_option maxHeartbeats 1000000 in
set_option maxRecDepth 100000 in
theorem works_calls (w : World) : Calls Tryd.prog 15 #[] w fun e w' => e = .returned (.bool true) ∧ Below w.heap.size w w' := by
  have HP := Lib.hid parse_w
  have HPr := Lib.hid print_w
  have HS := Lib.hid scale_w
  have HSh := Lib.hid (fun v w hv => share3 v w hv)
  go_enter Tryd.func15, Tryd.ntmps15
  go_wp2_with fail
  refine (HP.out _).mono ?_
  rintro e w1 ⟨rfl, b1⟩
  have B1 := Lib.hid b1
  clear b1
  go_wp2_with fail
  refine (HPr.out _).mono ?_
  rintro e w2 ⟨rfl, b2⟩
  have B2 := Lib.hid (B1.out.trans (b2.mono B1.out.size))
  clear b2 B1
  go_wp2_with fail
  refine (HSh.out _ _ (rdI3 _ _ _ _ _)).mono ?_
  rintro e w3 ⟨gp, rfl, b3, c1, c2⟩
  have B3 := Lib.hid ((B2.out.alloc B2.out.size _).trans (b3.mono (by have := B2.out.size; simp; omega)))
  have HC := Lib.hid (And.intro c1 c2)
  clear b3 B2 c1 c2
  go_wp2_with fail
  refine (HS.out _).mono ?_
  rintro e w4 ⟨rfl, b4⟩
  have c1 := (b4.cell (p := ⟨gp, 0, none⟩) (World.block_lt_of_cell? _ _ HC.out.1)).trans HC.out.1
  have c2 := (b4.cell (p := ⟨gp, 2, none⟩) (World.block_lt_of_cell? _ _ HC.out.2)).trans HC.out.2
  have B4 := Lib.hid (B3.out.trans (b4.mono B3.out.size))
  clear b4 B3
  go_wp2_with (first | (go_at_call 14; refine (num_calls _ _).mono ?_; rintro e w' ⟨rfl, rfl⟩))
  go_ret
  exact ⟨rfl, B4.out⟩
end Go.Proofs.YtgabkgomjdlgnaaDoor
