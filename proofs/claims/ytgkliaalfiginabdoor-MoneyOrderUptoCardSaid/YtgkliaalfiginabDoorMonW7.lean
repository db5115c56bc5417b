import Derived.Test.YtgkliaalfiginabDoorMonW6
/- the walk of MoneyOrder, whole -/
namespace Go.Proofs.YtgkliaalfiginabDoor
open Go.RowKit Go.Lib
open Go.Proofs.YtgkliaalfiginabDoor.PMoneySums
open Go.Proofs.YtgkliaalfiginabDoorW.PrintWords
set_option linter.unusedVariables false
set_option linter.unusedSimpArgs false
set_option maxRecDepth 100000 in
theorem order_nil (A0 : Option Addr) (c0 : Nat) (a b : Int) (w : World) (hC : Kd.C (Kd.int .i64) w A0 0 []) :
    Calls Tryd.prog 5 #[.slice A0 0 c0, .int .i64 a, .int .i64 b] w fun e w' => e = .returned (.bool true) ∧ Below w.heap.size w w' := by
  have HP := Lib.hid (fun w1 (hb : Below w.heap.size w w1) => lexpriorplain_CopyMoney.calls 1 A0 c0 [] [] w1 (Kd.C_below hC hb) (Nat.zero_le _) (Mo.copy_f [] (by decide)))
  have HS := Lib.hid (fun v w1 (h : RdI w1 v []) => by have := sum_calls [] v w1 h; rw [show Mo.sumE [] = (0, 0) from rfl] at this; exact this)
  have HZ := Lib.hid (fun A c w1 => (show RdI w1 (.slice A 0 c) [] from ⟨A, c, rfl, by simp, fun h => absurd h (by simp)⟩))
  clear hC
  go_enter Tryd.func5, Tryd.ntmps5
  go_wp2_with (first
    | (go_at_call 16; refine (works_calls _).mono ?_; rintro e w1 ⟨rfl, b1⟩; have B1 := Lib.hid b1; clear b1)
    | (go_at_call 17; refine (HP.out _ B1.out).mono ?_; rintro e w2 ⟨v, rfl, hR, b2⟩
       obtain ⟨A1, c1, rfl, hc1, hC1⟩ := Kd.R_reads hR
       have B2 := Lib.hid (B1.out.trans (b2.mono B1.out.size))
       clear hR b2 HP hc1 hC1
       rw [show ([] : List Int).length = 0 from rfl])
    | (go_at_call 18; refine (HS.out _ _ (HZ.out _ _ _)).mono ?_; rintro e w3 ⟨rfl, rfl⟩))
  go_loop [14, 15] (fun o u => u = .int .i64 0 ∧ o = .bool true) (fun _ u => 1 - (intOf u).toNat)
  case atStart => exact ⟨rfl, rfl⟩
  case round =>
    obtain ⟨rfl, rfl⟩ := hrel
    go_wp2_with fail
    go_loop [16, 17] (fun v u => u = .int .i64 0 ∧ v = .slice none 0 0) (fun _ u => 1 - (intOf u).toNat)
    case atStart => exact ⟨rfl, rfl⟩
    case round =>
      obtain ⟨rfl, rfl⟩ := hrel
      go_wp2_with (first | (go_at_call 18; refine (HS.out _ _ (HZ.out _ _ _)).mono ?_; rintro e w3 ⟨rfl, rfl⟩))
      go_ret
      exact ⟨by first | rfl | simp, B2.out⟩
theorem order_walk (A0 : Option Addr) (c0 : Nat) (l : List Int) (a b : Int) (w : World) (hC : Kd.C (Kd.int .i64) w A0 l.length l) (hc0 : l.length ≤ c0) (hl : l.length ≤ 1048576) (_ : (Lit.int .i64 a).wf = true) (_ : (Lit.int .i64 b).wf = true) :
    Calls Tryd.prog 5 #[.slice A0 l.length c0, .int .i64 a, .int .i64 b] w fun e w' => e = .returned (.bool true) ∧ Below w.heap.size w w' := by
  rcases Nat.eq_zero_or_pos l.length with h | h
  · obtain rfl : l = [] := List.eq_nil_of_length_eq_zero h
    exact order_nil A0 c0 a b w hC
  · exact order_some A0 c0 l a b w hC hc0 hl h
end Go.Proofs.YtgkliaalfiginabDoor
