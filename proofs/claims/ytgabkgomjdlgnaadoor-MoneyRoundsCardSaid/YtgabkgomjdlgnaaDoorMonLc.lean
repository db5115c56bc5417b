import Derived.Test.YtgabkgomjdlgnaaDoorMonQ8
import Derived.SizedLaws
namespace Go.Proofs.YtgabkgomjdlgnaaDoor
open Go.RowKit Go.Lib
set_option linter.unusedVariables false
set_option linter.unusedSimpArgs false

theorem Mo.print_ok (m : Int) (hk : Mo.chk m = 0) : (Mo.print m).2 = 0 := by unfold Mo.print; rw [if_pos hk]
theorem Mo.print_no (m : Int) (hk : ¬ Mo.chk m = 0) : Mo.print m = ([], 22) := by unfold Mo.print; rw [if_neg hk]
theorem Mo.print_len (m : Int) : (Mo.print m).1.length ≤ 200 := by
  unfold Mo.print
  by_cases hk : Mo.chk m = 0
  · rw [if_pos hk]
    have hb := chk_bound m hk
    have hl : (Lib.decDigits (m.natAbs / 100)).length ≤ 100 := by
      rw [Lib.decDigits_length]
      have := Lib.nDigits_le20 (m.natAbs / 100) (by omega)
      omega
    unfold Mo.text Mo.frac
    simp only [List.length_append]
    have h1 : (if decide (m < 0) = true then ([45] : List UInt8) else []).length ≤ 1 := by split <;> simp
    have h2 : (if m.natAbs % 100 = 0 then ([] : List UInt8) else [46, Mo.dc (m.natAbs % 100 / 10), Mo.dc (m.natAbs % 100 % 10)]).length ≤ 3 := by split <;> simp
    omega
  · rw [if_neg hk]; simp
theorem S_beq (s : ByteArray) : (s == s) = true := by
  cases s with
  | mk a => show (a == a) = true; simp
set_option maxHeartbeats 2000000 in
set_option maxRecDepth 100000 in
theorem back_walk (m : Int) (s : ByteArray) (w : World) (hm : (Lit.int .i64 m).wf = true) (hs : s.data.toList.length ≤ reachBytes) (hT : Tab w) :
    Calls Tryd.prog 6 #[.int .i64 m, .string s] w fun e w' => e = .returned (.bool true) ∧ Below w.heap.size w w' := by
  have hs' : s.size ≤ 9223372036854770000 := by
    rw [Array.length_toList] at hs
    have : reachBytes < 2 ^ 47 := reachBytes_lt
    have e : (2 : Nat) ^ 47 = 140737488355328 := by decide
    have e2 : s.size = s.data.size := rfl
    omega
  have HT := Lib.hid (fun w' (hb : Below w.heap.size w w') => hT.below hb)
  have HP := Lib.hid (fun w' h => print_tab m w' h)
  have HS := Lib.hid (fun w' => parse_str s hs' w')
  have hpe := Mo.parse_err s.data.toList
  have hpp := Mo.print_parse s.data.toList
  clear hs hs' hT hm
  go_enter Tryd.func6, Tryd.ntmps6
  go_wp2_with fail
  refine (works_calls _).mono ?_
  rintro e w1 ⟨rfl, b1⟩
  have B1 := Lib.hid b1
  clear b1
  go_wp2_with fail
  refine (HP.out _ (HT.out _ B1.out)).mono ?_
  rintro e w2 ⟨rfl, b2⟩
  have B2 := Lib.hid (B1.out.trans (b2.mono B1.out.size))
  clear b2 B1 HP
  go_upto_if 21 with (fail)
  go_cut [] (fun W => Below w.heap.size w W)
  case first =>
    by_cases hk : Mo.chk m = 0
    · have h2 := Mo.print_ok m hk
      have h3 := Mo.print_len m
      have h4 := Mo.parse_print m hk
      clear hpe hpp
      generalize Mo.print m = pr at *
      obtain ⟨l, e⟩ := pr
      have h2' : e = 0 := h2
      subst h2'
      have HPl := Lib.hid (fun w => parse_calls l (Nat.le_trans h3 (by omega)) w)
      rw [show Mo.parse l = (m, 0) from h4] at HPl
      clear h2 h3 h4 hk
      go_wp2_with (first | (go_at_call 12; refine (HPl.out _).mono ?_; rintro e w3 ⟨rfl, b3⟩))
      go_meet
      exact B2.out.trans (b3.mono B2.out.size)
    · have h2 := Mo.print_no m hk
      clear hpe hpp
      generalize Mo.print m = pr at *
      subst h2
      go_wp2
      go_meet
      exact B2.out
  case rest =>
    have B3 := Lib.hid hcut
    clear hcut B2
    go_wp2_with fail
    refine (HS.out _).mono ?_
    rintro e w3 ⟨rfl, b3⟩
    have B4 := Lib.hid (B3.out.trans (b3.mono B3.out.size))
    clear b3 B3 HS
    generalize hpr : Mo.parse s.data.toList = pr at *
    obtain ⟨n, f⟩ := pr
    by_cases hf : f = 0
    · subst hf
      have h2 : Mo.print n = (s.data.toList, 0) := hpp rfl
      have HPn := Lib.hid (print_tab n _ (HT.out _ B4.out))
      rw [h2] at HPn
      clear hpe hpp h2 hpr
      rw [Mo.S_of] at HPn
      go_wp2_with (first | (go_at_call 21; refine HPn.out.mono ?_; rintro e w4 ⟨rfl, b4⟩))
      go_ret
      exact ⟨by first | rfl | simp, B4.out.trans (b4.mono B4.out.size)⟩
    · have h2 : n = 0 := hpe hf
      subst h2
      have d1 : (f != 0) = true := by simpa using hf
      clear hpe hpp hf hpr
      go_wp2
      go_ret
      exact ⟨rfl, B4.out⟩
end Go.Proofs.YtgabkgomjdlgnaaDoor
