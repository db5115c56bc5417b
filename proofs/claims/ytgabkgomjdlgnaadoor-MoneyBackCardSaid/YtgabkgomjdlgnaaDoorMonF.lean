import Derived.Test.YtgabkgomjdlgnaaDoorMonE
import Derived.Laws.IdiomStrings
import Derived.Lib.ItoaLen
namespace Go.Proofs.YtgabkgomjdlgnaaDoor
open Go.RowKit Go.Lib
set_option linter.unusedVariables false
set_option linter.unusedSimpArgs false

theorem conv2 (w2 : World) (i j : Nat) (hi : i < 10) (hj : j < 10) : (convert 91 9 (.slice (some ⟨w2.heap.size, 0, none⟩) 2 2)).run Tryd.prog (w2.alloc (.cells #[.int .u8 (48 + (i : Int)), .int .u8 (48 + (j : Int))] 5)) = .ok (.string (Mo.S [Mo.dc i, Mo.dc j])) (w2.alloc (.cells #[.int .u8 (48 + (i : Int)), .int .u8 (48 + (j : Int))] 5)) :=
  run_convert_bytes_back (P := Tryd.prog) (w2.alloc (.cells #[.int .u8 (48 + (i : Int)), .int .u8 (48 + (j : Int))] 5)) 91 9 5 ⟨w2.heap.size, 0, none⟩ 2 [Mo.dc i, Mo.dc j] Tryd.underlying91 Tryd.underlying5 Tryd.underlying9 (fun k hk => by
    rw [add_at]
    refine blk_cell (heap_alloc_new w2 _) k ?_
    match k, hk with
    | 0, _ => simp [Mo.dc_nat i hi]
    | 1, _ => simp [Mo.dc_nat j hj])
set_option maxHeartbeats 1000000 in
set_option maxRecDepth 100000 in
/-- the walk of 'Print', an amount below 0 -/
theorem print_neg (m : Int) (a q c i j : Nat) (hk : Mo.chk m = 0) (hneg : m < 0) (n1 : IntKind.i64.wrap (-m) = (a : Int)) (P : Mo.Parts a q c i j) (hlen : (Lib.decDigits q).length ≤ 100) (w : World)
    (hF : Calls Tryd.prog 48 #[.int .i64 (q : Int), .int .i64 10] w fun e w' => e = .returned (.string (Mo.S (Lib.decDigits q))) ∧ Below w.heap.size w w') :
    Calls Tryd.prog 21 #[.int .i64 m] w fun e w' => e = .returned (.tuple #[.string (Mo.S ([45] ++ Lib.decDigits q ++ Mo.frac c i j)), .int .i64 0]) ∧ Below w.heap.size w w' := by
  obtain ⟨q1, q2, e1, e2, f1, f2, f3, f4, f5, f6, f7, f8, hi, hj⟩ := P
  have k1 : (Mo.chk m != 0) = false := by rw [hk]; rfl
  have d1 : decide (m < 0) = true := decide_eq_true hneg
  have HF := Lib.hid hF
  have HI := Lib.hid hi
  have HJ := Lib.hid hj
  clear hF hk hneg hi hj
  generalize hL : Lib.decDigits q = L at *
  clear hL
  have ha : (⟨#[45]⟩ : ByteArray) ++ Mo.S L = Mo.S (45 :: L) := Mo.S_append [45] L
  have z1 : (Mo.S L).size ≤ 100 := by rw [Mo.S_size]; exact hlen
  have z2 : (Mo.S (45 :: L)).size ≤ 101 := by rw [Mo.S_size]; simp; exact hlen
  clear hlen
  go_enter Tryd.func21, Tryd.ntmps21
  go_upto_region 8 with (first | (go_at_call 27; refine (check_calls _ _).mono ?_; rintro e W2 ⟨rfl, rfl⟩) | (go_at_call 48; refine HF.out.mono ?_; rintro e w2 ⟨rfl, hb2⟩))
  have HB := Lib.hid hb2
  clear hb2 HF k1 d1
  by_cases hc0 : c = 0
  · have c1 : ((c : Int) != 0) = false := by rw [hc0]; rfl
    have c2 : (c != 0) = false := by rw [hc0]; rfl
    have hfr := Lib.hid (show Mo.frac c i j = [] by simp [Mo.frac, hc0])
    clear hc0
    go_wp2
    go_ret2
    exact ⟨by rw [hfr.out, List.append_nil]; rfl, HB.out⟩
  · have c1 : ((c : Int) != 0) = true := by simpa using fun h => hc0 (by omega)
    have c2 : (c != 0) = true := by simpa using hc0
    have hfr := Lib.hid (show Mo.frac c i j = [46, Mo.dc i, Mo.dc j] by simp [Mo.frac, hc0])
    clear hc0
    go_upto_region 9 with (fail)
    have hcv := conv2 w2 i j HI.out HJ.out
    have z3 : (Mo.S [Mo.dc i, Mo.dc j]).size ≤ 2 := by rw [Mo.S_size]; simp
    have z4 : (Mo.S [46, Mo.dc i, Mo.dc j]).size ≤ 3 := by rw [Mo.S_size]; simp
    have hb1 : (⟨#[46]⟩ : ByteArray) ++ Mo.S [Mo.dc i, Mo.dc j] = Mo.S [46, Mo.dc i, Mo.dc j] := Mo.S_append [46] [Mo.dc i, Mo.dc j]
    have hb2 : Mo.S (45 :: L) ++ Mo.S [46, Mo.dc i, Mo.dc j] = Mo.S (45 :: L ++ [46, Mo.dc i, Mo.dc j]) := Mo.S_append _ _
    have HB2 := Lib.hid (HB.out.alloc HB.out.size (.cells #[.int .u8 (48 + (i : Int)), .int .u8 (48 + (j : Int))] 5))
    go_wp2
    go_ret2
    exact ⟨by rw [hfr.out]; rfl, HB2.out⟩
set_option maxHeartbeats 1000000 in
set_option maxRecDepth 100000 in
/-- the walk of 'Print', an amount from 0 on -/
theorem print_pos (m : Int) (a q c i j : Nat) (hk : Mo.chk m = 0) (hneg : ¬ m < 0) (n1 : m = (a : Int)) (P : Mo.Parts a q c i j) (hlen : (Lib.decDigits q).length ≤ 100) (w : World)
    (hF : Calls Tryd.prog 48 #[.int .i64 (q : Int), .int .i64 10] w fun e w' => e = .returned (.string (Mo.S (Lib.decDigits q))) ∧ Below w.heap.size w w') :
    Calls Tryd.prog 21 #[.int .i64 m] w fun e w' => e = .returned (.tuple #[.string (Mo.S (Lib.decDigits q ++ Mo.frac c i j)), .int .i64 0]) ∧ Below w.heap.size w w' := by
  subst n1
  obtain ⟨q1, q2, e1, e2, f1, f2, f3, f4, f5, f6, f7, f8, hi, hj⟩ := P
  have k1 : (Mo.chk (a : Int) != 0) = false := by rw [hk]; rfl
  have d1 : decide ((a : Int) < 0) = false := decide_eq_false hneg
  have HF := Lib.hid hF
  have HI := Lib.hid hi
  have HJ := Lib.hid hj
  clear hF hk hneg hi hj
  generalize hL : Lib.decDigits q = L at *
  clear hL
  have ha : (⟨#[]⟩ : ByteArray) ++ Mo.S L = Mo.S L := Mo.S_append [] L
  have z1 : (Mo.S L).size ≤ 100 := by rw [Mo.S_size]; exact hlen
  clear hlen
  go_enter Tryd.func21, Tryd.ntmps21
  go_upto_region 8 with (first | (go_at_call 27; refine (check_calls _ _).mono ?_; rintro e W2 ⟨rfl, rfl⟩) | (go_at_call 48; refine HF.out.mono ?_; rintro e w2 ⟨rfl, hb2⟩))
  have HB := Lib.hid hb2
  clear hb2 HF k1 d1
  by_cases hc0 : c = 0
  · have c1 : ((c : Int) != 0) = false := by rw [hc0]; rfl
    have c2 : (c != 0) = false := by rw [hc0]; rfl
    have hfr := Lib.hid (show Mo.frac c i j = [] by simp [Mo.frac, hc0])
    clear hc0
    go_wp2
    go_ret2
    exact ⟨by rw [hfr.out, List.append_nil]; rfl, HB.out⟩
  · have c1 : ((c : Int) != 0) = true := by simpa using fun h => hc0 (by omega)
    have c2 : (c != 0) = true := by simpa using hc0
    have hfr := Lib.hid (show Mo.frac c i j = [46, Mo.dc i, Mo.dc j] by simp [Mo.frac, hc0])
    clear hc0
    go_upto_region 9 with (fail)
    have hcv := conv2 w2 i j HI.out HJ.out
    have z3 : (Mo.S [Mo.dc i, Mo.dc j]).size ≤ 2 := by rw [Mo.S_size]; simp
    have z4 : (Mo.S [46, Mo.dc i, Mo.dc j]).size ≤ 3 := by rw [Mo.S_size]; simp
    have hb1 : (⟨#[46]⟩ : ByteArray) ++ Mo.S [Mo.dc i, Mo.dc j] = Mo.S [46, Mo.dc i, Mo.dc j] := Mo.S_append [46] [Mo.dc i, Mo.dc j]
    have hb2 : Mo.S L ++ Mo.S [46, Mo.dc i, Mo.dc j] = Mo.S (L ++ [46, Mo.dc i, Mo.dc j]) := Mo.S_append _ _
    have HB2 := Lib.hid (HB.out.alloc HB.out.size (.cells #[.int .u8 (48 + (i : Int)), .int .u8 (48 + (j : Int))] 5))
    go_wp2
    go_ret2
    exact ⟨by rw [hfr.out]; rfl, HB2.out⟩

theorem print_calls (m : Int) (w : World) (hF : Mo.chk m = 0 → Calls Tryd.prog 48 #[.int .i64 ((m.natAbs / 100 : Nat) : Int), .int .i64 10] w fun e w' => e = .returned (.string (Mo.S (Lib.decDigits (m.natAbs / 100)))) ∧ Below w.heap.size w w') :
    Calls Tryd.prog 21 #[.int .i64 m] w fun e w' => e = .returned (.tuple #[.string (Mo.S (Mo.print m).1), .int .i64 (Mo.print m).2]) ∧ Below w.heap.size w w' := by
  by_cases hk : Mo.chk m = 0
  · have hb := chk_bound m hk
    have hr : Mo.print m = (Mo.text (decide (m < 0)) (m.natAbs / 100) (m.natAbs % 100), 0) := by unfold Mo.print; rw [if_pos hk]
    have hl : (Lib.decDigits (m.natAbs / 100)).length ≤ 100 := by
      rw [Lib.decDigits_length]
      have := Lib.nDigits_le20 (m.natAbs / 100) (by omega)
      omega
    have P := Mo.parts m.natAbs (by omega)
    rw [hr]
    unfold Mo.text
    by_cases hneg : m < 0
    · have h := print_neg m m.natAbs _ _ _ _ hk hneg (by rw [IntWalk.i64_in _ (by omega)]; omega) P hl w (hF hk)
      rw [decide_eq_true hneg, if_pos rfl]
      exact h
    · have h := print_pos m m.natAbs _ _ _ _ hk hneg (by omega) P hl w (hF hk)
      rw [decide_eq_false hneg, if_neg (by decide)]
      exact h
  · have hr := Lib.hid (show Mo.print m = ([], 22) by unfold Mo.print; rw [if_neg hk])
    have k1 : (Mo.chk m != 0) = true := by simpa using hk
    clear hF
    go_enter Tryd.func21, Tryd.ntmps21
    go_wp2_with (first | (go_at_call 27; refine (check_calls _ _).mono ?_; rintro e W2 ⟨rfl, rfl⟩))
    go_ret2
    exact ⟨by rw [hr.out]; rfl, Below.refl _ _⟩
end Go.Proofs.YtgabkgomjdlgnaaDoor
