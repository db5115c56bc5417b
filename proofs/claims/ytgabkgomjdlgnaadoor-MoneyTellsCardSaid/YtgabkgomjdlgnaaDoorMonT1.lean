import Derived.Test.YtgabkgomjdlgnaaDoorMonQ8
import Derived.Test.YtgabkgomjdlgnaaDoorMonPt
namespace Go.Proofs.YtgabkgomjdlgnaaDoor
open Go.RowKit Go.Lib
open Go.Proofs.YtgabkgomjdlgnaaDoor.PMoneyTells
set_option linter.unusedVariables false
set_option linter.unusedSimpArgs false

namespace Mo
theorem nums_S (xs : List Int) : strOfNums xs = S (xs.map fun n => UInt8.ofNat n.toNat) := rfl
theorem digit_nums (x : Nat) (h : x ≤ 1000000000000000) : strOfNums ([(wrap64 (48 + (Int.tmod (x : Int) 10))) % 256] : List Int) = S [UInt8.ofNat (48 + x % 10)] := by
  have e1 : Int.tmod (x : Int) 10 = ((x % 10 : Nat) : Int) := by rw [Int.tmod_eq_emod_of_nonneg (by omega)]; omega
  have e2 : wrap64 (48 + ((x % 10 : Nat) : Int)) = 48 + ((x % 10 : Nat) : Int) := by unfold wrap64; omega
  rw [e1, e2, nums_S]
  show S [UInt8.ofNat ((48 + ((x % 10 : Nat) : Int)) % 256).toNat] = _
  rw [show ((48 + ((x % 10 : Nat) : Int)) % 256).toNat = 48 + x % 10 by omega]
theorem div10 (x : Nat) (h : x ≤ 1000000000000000) : wrap64 (Int.tdiv (x : Int) 10) = ((x / 10 : Nat) : Int) := by
  rw [Int.tdiv_eq_ediv_of_nonneg (by omega)]
  unfold wrap64
  omega
theorem digits_l0 : ∀ (x k : Nat) (l : List UInt8), x < k → x ≤ 1000000000000000 → l.length + x ≤ 2000000000000000 → lexpriorref02_Digits.l0 k (x : Int) (S l) = some (S ((if x = 0 then [] else decDigits x) ++ l)) := by
  intro x
  induction x using Nat.strongRecOn with
  | ind x ih =>
    intro k l hk hx hl
    obtain ⟨k, rfl⟩ : ∃ m, k = m + 1 := ⟨k - 1, by omega⟩
    rw [lexpriorref02_Digits.l0]
    by_cases h0 : x = 0
    · rw [if_neg (by omega), if_pos h0]; rfl
    · rw [if_pos (by omega), Option.bind_some, digit_nums x hx, div10 x hx, S_append]
      rw [if_pos (by rw [S_size, S_size]; simp; omega), if_neg h0]
      rw [ih (x / 10) (by omega) k _ (by omega) (by omega) (by simp; omega)]
      by_cases h10 : x < 10
      · rw [if_pos (by omega), decDigits_one h10, show x % 10 = x by omega]; rfl
      · rw [if_neg (by omega)]
        have hd : decDigits x = decDigits (x / 10) ++ [UInt8.ofNat (48 + x % 10)] := by rw [decDigits, dif_neg h10]
        rw [hd, List.append_assoc]
theorem digits_f (u : Nat) (hu : u ≤ 1000000000000000) : lexpriorref02_Digits.f (u + 1) (u : Int) = some (S (decDigits u)) := by
  unfold lexpriorref02_Digits.f
  rw [digit_nums u hu, div10 u hu, digits_l0 (u / 10) (u + 1) _ (by omega) (by omega) (by simp; omega)]
  by_cases h10 : u < 10
  · rw [if_pos (by omega), decDigits_one h10, show u % 10 = u by omega]; rfl
  · rw [if_neg (by omega)]
    have hd : decDigits u = decDigits (u / 10) ++ [UInt8.ofNat (48 + u % 10)] := by rw [decDigits, dif_neg h10]
    rw [hd]
end Mo
theorem rdigits_calls (u : Nat) (hu : u ≤ 1000000000000000) (w : World) : Calls Tryd.prog 67 #[.int .i64 (u : Int)] w fun e w' => e = .returned (.string (Mo.S (Lib.decDigits u))) ∧ Below w.heap.size w w' :=
  lexpriorref02_Digits.calls (u + 1) u _ w (Mo.digits_f u hu)
theorem conv2b (w2 : World) (i j : Nat) (hi : i < 10) (hj : j < 10) : (convert 91 9 (.slice (some ⟨w2.heap.size, 0, none⟩) 2 2)).run Tryd.prog (w2.alloc (.cells #[.int .u8 (48 + (i : Int)), .int .u8 (48 + (j : Int))] 5)) = .ok (.string (Mo.S [Mo.dc i, Mo.dc j])) (w2.alloc (.cells #[.int .u8 (48 + (i : Int)), .int .u8 (48 + (j : Int))] 5)) := conv2 w2 i j hi hj
set_option maxHeartbeats 1000000 in
set_option maxRecDepth 100000 in
theorem rtext_neg (m : Int) (a q c i j : Nat) (hneg : m < 0) (n1 : IntKind.i64.wrap (-m) = (a : Int)) (ha : a ≤ 1000000000000000) (P : Mo.Parts a q c i j) (hj2 : (a : Int).tmod 10 = (j : Int)) (hq : q ≤ 1000000000000000) (hlen : (Lib.decDigits q).length ≤ 100) (w : World) :
    Calls Tryd.prog 49 #[.int .i64 m] w fun e w' => e = .returned (.string (Mo.S ([45] ++ Lib.decDigits q ++ Mo.frac c i j))) ∧ Below w.heap.size w w' := by
  obtain ⟨q1, q2, e1, e2, f1, f2, f3, f4, f5, f6, f7, f8, hi, hj⟩ := P
  have d1 : decide (m < 0) = true := decide_eq_true hneg
  have HF := Lib.hid (fun w => rdigits_calls q hq w)
  have HI := Lib.hid hi
  have HJ := Lib.hid hj
  have f9 : IntKind.i64.wrap (48 + (i : Int)) = 48 + (i : Int) := IntWalk.i64_in _ (by omega)
  have f10 : IntKind.i64.wrap (48 + (j : Int)) = 48 + (j : Int) := IntWalk.i64_in _ (by omega)
  clear hneg hi hj
  generalize hL : Lib.decDigits q = L at *
  clear hL
  have ha : (⟨#[45]⟩ : ByteArray) ++ Mo.S L = Mo.S (45 :: L) := Mo.S_append [45] L
  have z1 : (Mo.S L).size ≤ 100 := by rw [Mo.S_size]; exact hlen
  have z2 : (Mo.S (45 :: L)).size ≤ 101 := by rw [Mo.S_size]; simp; exact hlen
  clear hlen
  go_enter Tryd.func49, Tryd.ntmps49
  go_upto_region 6 with (first | (go_at_call 67; refine (HF.out _).mono ?_; rintro e w2 ⟨rfl, hb2⟩))
  have HB := Lib.hid hb2
  clear hb2 HF d1
  by_cases hc0 : c = 0
  · have c1 : ((c : Int) == 0) = true := by rw [hc0]; rfl
    have c2 : (c == 0) = true := by rw [hc0]; rfl
    have hfr := Lib.hid (show Mo.frac c i j = [] by simp [Mo.frac, hc0])
    clear hc0
    go_wp2
    go_ret
    exact ⟨by rw [hfr.out, List.append_nil]; rfl, HB.out⟩
  · have c1 : ((c : Int) == 0) = false := by simpa using fun h => hc0 (by omega)
    have c2 : (c == 0) = false := by simpa using hc0
    have hfr := Lib.hid (show Mo.frac c i j = [46, Mo.dc i, Mo.dc j] by simp [Mo.frac, hc0])
    clear hc0
    have hcv := conv2b w2 i j HI.out HJ.out
    have z3 : (Mo.S [Mo.dc i, Mo.dc j]).size ≤ 2 := by rw [Mo.S_size]; simp
    obtain ⟨M, hM⟩ : ∃ M, M = 45 :: L ++ [46] := ⟨_, rfl⟩
    obtain ⟨Z, hZ⟩ : ∃ Z, Z = M ++ [Mo.dc i, Mo.dc j] := ⟨_, rfl⟩
    have hb1 : Mo.S (45 :: L) ++ (⟨#[46]⟩ : ByteArray) = Mo.S M := by rw [hM]; exact Mo.S_append (45 :: L) [46]
    have z4 : (Mo.S M).size ≤ 102 := by rw [Mo.S_size] at z2 ⊢; rw [hM, List.length_append]; simp at z2 ⊢; omega
    have hb2 : Mo.S M ++ Mo.S [Mo.dc i, Mo.dc j] = Mo.S Z := by rw [hZ]; exact Mo.S_append _ _
    have HZ := Lib.hid (show Mo.S Z = Mo.S (45 :: (L ++ [46, Mo.dc i, Mo.dc j])) by rw [hZ, hM]; simp)
    clear hM hZ
    have HB2 := Lib.hid (HB.out.alloc HB.out.size (.cells #[.int .u8 (48 + (i : Int)), .int .u8 (48 + (j : Int))] 5))
    go_wp2
    go_ret
    exact ⟨by rw [hfr.out, ← HZ.out]; rfl, HB2.out⟩
set_option maxHeartbeats 1000000 in
set_option maxRecDepth 100000 in
theorem rtext_pos (m : Int) (a q c i j : Nat) (hneg : ¬ m < 0) (n1 : m = (a : Int)) (ha : a ≤ 1000000000000000) (P : Mo.Parts a q c i j) (hj2 : (a : Int).tmod 10 = (j : Int)) (hq : q ≤ 1000000000000000) (hlen : (Lib.decDigits q).length ≤ 100) (w : World) :
    Calls Tryd.prog 49 #[.int .i64 m] w fun e w' => e = .returned (.string (Mo.S (Lib.decDigits q ++ Mo.frac c i j))) ∧ Below w.heap.size w w' := by
  subst n1
  obtain ⟨q1, q2, e1, e2, f1, f2, f3, f4, f5, f6, f7, f8, hi, hj⟩ := P
  have d1 : decide ((a : Int) < 0) = false := decide_eq_false hneg
  have HF := Lib.hid (fun w => rdigits_calls q hq w)
  have HI := Lib.hid hi
  have HJ := Lib.hid hj
  have f9 : IntKind.i64.wrap (48 + (i : Int)) = 48 + (i : Int) := IntWalk.i64_in _ (by omega)
  have f10 : IntKind.i64.wrap (48 + (j : Int)) = 48 + (j : Int) := IntWalk.i64_in _ (by omega)
  clear hneg hi hj
  generalize hL : Lib.decDigits q = L at *
  clear hL
  have ha : (⟨#[]⟩ : ByteArray) ++ Mo.S L = Mo.S L := Mo.S_append [] L
  have z1 : (Mo.S L).size ≤ 100 := by rw [Mo.S_size]; exact hlen
  clear hlen
  go_enter Tryd.func49, Tryd.ntmps49
  go_upto_region 6 with (first | (go_at_call 67; refine (HF.out _).mono ?_; rintro e w2 ⟨rfl, hb2⟩))
  have HB := Lib.hid hb2
  clear hb2 HF d1
  by_cases hc0 : c = 0
  · have c1 : ((c : Int) == 0) = true := by rw [hc0]; rfl
    have c2 : (c == 0) = true := by rw [hc0]; rfl
    have hfr := Lib.hid (show Mo.frac c i j = [] by simp [Mo.frac, hc0])
    clear hc0
    go_wp2
    go_ret
    exact ⟨by rw [hfr.out, List.append_nil]; rfl, HB.out⟩
  · have c1 : ((c : Int) == 0) = false := by simpa using fun h => hc0 (by omega)
    have c2 : (c == 0) = false := by simpa using hc0
    have hfr := Lib.hid (show Mo.frac c i j = [46, Mo.dc i, Mo.dc j] by simp [Mo.frac, hc0])
    clear hc0
    have hcv := conv2b w2 i j HI.out HJ.out
    have z3 : (Mo.S [Mo.dc i, Mo.dc j]).size ≤ 2 := by rw [Mo.S_size]; simp
    obtain ⟨M, hM⟩ : ∃ M, M = L ++ [46] := ⟨_, rfl⟩
    obtain ⟨Z, hZ⟩ : ∃ Z, Z = M ++ [Mo.dc i, Mo.dc j] := ⟨_, rfl⟩
    have hb1 : Mo.S L ++ (⟨#[46]⟩ : ByteArray) = Mo.S M := by rw [hM]; exact Mo.S_append L [46]
    have z4 : (Mo.S M).size ≤ 102 := by rw [Mo.S_size] at z1 ⊢; rw [hM, List.length_append]; simp; omega
    have hb2 : Mo.S M ++ Mo.S [Mo.dc i, Mo.dc j] = Mo.S Z := by rw [hZ]; exact Mo.S_append _ _
    have HZ := Lib.hid (show Mo.S Z = Mo.S (L ++ [46, Mo.dc i, Mo.dc j]) by rw [hZ, hM]; simp)
    clear hM hZ
    have HB2 := Lib.hid (HB.out.alloc HB.out.size (.cells #[.int .u8 (48 + (i : Int)), .int .u8 (48 + (j : Int))] 5))
    go_wp2
    go_ret
    exact ⟨by rw [hfr.out, ← HZ.out]; rfl, HB2.out⟩
theorem rmay_calls (m : Int) (w : World) : Calls Tryd.prog 43 #[.int .i64 m] w fun e w' => e = .returned (.bool (decide (Mo.chk m = 0))) ∧ Go.Proofs.YtgabkgomjdlgnaaDoorW.PrintWords.Drawn0 w w' := by
  have h : lexpriorref02_May.f m = some (decide (Mo.chk m = 0)) := by
    unfold lexpriorref02_May.f Mo.chk
    by_cases h1 : m ≥ -1000000000000000
    · rw [if_pos h1]
      by_cases h2 : m ≤ 1000000000000000
      · rw [if_neg (by omega), decide_eq_true h2]; rfl
      · rw [if_pos (by omega), decide_eq_false h2]; rfl
    · rw [if_neg h1, if_pos (by omega)]; rfl
  exact lexpriorref02_May.calls m _ w h
end Go.Proofs.YtgabkgomjdlgnaaDoor
