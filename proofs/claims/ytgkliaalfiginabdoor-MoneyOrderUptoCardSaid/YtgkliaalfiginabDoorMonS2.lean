import Derived.Test.YtgkliaalfiginabDoorMonS1
import Derived.Test.YtgkliaalfiginabDoorMonPs
namespace Go.Proofs.YtgkliaalfiginabDoor
open Go.RowKit Go.Lib
open Go.Proofs.YtgkliaalfiginabDoor.PMoneySums
open Go.Proofs.YtgkliaalfiginabDoorW.PrintWords
set_option linter.unusedVariables false
set_option linter.unusedSimpArgs false

namespace Mo
theorem swrap_in (n : Int) (h : -9223372036854775808 ≤ n ∧ n ≤ 9223372036854775807) : wrap64 n = n := by unfold wrap64; omega
theorem rd_at (l : List Int) (i : Nat) (h : i < l.length) : rd l (i : Int) = l[i] := by
  unfold rd
  simp [List.getD_eq_getElem?_getD, h]
theorem copy_l (l : List Int) (hl : l.length ≤ 1048576) : ∀ n i, l.length - i = n → i ≤ l.length → lexpriorplain_CopyMoney.l0 (n + 1) l (l.take i) (i : Int) = some l := by
  intro n
  induction n with
  | zero =>
    intro i h1 h2
    rw [lexpriorplain_CopyMoney.l0, if_neg (by omega), List.take_of_length_le (by omega)]
  | succ n ih =>
    intro i h1 h2
    rw [lexpriorplain_CopyMoney.l0, if_pos (by omega), if_pos (by omega), if_pos (by rw [List.length_take]; omega), rd_at l i (by omega), swrap_in _ (by omega), ← List.take_succ_eq_append_getElem (by omega)]
    exact ih (i + 1) (by omega) (by omega)
theorem copy_f (l : List Int) (hl : l.length ≤ 1048576) : lexpriorplain_CopyMoney.f (l.length + 1) l = some l := copy_l l hl l.length 0 (by omega) (by omega)
theorem same_l (l : List Int) (hl : l.length ≤ 1048576) : ∀ n i, l.length - i = n → i ≤ l.length → lexpriorplain_SameMoney.l0 (n + 1) l l (i : Int) = some true := by
  intro n
  induction n with
  | zero =>
    intro i h1 h2
    rw [lexpriorplain_SameMoney.l0, if_neg (by omega)]
  | succ n ih =>
    intro i h1 h2
    rw [lexpriorplain_SameMoney.l0, if_pos (by omega), if_pos (by omega), if_pos (by omega), if_pos rfl, swrap_in _ (by omega)]
    exact ih (i + 1) (by omega) (by omega)
theorem same_f (l : List Int) (hl : l.length ≤ 1048576) : lexpriorplain_SameMoney.f (l.length + 1) l l = some true := by
  unfold lexpriorplain_SameMoney.f
  rw [if_pos rfl]
  exact same_l l hl l.length 0 (by omega) (by omega)
theorem smay_f (m : Int) : lexpriorref02_May.f m = some (okI m) := by
  have h := okI_iff m
  unfold lexpriorref02_May.f
  by_cases h1 : m ≥ -1000000000000000
  · rw [if_pos h1]
    congr 1
    rw [Bool.eq_iff_iff, h, decide_eq_true_iff]
    omega
  · rw [if_neg h1]
    congr 1
    symm
    rw [Bool.eq_false_iff, ne_eq, h]
    omega
theorem chk_okI (m : Int) : chk m = 0 ↔ okI m = true := by unfold okI; simp
theorem rsum_l (l : List Int) (hl : l.length ≤ 1048576) : ∀ n i (x4 x5 : Int), l.length - i = n → i ≤ l.length → (∀ j (h : j < l.length), j < i → okI l[j] = true) → x4 * 1000000000 + x5 = (l.take i).sum →
    -((i : Int) * 1000000) ≤ x4 ∧ x4 ≤ (i : Int) * 1000000 → -((i : Int) * 1000000000) ≤ x5 ∧ x5 ≤ (i : Int) * 1000000000 →
    lexpriorref02_Sum.l0 (n + 1) l x4 x5 (i : Int) = some (sumE l) := by
  intro n
  induction n with
  | zero =>
    intro i x4 x5 h1 h2 hg hs h4 h5
    have hall : l.all okI = true := by
      rw [List.all_eq_true]
      intro x hx
      obtain ⟨j, hj, rfl⟩ := List.getElem_of_mem hx
      exact hg j hj (by omega)
    rw [List.take_of_length_le (by omega)] at hs
    have hse : sumE l = if chk l.sum = 0 then (l.sum, 0) else (0, 22) := by unfold sumE; rw [if_pos hall]
    rw [hse, ← hs]
    clear hse hs hall hg
    rw [lexpriorref02_Sum.l0, if_neg (by omega)]
    have hdm : Int.tdiv x5 1000000000 * 1000000000 + Int.tmod x5 1000000000 = x5 := Int.tdiv_mul_add_tmod x5 1000000000
    have hm1 : -1000000000 < Int.tmod x5 1000000000 ∧ Int.tmod x5 1000000000 < 1000000000 := by
      have a1 := Int.tmod_lt_of_pos x5 (show (0 : Int) < 1000000000 by decide)
      have a2 : -1000000000 < Int.tmod x5 1000000000 := by
        have := Int.tmod_lt_of_pos (-x5) (show (0 : Int) < 1000000000 by decide)
        rw [Int.neg_tmod] at this
        omega
      exact ⟨a2, a1⟩
    generalize Int.tdiv x5 1000000000 = q at *
    generalize Int.tmod x5 1000000000 = r at *
    have hi : (i : Int) ≤ 1048576 := by omega
    have hq : -1048577 ≤ q ∧ q ≤ 1048577 := by omega
    rw [swrap_in q (by omega), swrap_in (x4 + q) (by omega)]
    have hT : x4 * 1000000000 + x5 = (x4 + q) * 1000000000 + r := by omega
    rw [hT]
    generalize x4 + q = H at *
    by_cases c1 : H > 2000000
    · rw [if_pos c1, if_neg (by rw [chk_okI, okI_iff]; omega)]
    · rw [if_neg c1]
      by_cases c2 : H < -2000000
      · rw [if_pos c2, if_neg (by rw [chk_okI, okI_iff]; omega)]
      · rw [if_neg c2, swrap_in (H * 1000000000) (by omega), swrap_in (H * 1000000000 + r) (by omega), smay_f, Option.bind_some]
        by_cases c3 : okI (H * 1000000000 + r) = true
        · rw [if_pos c3, if_pos ((chk_okI _).2 c3)]
        · rw [if_neg c3, if_neg (fun h => c3 ((chk_okI _).1 h))]
  | succ n ih =>
    intro i x4 x5 h1 h2 hg hs h4 h5
    have hi : i < l.length := by omega
    rw [lexpriorref02_Sum.l0, if_pos (by omega), if_pos (by omega), rd_at l i hi, smay_f, Option.bind_some]
    by_cases c : okI l[i] = true
    · rw [if_pos c]
      have hx := (okI_iff _).1 c
      have hss := sum_take_succ l i hi
      have hg' : ∀ j (h : j < l.length), j < i + 1 → okI l[j] = true := fun j h hj => by
        rcases Nat.lt_or_ge j i with h3 | h3
        · exact hg j h h3
        · have : j = i := by omega
          subst this; exact c
      have ih' := ih (i + 1)
      generalize l[i] = x at *
      have hdm : Int.tdiv x 1000000000 * 1000000000 + Int.tmod x 1000000000 = x := Int.tdiv_mul_add_tmod x 1000000000
      have hm1 : -1000000000 < Int.tmod x 1000000000 ∧ Int.tmod x 1000000000 < 1000000000 := by
        have a1 := Int.tmod_lt_of_pos x (show (0 : Int) < 1000000000 by decide)
        have a2 : -1000000000 < Int.tmod x 1000000000 := by
          have := Int.tmod_lt_of_pos (-x) (show (0 : Int) < 1000000000 by decide)
          rw [Int.neg_tmod] at this
          omega
        exact ⟨a2, a1⟩
      generalize Int.tdiv x 1000000000 = q at *
      generalize Int.tmod x 1000000000 = r at *
      have hii : (i : Int) ≤ 1048576 := by omega
      have hq : -1000000 ≤ q ∧ q ≤ 1000000 := by omega
      rw [swrap_in q (by omega), swrap_in (x4 + q) (by omega), swrap_in (x5 + r) (by omega), swrap_in ((i : Int) + 1) (by omega)]
      exact ih' (x4 + q) (x5 + r) (by omega) (by omega) hg' (by rw [hss]; omega) (by push_cast; omega) (by push_cast; omega)
    · rw [if_neg c]
      unfold sumE
      rw [if_neg]
      intro h
      rw [List.all_eq_true] at h
      exact c (h _ (List.getElem_mem hi))
theorem rsum_f (l : List Int) (hl : l.length ≤ 1048576) : lexpriorref02_Sum.f (l.length + 1) l = some (sumE l) :=
  rsum_l l hl l.length 0 0 0 (by omega) (by omega) (fun j _ hj => by omega) (by simp) (by omega) (by omega)
end Mo
theorem rdI_of {w : World} {A : Option Addr} {c : Nat} {xs : List Int} (h : Kd.C (Kd.int .i64) w A xs.length xs) : RdI w (.slice A xs.length c) xs := by
  obtain ⟨_, h1, h2⟩ := h
  refine ⟨A, c, rfl, h1, fun hn => ?_⟩
  obtain ⟨a, rfl, hc⟩ := h2 hn
  refine ⟨a, rfl, fun j x hj => ?_⟩
  obtain ⟨cs, _, hk, hcell⟩ := hc j x hj
  have hk' : cs = [Value.int .i64 x] := hk
  subst hk'
  have h3 := hcell 0 _ rfl
  have e : j * (Kd.int IntKind.i64).sz + 0 = j := by show j * 1 + 0 = j; omega
  rw [e] at h3
  exact h3
theorem sdrawn {w w' : World} (h : Drawn0 w w') : Below w.heap.size w w' := by
  obtain ⟨n, rfl⟩ := h.out
  exact below_drewn (Below.refl _ _) n
set_option maxRecDepth 100000 in
theorem sums_walk (A0 : Option Addr) (c0 : Nat) (l : List Int) (w : World) (hC : Kd.C (Kd.int .i64) w A0 l.length l) (hc0 : l.length ≤ c0) (hl : l.length ≤ 1048576) :
    Calls Tryd.prog 4 #[.slice A0 l.length c0] w fun e w' => e = .returned (.bool true) ∧ Below w.heap.size w w' := by
  have HP := Lib.hid (lexpriorplain_CopyMoney.calls (l.length + 1) A0 c0 l l w hC hc0 (Mo.copy_f l hl))
  have HCb := Lib.hid (fun w1 (hb : Below w.heap.size w w1) => Kd.C_below hC hb)
  have HR := Lib.hid (fun w1 (hb : Below w.heap.size w w1) => lexpriorref02_Sum.calls (l.length + 1) A0 c0 l (Mo.sumE l).1 (Mo.sumE l).2 w1 (Kd.C_below hC hb) hc0 (Mo.rsum_f l hl))
  have HSame := Lib.hid (fun w1 (hb : Below w.heap.size w w1) A1 c1 (h1 : Kd.C (Kd.int .i64) w1 A1 l.length l) (h2 : l.length ≤ c1) => lexpriorplain_SameMoney.calls (l.length + 1) A1 c1 l A0 c0 l true w1 h1 h2 (Kd.C_below hC hb) hc0 (Mo.same_f l hl))
  have HS := Lib.hid (fun v w1 (h : RdI w1 v l) => sum_calls l v w1 h)
  clear hC
  generalize Mo.sumE l = se at *
  generalize hn : l.length = n at *
  go_enter Tryd.func4, Tryd.ntmps4
  go_wp2_with fail
  refine HP.out.mono ?_
  rintro e w1 ⟨v, rfl, hR, b1⟩
  obtain ⟨A1, c1, rfl, hc1, hC1⟩ := Kd.R_reads hR
  have B1 := Lib.hid b1
  have C1 := Lib.hid (And.intro hC1 hc1)
  clear hR b1 HP hC1 hc1
  rw [hn] at C1 ⊢
  go_wp2_with (first
    | (go_at_call 18; refine (HS.out _ _ (by rw [← hn]; exact rdI_of (by rw [hn]; exact C1.out.1))).mono ?_; rintro e w2 ⟨rfl, rfl⟩)
    | (go_at_call 19; refine (HR.out _ B1.out).mono ?_; rintro e w3 ⟨rfl, b3⟩; have B3 := Lib.hid (B1.out.trans ((sdrawn b3).mono B1.out.size)); have C3 := Lib.hid (Kd.C_below C1.out.1 (sdrawn b3)); clear b3 HR)
    | (go_at_call 20; refine (HSame.out _ B3.out _ _ C3.out C1.out.2).mono ?_; rintro e w4 ⟨rfl, b4⟩; have B4 := Lib.hid (B3.out.trans ((sdrawn b4).mono B3.out.size)); clear b4 HSame)
    | (go_at_call 16; refine (works_calls _).mono ?_; rintro e w12 ⟨rfl, b12⟩; have B12 := Lib.hid (B4.out.trans (b12.mono B4.out.size)); clear b12)
    | (go_at_call 11; refine (num_calls _ _).mono ?_; rintro e w6 ⟨rfl, rfl⟩))
  go_ret
  exact ⟨by first | rfl | simp, B12.out⟩
end Go.Proofs.YtgkliaalfiginabDoor
