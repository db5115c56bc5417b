import Derived.Test.YtgkliaalfiginabDoorMonQ8
import Derived.Laws.Externs
namespace Go.Proofs.YtgkliaalfiginabDoor
open Go.RowKit Go.Lib
set_option linter.unusedVariables false
set_option linter.unusedSimpArgs false

namespace Mo
def okI (x : Int) : Bool := chk x == 0
/-- how 'Sum' answers -/
def sumE (l : List Int) : Int × Int := if l.all okI = true then (if chk l.sum = 0 then (l.sum, 0) else (0, 22)) else (0, 22)
theorem okI_iff (x : Int) : okI x = true ↔ -1000000000000000 ≤ x ∧ x ≤ 1000000000000000 := by
  unfold okI chk
  rw [beq_iff_eq]
  by_cases h : x < -1000000000000000 ∨ 1000000000000000 < x
  · rw [if_pos h]; constructor
    · intro h2; exact absurd h2 (by decide)
    · omega
  · rw [if_neg h]; constructor
    · omega
    · intro _; rfl
theorem sum_take_succ (l : List Int) (k : Nat) (h : k < l.length) : (l.take (k + 1)).sum = (l.take k).sum + l[k] := by
  rw [List.take_succ_eq_append_getElem h, List.sum_append]
  simp
theorem all_take (l : List Int) : ∀ k, (∀ j (h : j < l.length), j < k → okI l[j] = true) → -((k : Int) * 1000000000000000) ≤ (l.take k).sum ∧ (l.take k).sum ≤ (k : Int) * 1000000000000000 := by
  intro k
  induction k with
  | zero => intro _; simp
  | succ k ih =>
    intro h
    have h1 := ih (fun j hj hk => h j hj (by omega))
    by_cases hk : k < l.length
    · rw [sum_take_succ l k hk]
      have := (okI_iff _).1 (h k hk (by omega))
      omega
    · rw [List.take_of_length_le (by omega)]
      rw [List.take_of_length_le (by omega)] at h1
      omega
end Mo
theorem add64_0 (x y : Int) (hx : 0 ≤ x) (hy : 0 ≤ y) (w : World) : (callFunc 28 #[.int .u64 x, .int .u64 y, .int .u64 0]).run Tryd.prog w =
    .ok (.value (.tuple #[.int .u64 ((x + y) % 18446744073709551616), .int .u64 ((x + y) / 18446744073709551616)])) w := by
  rw [run_callFunc_extern Tryd.func28 (by kernel_rfl) (by kernel_rfl) (by kernel_rfl) (e := add64Entry) (by kernel_rfl), run_add64 x y 0 hx hy (by omega) (by omega)]
  simp only [Result.andThen, Int.add_zero]

set_option maxRecDepth 100000 in
theorem sum_calls (xs : List Int) (v : Value) (w : World) (hv : RdI w v xs) :
    Calls Tryd.prog 18 #[v] w fun e w' => e = .returned (.tuple #[.int .i64 (Mo.sumE xs).1, .int .i64 (Mo.sumE xs).2]) ∧ w = w' := by
  obtain ⟨A0, cp, rfl, hlen, hc⟩ := hv
  have HC := Lib.hid hc
  have HE := Lib.hid (show Mo.sumE xs = Mo.sumE xs from rfl)
  clear hc
  go_enter Tryd.func18, Tryd.ntmps18
  go_wp2_with fail
  go_loop [4, 5, 12] (fun s l i => ∃ (k : Nat) (H L : Int), k ≤ xs.length ∧ i = .int .i64 k ∧ s = .int .i64 H ∧ l = .int .u64 L ∧ 0 ≤ L ∧ L < 18446744073709551616 ∧ (xs.take k).sum = H * 18446744073709551616 + L ∧ (∀ j (h : j < xs.length), j < k → Mo.okI xs[j] = true)) (fun _ _ i => xs.length - (intOf i).toNat)
  case atStart => exact ⟨0, 0, 0, Nat.zero_le _, rfl, rfl, rfl, by decide, by decide, by simp, fun j _ hj => by omega⟩
  case round =>
    obtain ⟨k, H, L, hk, rfl, rfl, rfl, hL0, hL1, hT, hg⟩ := hrel
    have HG := Lib.hid hg
    have hTb := Mo.all_take xs k hg
    rw [hT] at hTb
    have HT := Lib.hid hT
    clear hg hT
    by_cases hlt : k < xs.length
    · obtain ⟨a, rfl, hcc⟩ := HC.out (by omega)
      have hx : xs[k]? = some xs[k] := List.getElem?_eq_getElem hlt
      have hcell := hcc k _ hx
      have z1 : (k : Int) < xs.length := by omega
      have z2 : (0 : Int) ≤ k := by omega
      have HX := Lib.hid (Mo.sum_take_succ xs k hlt)
      have HK := Lib.hid (show Mo.okI xs[k] = true → ∀ j (h : j < xs.length), j < k + 1 → Mo.okI xs[j] = true from fun h1 j h hj => by
        rcases Nat.lt_or_ge j k with h2 | h2
        · exact HG.out j h h2
        · have : j = k := by omega
          subst this; exact h1)
      have HB := Lib.hid (show Mo.okI xs[k] = false → Mo.sumE xs = (0, 22) from fun h1 => by
        unfold Mo.sumE
        rw [if_neg]
        intro h2
        rw [List.all_eq_true] at h2
        have := h2 _ (List.getElem_mem hlt)
        rw [h1] at this
        cases this)
      clear hcc hx
      generalize xs[k] = x at *
      by_cases b : Mo.chk x = 0
      · have hok : Mo.okI x = true := by unfold Mo.okI; rw [b]; rfl
        have hxb := (Mo.okI_iff x).1 hok
        have k1 : (Mo.chk x != 0) = false := by rw [b]; rfl
        obtain ⟨u, hu, hu2⟩ : ∃ u, IntKind.u64.wrap x = u ∧ u = (if x < 0 then x + 18446744073709551616 else x) := ⟨_, rfl, by rw [IntKind.wrap_u64]; split <;> omega⟩
        obtain ⟨sg, hs, hs2⟩ : ∃ sg, x / 9223372036854775808 = sg ∧ sg = (if x < 0 then -1 else 0) := ⟨_, rfl, by split <;> omega⟩
        have hadd := fun w => add64_0 L u hL0 (by rw [hu2]; split <;> omega) w
        obtain ⟨S, hS⟩ : ∃ S, (L + u) % 18446744073709551616 = S := ⟨_, rfl⟩
        obtain ⟨C, hC⟩ : ∃ C, (L + u) / 18446744073709551616 = C := ⟨_, rfl⟩
        rw [hS, hC] at hadd
        have hu0 : 0 ≤ u ∧ u < 18446744073709551616 := by rw [hu2]; split <;> omega
        have hC2 : 0 ≤ C ∧ C ≤ 1 := by omega
        have hkey : H * 18446744073709551616 + L + x = (H + (sg + C)) * 18446744073709551616 + S := by
          have e1 : u = x - sg * 18446744073709551616 := by rw [hu2, hs2]; split <;> omega
          omega
        have hS2 : 0 ≤ S ∧ S < 18446744073709551616 := by omega
        have hsg : -1 ≤ sg ∧ sg ≤ 0 := by rw [hs2]; split <;> omega
        have w1 : IntKind.i64.wrap C = C := IntWalk.i64_in _ (by omega)
        have w2 : IntKind.i64.wrap (sg + C) = sg + C := IntWalk.i64_in _ (by omega)
        have hH : -600000000000000 ≤ H + (sg + C) ∧ H + (sg + C) ≤ 600000000000000 ∧ -600000000000000 ≤ H ∧ H ≤ 600000000000000 := by omega
        have w3 : IntKind.i64.wrap (H + (sg + C)) = H + (sg + C) := IntWalk.i64_in _ (by omega)
        have HF := Lib.hid (And.intro hkey (And.intro hS2 hok))
        clear hu2 hs2 hkey hS hC hS2 hTb hxb hu0 hok
        go_wp2_with (first | (go_at_call 12; refine (check_calls _ _).mono ?_; rintro e W2 ⟨rfl, rfl⟩) | simp only [hadd])
        go_round
        case rel => exact ⟨k + 1, H + (sg + C), S, by omega, by go_num, rfl, rfl, HF.out.2.1.1, HF.out.2.1.2, by rw [HX.out, HT.out]; exact HF.out.1, HK.out HF.out.2.2⟩
        case measure => simp [intOf]; omega
      · have hno := HB.out (by unfold Mo.okI; simpa using b)
        have k1 : (Mo.chk x != 0) = true := by simpa using b
        clear hTb
        go_wp2_with (first | (go_at_call 12; refine (check_calls _ _).mono ?_; rintro e W2 ⟨rfl, rfl⟩))
        go_ret2
        rw [hno]
        exact ⟨rfl, rfl⟩
    · obtain rfl : xs.length = k := by omega
      have hall : xs.all Mo.okI = true := by
        rw [List.all_eq_true]
        intro x hx
        obtain ⟨j, hj, rfl⟩ := List.getElem_of_mem hx
        exact HG.out j hj hj
      have hT := HT.out
      rw [List.take_of_length_le (Nat.le_refl _)] at hT
      obtain ⟨s, hs, hs2⟩ : ∃ s, IntKind.i64.wrap L = s ∧ s = (if L < 9223372036854775808 then L else L - 18446744073709551616) := ⟨_, rfl, by rw [IntKind.wrap_i64]; split <;> omega⟩
      obtain ⟨g, hg, hg2⟩ : ∃ g, s / 9223372036854775808 = g ∧ g = (if L < 9223372036854775808 then 0 else -1) := ⟨_, rfl, by rw [hs2]; split <;> omega⟩
      have hse : Mo.sumE xs = if Mo.chk xs.sum = 0 then (xs.sum, 0) else (0, 22) := by unfold Mo.sumE; rw [if_pos hall]
      clear HG HT HC
      by_cases hh : H = g
      · have hTs : xs.sum = s := by rw [hT, hh, hg2, hs2]; split <;> omega
        rw [hTs] at hse
        have b1 : (H != g) = false := by simpa using hh
        by_cases b : Mo.chk s = 0
        · have k1 : (Mo.chk s != 0) = false := by rw [b]; rfl
          have HSE := Lib.hid (hse.trans (if_pos b))
          clear hTb hs2 hg2 hT hse hTs hall
          go_wp2_with (first | (go_at_call 12; refine (check_calls _ _).mono ?_; rintro e W2 ⟨rfl, rfl⟩))
          go_ret2
          rw [HSE.out]
          exact ⟨rfl, rfl⟩
        · have k1 : (Mo.chk s != 0) = true := by simpa using b
          have HSE := Lib.hid (hse.trans (if_neg b))
          clear hTb hs2 hg2 hT hse hTs hall
          go_wp2_with (first | (go_at_call 12; refine (check_calls _ _).mono ?_; rintro e W2 ⟨rfl, rfl⟩))
          go_ret2
          rw [HSE.out]
          exact ⟨rfl, rfl⟩
      · have b1 : (H != g) = true := by simpa using hh
        have hno : ¬ Mo.chk xs.sum = 0 := by
          intro h0
          have := chk_bound _ h0
          apply hh
          rw [hg2]
          split <;> omega
        have HSE := Lib.hid (hse.trans (if_neg hno))
        clear hTb hs2 hg2 hT hse hall hno
        go_wp2_with (first | (go_at_call 12; refine (check_calls _ _).mono ?_; rintro e W2 ⟨rfl, rfl⟩))
        go_ret2
        rw [HSE.out]
        exact ⟨rfl, rfl⟩
end Go.Proofs.YtgkliaalfiginabDoor
