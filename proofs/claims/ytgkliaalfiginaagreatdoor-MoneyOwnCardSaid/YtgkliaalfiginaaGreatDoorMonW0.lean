import Derived.Test.YtgkliaalfiginaaGreatDoorMonQ8
/- Share's good answer as numbers; what is read stays so in a world that has grown -/
namespace Go.Proofs.YtgkliaalfiginaaGreatDoor
open Go.RowKit Go.Lib
set_option linter.unusedVariables false
set_option linter.unusedSimpArgs false
theorem share_ok (total : Int) (xs : List Int) (he : Mo.shareErr total xs = 0) :
    ∃ (T n A L : Nat) (W Q R : Nat → Nat), total = (T : Int) ∧ xs.length = n ∧ T ≤ 1000000000000000 ∧ 0 < n ∧ n ≤ 4096 ∧ (∀ i, i < n → xs[i]? = some (W i : Int)) ∧ (∀ i, i < n → W i ≤ 1000000000000000) ∧
      Sh.pre W n = A ∧ 0 < A ∧ Sh.q T A W = Q ∧ Sh.r T A W = R ∧ T - Sh.pre Q n = L := by
  unfold Mo.shareErr at he
  by_cases c1 : total < 0
  · rw [if_pos c1] at he; exact absurd he (by decide)
  rw [if_neg c1] at he
  by_cases c2 : Mo.chk total ≠ 0
  · rw [if_pos c2] at he; exact absurd he (by decide)
  rw [if_neg c2] at he
  by_cases c3 : xs.length = 0
  · rw [if_pos c3] at he; exact absurd he (by decide)
  rw [if_neg c3] at he
  by_cases c4 : 4096 < xs.length
  · rw [if_pos c4] at he; exact absurd he (by decide)
  rw [if_neg c4] at he
  by_cases c5 : xs.all Mo.okW = false
  · rw [if_pos c5] at he; exact absurd he (by decide)
  rw [if_neg c5] at he
  by_cases c6 : Sh.pre (Mo.wOf xs) xs.length = 0
  · rw [if_pos c6] at he; exact absurd he (by decide)
  have hb := chk_bound total (by simpa using c2)
  have hall : xs.all Mo.okW = true := by simpa using c5
  exact ⟨total.toNat, xs.length, _, _, Mo.wOf xs, _, _, by omega, rfl, by omega, by omega, by omega, fun i hi => (Mo.wOf_at xs i hall hi).1, fun i hi => (Mo.wOf_at xs i hall hi).2, rfl, by omega, rfl, rfl, rfl⟩
theorem RdI.below {w w1 : World} {v : Value} {xs : List Int} (h : RdI w v xs) (b : Below w.heap.size w w1) : RdI w1 v xs := by
  obtain ⟨A, c, rfl, hl, hc⟩ := h
  refine ⟨A, c, rfl, hl, fun h0 => ?_⟩
  obtain ⟨a, rfl, hx⟩ := hc h0
  exact ⟨a, rfl, fun j x hj => (b.cell (p := a.add j) (World.block_lt_of_cell? w _ (hx j x hj))).trans (hx j x hj)⟩
end Go.Proofs.YtgkliaalfiginaaGreatDoor
