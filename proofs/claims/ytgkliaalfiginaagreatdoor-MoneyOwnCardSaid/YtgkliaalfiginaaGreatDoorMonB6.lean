import Derived.Test.YtgkliaalfiginaaGreatDoorMonB5
import Derived.Test.YtgkliaalfiginaaGreatDoorRows
import Derived.ChangeSlices
import Derived.OpenShut
/- what a []int64 reads -/
namespace Go.Proofs.YtgkliaalfiginaaGreatDoor
open Go.RowKit Go.Lib Go.ChangeShapes
set_option linter.unusedVariables false
set_option linter.unusedSimpArgs false
theorem open_i64 {H : Type} {enc : TypeId × Value → H} {W : World} {base fuel : Nat} {held : Bool} {A : Option Addr} {len cap : Nat} {d : DataW H} {ps : List MemPlace}
    (h : DataW.trod enc Tryz.prog W base (fun _ => true) held fuel 23 [.slice A len cap] = some (d, ps)) :
    ∃ l : List Int, RdI W (.slice A len cap) l := by
  rcases open_ints Tryz.underlying23 Tryz.underlying2 (by kernel_rfl) h with ⟨h1, h2⟩ | ⟨a, n, c, zs, h1, hb, hl, hm, hz, hx, hc, hw⟩
  · obtain ⟨rfl, rfl, rfl⟩ : A = none ∧ len = 0 ∧ cap = 0 := by simpa using h1
    exact ⟨[], none, 0, rfl, by simp, fun h => absurd h (by simp)⟩
  · obtain ⟨rfl, rfl, rfl⟩ : A = some a ∧ len = n ∧ cap = c := by simpa using h1
    rw [if_pos rfl] at hz
    have hlen : (zs.take len).length = len := by rw [List.length_take]; omega
    have hmax : maxLen ≤ 9223372036854775807 := by decide
    refine ⟨zs.take len, some a, cap, by rw [hlen], by omega, fun _ => ⟨a, rfl, fun j x hj => ?_⟩⟩
    have hj2 : j < len := by
      rcases Nat.lt_or_ge j len with h | h
      · exact h
      · rw [List.getElem?_eq_none (by omega)] at hj; cases hj
    rw [hc j (by omega)]
    rw [List.getElem?_take, if_pos hj2] at hj
    rw [List.getD_eq_getElem?_getD, hj]
    rfl
end Go.Proofs.YtgkliaalfiginaaGreatDoor
