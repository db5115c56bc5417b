import Derived.Test.YtgkliaalfiginabDoorMonS2
import Derived.Test.YtgkliaalfiginabDoorRows
import Derived.ChangeSlices
namespace Go.Proofs.YtgkliaalfiginabDoor
open Go.RowKit Go.Lib Go.ChangeShapes
open Go.Proofs.YtgkliaalfiginabDoorW.PrintWords
set_option linter.unusedVariables false
set_option linter.unusedSimpArgs false

theorem bulk_lits {H : Type} (k : IntKind) : ∀ l : List Int, Rows.uptoBulkAll (lits k l : List (DataW H)) = l.length
  | [] => rfl
  | x :: l => by
    have ih := bulk_lits (H := H) k l
    show Rows.uptoBulk (DataW.lit (Lit.int k x) : DataW H) + Rows.uptoBulkAll (lits k l : List (DataW H)) = _
    rw [ih]
    show 1 + l.length = _
    simp
    omega
/-- a slice of amounts: what it reads -/
theorem open_money {H : Type} {enc : TypeId × Value → H} {W : World} {base fuel : Nat} {held : Bool} {A : Option Addr} {len cap : Nat} {d : DataW H} {ps : List MemPlace}
    (h : DataW.trod enc Tryd.prog W base (fun _ => true) held fuel 38 [.slice A len cap] = some (d, ps)) :
    ∃ l : List Int, len = l.length ∧ Kd.C (Kd.int .i64) W A l.length l ∧ l.length ≤ cap ∧ (l.length ≤ Rows.uptoBulk d) := by
  rcases open_ints Tryd.underlying38 Tryd.underlying22 (by kernel_rfl) h with ⟨h1, h2⟩ | ⟨a, n, c, zs, h1, hb, hl, hm, hz, hx, hc, hw⟩
  · obtain ⟨rfl, rfl, rfl⟩ : A = none ∧ len = 0 ∧ cap = 0 := by simpa using h1
    exact ⟨[], rfl, ⟨rfl, by simp, fun h => absurd h (by simp)⟩, by simp, by simp⟩
  · obtain ⟨rfl, rfl, rfl⟩ : A = some a ∧ len = n ∧ cap = c := by simpa using h1
    rw [if_pos rfl] at hz
    have hlen : (zs.take len).length = len := by rw [List.length_take]; omega
    have hd : d = .slice (lits .i64 (zs.take len)) (lits .i64 (zs.drop len)) := congrArg Prod.fst hx
    have hmax : maxLen ≤ 9223372036854775807 := by decide
    refine ⟨zs.take len, hlen.symm, ⟨rfl, by omega, fun _ => ⟨a, rfl, fun j x hj => ⟨[Value.int .i64 x], rfl, rfl, ?_⟩⟩⟩, by omega, ?_⟩
    · intro i u hu
      have hj2 : j < len := by
        rcases Nat.lt_or_ge j len with h | h
        · exact h
        · rw [List.getElem?_eq_none (by omega)] at hj; cases hj
      have h0 : i = 0 ∧ u = Value.int .i64 x := by
        match i, hu with
        | 0, hu => exact ⟨rfl, by simpa using hu.symm⟩
        | i + 1, hu => simp at hu
      obtain ⟨rfl, rfl⟩ := h0
      have e : j * (Kd.int IntKind.i64).sz + 0 = j := by show j * 1 + 0 = j; omega
      rw [e, hc j (by omega)]
      rw [List.getElem?_take, if_pos hj2] at hj
      rw [List.getD_eq_getElem?_getD, hj]
      rfl
    · rw [hd]
      show _ ≤ Rows.uptoBulkAll _ + Rows.uptoBulkAll _ + 1
      rw [bulk_lits]
      omega
end Go.Proofs.YtgkliaalfiginabDoor
