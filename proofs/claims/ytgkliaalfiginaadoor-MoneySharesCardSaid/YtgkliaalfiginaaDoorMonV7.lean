import Derived.Test.YtgkliaalfiginaaDoorMonV6
import Derived.Test.YtgkliaalfiginaaDoorRows
import Derived.ChangeSlices
import Derived.OpenShut
/- what a []int64 reads, with its size; MoneyShares, ready for its card -/
namespace Go.Proofs.YtgkliaalfiginaaDoor
open Go.RowKit Go.Lib Go.ChangeShapes
open Go.Proofs.YtgkliaalfiginaaDoorW.PrintWords
set_option linter.unusedVariables false
set_option linter.unusedSimpArgs false
theorem lits_len {H : Type} (k : IntKind) : ∀ l : List Int, (lits k l : List (DataW H)).length = l.length
  | [] => rfl
  | x :: l => by
    have ih := lits_len (H := H) k l
    show (lits k l : List (DataW H)).length + 1 = l.length + 1
    rw [ih]
theorem open_i64s {H : Type} {enc : TypeId × Value → H} {W : World} {base fuel : Nat} {held : Bool} {A : Option Addr} {len cap : Nat} {d : DataW H} {ps : List MemPlace}
    (h : DataW.trod enc Tryd.prog W base (fun _ => true) held fuel 35 [.slice A len cap] = some (d, ps)) :
    ∃ l : List Int, len = l.length ∧ (RdI W (.slice A l.length cap) l ∧ l.length ≤ cap ∧ (A = none → cap = 0)) ∧ (l.length = 0 ∨ ∃ es sp : List (DataW H), d = .slice es sp ∧ es.length = l.length) := by
  rcases open_ints Tryd.underlying35 Tryd.underlying2 (by kernel_rfl) h with ⟨h1, h2⟩ | ⟨a, n, c, zs, h1, hb, hl, hm, hz, hx, hc, hw⟩
  · obtain ⟨rfl, rfl, rfl⟩ : A = none ∧ len = 0 ∧ cap = 0 := by simpa using h1
    exact ⟨[], rfl, ⟨⟨none, 0, rfl, by simp, fun h => absurd h (by simp)⟩, by simp, fun _ => rfl⟩, Or.inl rfl⟩
  · obtain ⟨rfl, rfl, rfl⟩ : A = some a ∧ len = n ∧ cap = c := by simpa using h1
    rw [if_pos rfl] at hz
    have hlen : (zs.take len).length = len := by rw [List.length_take]; omega
    have hd : d = .slice (lits .i64 (zs.take len)) (lits .i64 (zs.drop len)) := congrArg Prod.fst hx
    have hmax : maxLen ≤ 9223372036854775807 := by decide
    refine ⟨zs.take len, hlen.symm, ⟨⟨some a, cap, rfl, by omega, fun _ => ⟨a, rfl, fun j x hj => ?_⟩⟩, by omega, fun h => by cases h⟩, Or.inr ⟨_, _, hd, lits_len _ _⟩⟩
    have hj2 : j < len := by
      rcases Nat.lt_or_ge j len with h | h
      · exact h
      · rw [List.getElem?_eq_none (by omega)] at hj; cases hj
    rw [hc j (by omega)]
    rw [List.getElem?_take, if_pos hj2] at hj
    rw [List.getD_eq_getElem?_getD, hj]
    rfl
theorem shares_card (T : Int) (l : List Int) {A0 : Option Addr} {c0 : Nat} (w : World) (_ : (Lit.int .i64 T).wf = true) (h : RdI w (.slice A0 l.length c0) l ∧ l.length ≤ c0 ∧ (A0 = none → c0 = 0)) (hl : l.length * 8 ≤ reachBytes) :
    Calls Tryd.prog 5 #[.int .i64 T, .slice A0 l.length c0] w fun e w' => e = .returned (.bool true) ∧ Below w.heap.size w w' :=
  shares_walk T A0 c0 l w (kdC_of h.1) h.2.1 h.2.2 (by have : reachBytes < 2 ^ 47 := by decide
                                                       omega)
end Go.Proofs.YtgkliaalfiginaaDoor
