import Derived.Test.YtgkliaalfiginabDoorMonW0
import Derived.Test.YtgkliaalfiginabDoorMonW1
import Derived.Test.YtgkliaalfiginabDoorMonS1
/- the list of Share's parts -/
namespace Go.Proofs.YtgkliaalfiginabDoor
open Go.RowKit Go.Lib
set_option linter.unusedVariables false
set_option linter.unusedSimpArgs false
namespace Wh
/-- the parts, as a list -/
def pl (n : Nat) (B : Nat → Nat) : List Int := (List.range n).map (fun i => (B i : Int))
theorem pl_len (n : Nat) (B : Nat → Nat) : (pl n B).length = n := by simp [pl]
theorem pl_at (n : Nat) (B : Nat → Nat) (i : Nat) (h : i < n) : (pl n B)[i]? = some (B i : Int) := by simp [pl, h]
theorem pl_sum (n : Nat) (B : Nat → Nat) : (pl n B).sum = (Sh.pre B n : Int) := by
  induction n with
  | zero => rfl
  | succ n ih =>
    have e : pl (n + 1) B = pl n B ++ [(B n : Int)] := by unfold pl; rw [List.range_succ, List.map_append]; rfl
    rw [e, List.sum_append, ih, Sh.pre_succ, List.sum_cons, List.sum_nil]
    omega
theorem pl_sumE (n : Nat) (B : Nat → Nat) (h : Sh.pre B n ≤ 1000000000000000) : Mo.sumE (pl n B) = ((Sh.pre B n : Int), 0) := by
  have hall : (pl n B).all Mo.okI = true := by
    rw [List.all_eq_true]
    intro x hx
    obtain ⟨i, hi, rfl⟩ := List.mem_map.1 hx
    have h1 := Sh.le_pre B i n (List.mem_range.1 hi)
    exact (Mo.okI_iff _).2 (by omega)
  unfold Mo.sumE
  rw [if_pos hall, pl_sum, if_pos (by unfold Mo.chk; rw [if_neg (by omega)])]
end Wh
/-- the parts in memory, as a slice of integers -/
theorem rdI_parts {w : World} {gp n : Nat} {B : Nat → Nat} (hn : n ≤ 4096) (h : ∀ i, i < n → w.cell? ⟨gp, i, none⟩ = some (.int .i64 (B i : Int))) : RdI w (.slice (some ⟨gp, 0, none⟩) n n) (Wh.pl n B) := by
  refine ⟨some ⟨gp, 0, none⟩, n, by rw [Wh.pl_len], by rw [Wh.pl_len]; omega, fun _ => ⟨_, rfl, fun j x hj => ?_⟩⟩
  have hjn : j < n := by
    rcases Nat.lt_or_ge j n with c | c
    · exact c
    · rw [List.getElem?_eq_none (by rw [Wh.pl_len]; exact c)] at hj; cases hj
  rw [Wh.pl_at n B j hjn] at hj
  injection hj with hj
  subst hj
  have e : (⟨gp, 0, none⟩ : Addr).add j = ⟨gp, j, none⟩ := by rw [Addr.add_lit, Nat.zero_add]
  rw [e]
  exact h j hjn
end Go.Proofs.YtgkliaalfiginabDoor
