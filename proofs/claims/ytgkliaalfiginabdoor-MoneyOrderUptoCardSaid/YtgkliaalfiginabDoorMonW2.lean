import Derived.Test.YtgkliaalfiginabDoorMonS1
/- the plain law of MoneyOrder: two places changed; a list and its opposites -/
namespace Go.Proofs.YtgkliaalfiginabDoor
set_option linter.unusedVariables false
set_option linter.unusedSimpArgs false
namespace Mo
/-- two places changed -/
def swp (l : List Int) (i k : Nat) : List Int := (l.set i (l.getD k 0)).set k (l.getD i 0)
theorem swp_len (l : List Int) (i k : Nat) : (swp l i k).length = l.length := by simp [swp]
theorem swp_perm (l : List Int) (i k : Nat) (hi : i < l.length) (hk : k < l.length) : (swp l i k).Perm l := by
  have h : ((l.set i l[k]).set k l[i]).Perm l := List.set_set_perm hi hk
  have e1 : l.getD k 0 = l[k] := by rw [List.getD_eq_getElem?_getD, List.getElem?_eq_getElem hk]; rfl
  have e2 : l.getD i 0 = l[i] := by rw [List.getD_eq_getElem?_getD, List.getElem?_eq_getElem hi]; rfl
  unfold swp
  rw [e1, e2]
  exact h
theorem sum_perm {l m : List Int} (h : l.Perm m) : l.sum = m.sum := by
  induction h with
  | nil => rfl
  | cons x _ ih => rw [List.sum_cons, List.sum_cons, ih]
  | swap x y l => rw [List.sum_cons, List.sum_cons, List.sum_cons, List.sum_cons]; omega
  | trans _ _ h1 h2 => rw [h1, h2]
theorem all_perm {l m : List Int} (h : l.Perm m) : l.all okI = m.all okI := by
  rw [Bool.eq_iff_iff, List.all_eq_true, List.all_eq_true]
  exact ⟨fun a x hx => a x (h.mem_iff.2 hx), fun a x hx => a x (h.mem_iff.1 hx)⟩
theorem sumE_perm {l m : List Int} (h : l.Perm m) : sumE l = sumE m := by
  unfold sumE
  rw [all_perm h, sum_perm h]
theorem sumE_swp (l : List Int) (i k : Nat) (hi : i < l.length) (hk : k < l.length) : sumE (swp l i k) = sumE l := sumE_perm (swp_perm l i k hi hk)
/-- each, and its opposite -/
def both (l : List Int) : List Int := l.flatMap (fun x => [x, -x])
theorem both_take (l : List Int) (k : Nat) (h : k < l.length) : both (l.take (k + 1)) = both (l.take k) ++ [l[k], -l[k]] := by
  unfold both
  rw [List.take_succ_eq_append_getElem h, List.flatMap_append]
  rfl
theorem both_len (l : List Int) : (both l).length = 2 * l.length := by
  induction l with
  | nil => rfl
  | cons x l ih =>
    have e : both (x :: l) = x :: -x :: both l := rfl
    rw [e, List.length_cons, List.length_cons, List.length_cons, ih]
    omega
theorem both_sum (l : List Int) : (both l).sum = 0 := by
  induction l with
  | nil => rfl
  | cons x l ih =>
    have e : both (x :: l) = x :: -x :: both l := rfl
    rw [e, List.sum_cons, List.sum_cons, ih]
    omega
theorem both_all (l : List Int) (h : l.all okI = true) : (both l).all okI = true := by
  induction l with
  | nil => rfl
  | cons x l ih =>
    have e : both (x :: l) = x :: -x :: both l := rfl
    rw [List.all_cons, Bool.and_eq_true] at h
    rw [e, List.all_cons, List.all_cons, Bool.and_eq_true, Bool.and_eq_true]
    have hx := (okI_iff x).1 h.1
    exact ⟨h.1, (okI_iff _).2 (by omega), ih h.2⟩
theorem sumE_both (l : List Int) (h : l.all okI = true) : sumE (both l) = (0, 0) := by
  unfold sumE
  rw [if_pos (both_all l h), both_sum, if_pos (by decide)]
theorem sumE_no (l : List Int) (h : l.all okI = false) : sumE l = (0, 22) := by
  unfold sumE
  rw [if_neg (by rw [h]; decide)]
end Mo
end Go.Proofs.YtgkliaalfiginabDoor
